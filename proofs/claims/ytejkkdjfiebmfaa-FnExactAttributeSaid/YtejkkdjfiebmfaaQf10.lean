/- Words and contracts for the row RowFnExactAttribute: what the Go functions answer that it calls; printed by programs of the kit and of this session, and merged. -/
import Derived.Test.YtejkkdjfiebmfaaQf9
namespace Go.Proofs.Ytejkkdjfiebmfaa.L
open Go.RowKit Go.Proofs.YtejkkdjfiebmfaaW.PrintWords Go.Proofs.YtejkkdjfiebmfaaW.PrintLast Go.Proofs.YtejkkdjfiebmfaaW.PrintMore
attribute [local go_sem] max2_int min2_int max_two min_two max_three min_three max_four min_four
set_option linter.unusedVariables false
set_option linter.unusedSimpArgs false

/-! ### laws_FnExactAttribute: function 7 -/
theorem R_pmarkedE {α : Type} {d : Kd α} {e : Nat} {W w1 : World} {base : Nat} {ok P0 : Nat → Prop} {v : Value} {xs : List α} (hE : d.E = []) (h : d.R e W base ok v xs) (hk : Kept W w1 P0) (hne : ∀ k, P0 k → some k ≠ v.ownBlock) : d.R e w1 base ok v xs :=
 Kd.R_mono (Kd.R_step (Kd.R_tight2 hE h) (fun k hk_ hlt => hk.2 k hlt (fun hp => hne k hp hk_.1))) (fun _ hk => hk.2)
theorem R_pmarked {W w1 : World} {base : Nat} {ok P0 : Nat → Prop} {v : Value} {xs : List Int} (h : Kd.R (Kd.int .i64) 2 W base ok v xs) (hk : Kept W w1 P0) (hne : ∀ k, P0 k → some k ≠ v.ownBlock) : Kd.R (Kd.int .i64) 2 w1 base ok v xs :=
 Kd.R_mono (Kd.R_step (Kd.R_tight2 rfl h) (fun k hk_ hlt => hk.2 k hlt (fun hp => hne k hp hk_.1))) (fun _ hk => hk.2)
mutual
def laws_FnExactAttribute.j0 : Nat → List (S46) → List ByteArray → List Int → Bool → List (S49) → List ByteArray → List Int → Bool → Bool → Option (Bool)
 | 0, _, _, _, _, _, _, _, _, _ => none
 | k + 1, x0, x1, x6, x7, x8, x9, x10, x11, x53 => if x53 = true then (some false) else ((laws_toPNodeS.f k x0).bind fun t518 => ((laws_eqPNodeS.f k x8 t518).bind fun t521 => (if t521 = true then ((laws_toStringS.f k x1).bind fun t522 => ((laws_eqStringS.f k x9 t522).bind fun t525 => (if t525 = true then ((laws_markPNodeS.f k x8 1).bind fun t526 => ((laws_markStringS.f k x9 t526).bind fun bt527 => (if bt527.1 < 0 then (laws_FnExactAttribute.j1 k x0 x1 x6 x7 x10 true) else ((laws_eqInt64S.f k x10 x6).bind fun t529 => (if t529 = true then (laws_FnExactAttribute.j1 k x0 x1 x6 x7 x10 (x11 != x7)) else (laws_FnExactAttribute.j1 k x0 x1 x6 x7 x10 true)))))) else (some false)))) else (some false))))
def laws_FnExactAttribute.j1 : Nat → List (S46) → List ByteArray → List Int → Bool → List Int → Bool → Option (Bool)
 | 0, _, _, _, _, _, _ => none
 | k + 1, x0, x1, x6, x7, x10, x82 => if x82 = true then (some false) else ((laws_markInt64S.f k x10 1).bind fun bt530 => ((laws_heldInt64S.f k bt530.2 1).bind fun t532 => (if t532 < 0 then (some false) else (if t532 = bt530.1 then ((laws_toPNodeS.f k x0).bind fun t533 => ((laws_toStringS.f k x1).bind fun t536 => ((impl_Attribute.f k t533 t536).bind fun bt539 => ((laws_eqInt64S.f k bt539.1 x6).bind fun t543 => (if t543 = true then (laws_FnExactAttribute.j2 k bt530.2 bt530.1 (bt539.2 != x7)) else (laws_FnExactAttribute.j2 k bt530.2 bt530.1 true)))))) else (some false)))))
def laws_FnExactAttribute.j2 : Nat → List Int → Int → Bool → Option (Bool)
 | 0, _, _, _ => none
 | k + 1, x10, x13, x110 => if x110 = true then (some false) else ((laws_heldInt64S.f k x10 1).bind fun t544 => (if t544 < 0 then (some false) else (if t544 = x13 then (some true) else (some false))))
end
def laws_FnExactAttribute.f (k : Nat) (l0 : List (S46)) (l1 : List ByteArray) : Option (Bool) := (laws_szPNodeS.f k l0 1048576).bind fun t495 => (if t495 < 0 then (some true) else ((laws_szStringS.f k l1 t495).bind fun t496 => (if t496 < 0 then (some true) else ((laws_toPNodeS.f k l0).bind fun t497 => ((laws_toStringS.f k l1).bind fun t500 => ((spec_Attribute.f k t497 t500).bind fun bt503 => ((laws_toPNodeS.f k l0).bind fun t507 => ((laws_toStringS.f k l1).bind fun t510 => ((impl_Attribute.f k t507 t510).bind fun bt513 => ((laws_eqInt64S.f k bt513.1 bt503.1).bind fun t517 => (if t517 = true then (laws_FnExactAttribute.j0 k l0 l1 bt503.1 bt503.2 t507 t510 bt513.1 bt513.2 (bt513.2 != bt503.2)) else (laws_FnExactAttribute.j0 k l0 l1 bt503.1 bt503.2 t507 t510 bt513.1 bt513.2 true))))))))))))
set_option maxHeartbeats 8000000 in
set_option maxRecDepth 100000 in
theorem laws_FnExactAttribute.calls (k : Nat) (A0 : Option Addr) (c0 : Nat) (l0 : List (S46)) (A1 : Option Addr) (c1 : Nat) (l1 : List ByteArray) (r : Bool) (w : World) (hr0 : Kd.C k46 w A0 l0.length l0) (hc0 : l0.length ≤ c0) (hr1 : Kd.C Kd.string w A1 l1.length l1) (hc1 : l1.length ≤ c1) (h : laws_FnExactAttribute.f k l0 l1 = some r) :
  Calls Try.prog 7 #[.slice A0 l0.length c0, .slice A1 l1.length c1] w fun e w' => e = .returned (.bool r) ∧ Below w.heap.size w w' := by
 have HR0 := Aside0.mk hr0
 have HC0 := Aside0.mk hc0
 clear hr0 hc0
 have HR1 := Aside0.mk hr1
 have HC1 := Aside0.mk hc1
 clear hr1 hc1
 have HB := Aside0.mk (Below.refl w.heap.size w)
 have H : ((laws_szPNodeS.f k l0 1048576).bind fun t495 => (if t495 < 0 then (some true) else ((laws_szStringS.f k l1 t495).bind fun t496 => (if t496 < 0 then (some true) else ((laws_toPNodeS.f k l0).bind fun t497 => ((laws_toStringS.f k l1).bind fun t500 => ((spec_Attribute.f k t497 t500).bind fun bt503 => ((laws_toPNodeS.f k l0).bind fun t507 => ((laws_toStringS.f k l1).bind fun t510 => ((impl_Attribute.f k t507 t510).bind fun bt513 => ((laws_eqInt64S.f k bt513.1 bt503.1).bind fun t517 => (if t517 = true then (laws_FnExactAttribute.j0 k l0 l1 bt503.1 bt503.2 t507 t510 bt513.1 bt513.2 (bt513.2 != bt503.2)) else (laws_FnExactAttribute.j0 k l0 l1 bt503.1 bt503.2 t507 t510 bt513.1 bt513.2 true))))))))))))) = some r := h
 clear h
 replace H := Option.bind_eq_some_iff.mp H
 obtain ⟨t495, A30, H⟩ := H
 replace H : (if t495 < 0 then (some true) else ((laws_szStringS.f k l1 t495).bind fun t496 => (if t496 < 0 then (some true) else ((laws_toPNodeS.f k l0).bind fun t497 => ((laws_toStringS.f k l1).bind fun t500 => ((spec_Attribute.f k t497 t500).bind fun bt503 => ((laws_toPNodeS.f k l0).bind fun t507 => ((laws_toStringS.f k l1).bind fun t510 => ((impl_Attribute.f k t507 t510).bind fun bt513 => ((laws_eqInt64S.f k bt513.1 bt503.1).bind fun t517 => (if t517 = true then (laws_FnExactAttribute.j0 k l0 l1 bt503.1 bt503.2 t507 t510 bt513.1 bt513.2 (bt513.2 != bt503.2)) else (laws_FnExactAttribute.j0 k l0 l1 bt503.1 bt503.2 t507 t510 bt513.1 bt513.2 true)))))))))))) = some r := H
 have A3 := Aside0.mk A30
 clear A30
 by_cases c4 : t495 < 0
 ·rw [if_pos c4] at H
  have c4b0 := decide_eq_true c4
  clear c4
  obtain rfl := Option.some.inj H
  go_enter Try.func7, Try.ntmps7
  go_wp2_with (first | ((with_reducible refine gate_callee (f := 9) rfl ?_); refine goesL_ (some 19) rfl rfl Try.func9 dq21 rfl #[.slice A0 l0.length c0, .int .i64 1048576] rfl dq20 ?_; (with_reducible refine (laws_szPNodeS.calls k _ _ l0 1048576 t495 _ ?side1 ?side2 A3.out).mono ?_); (case side1 => exact dq3); (case side2 => exact dq4); rintro e w5 ⟨rfl, hb⟩; refine ⟨_, rfl, ?_⟩; have n0_ := Aside0.mk (below_step dq17 hb); clear HB; have HB := n0_; clear n0_; (try clear hb); (try clear hb2); (try clear hk); (try clear hi)))
  go_ret
  exact ⟨dq19, dq17⟩
 rw [if_neg c4] at H
 have c4b0 := decide_eq_false c4
 clear c4
 replace H := Option.bind_eq_some_iff.mp H
 obtain ⟨t496, A60, H⟩ := H
 replace H : (if t496 < 0 then (some true) else ((laws_toPNodeS.f k l0).bind fun t497 => ((laws_toStringS.f k l1).bind fun t500 => ((spec_Attribute.f k t497 t500).bind fun bt503 => ((laws_toPNodeS.f k l0).bind fun t507 => ((laws_toStringS.f k l1).bind fun t510 => ((impl_Attribute.f k t507 t510).bind fun bt513 => ((laws_eqInt64S.f k bt513.1 bt503.1).bind fun t517 => (if t517 = true then (laws_FnExactAttribute.j0 k l0 l1 bt503.1 bt503.2 t507 t510 bt513.1 bt513.2 (bt513.2 != bt503.2)) else (laws_FnExactAttribute.j0 k l0 l1 bt503.1 bt503.2 t507 t510 bt513.1 bt513.2 true)))))))))) = some r := H
 have A6 := Aside0.mk A60
 clear A60
 by_cases c7 : t496 < 0
 ·rw [if_pos c7] at H
  have c7b0 := decide_eq_true c7
  clear c7
  obtain rfl := Option.some.inj H
  go_enter Try.func7, Try.ntmps7
  go_wp2_with (first | ((with_reducible refine gate_callee (f := 9) rfl ?_); refine goesL_ (some 19) rfl rfl Try.func9 dq21 rfl #[.slice A0 l0.length c0, .int .i64 1048576] rfl dq20 ?_; (with_reducible refine (laws_szPNodeS.calls k _ _ l0 1048576 t495 _ ?side1 ?side2 A3.out).mono ?_); (case side1 => exact dq3); (case side2 => exact dq4); rintro e w8 ⟨rfl, hb⟩; refine ⟨_, rfl, ?_⟩; have n0_ := Aside0.mk (below_step dq17 hb); clear HB; have HB := n0_; clear n0_; (try clear hb); (try clear hb2); (try clear hk); (try clear hi)) | ((with_reducible refine gate_callee (f := 24) rfl ?_); refine goesL_ (some 24) rfl rfl Try.func24 dq21 rfl #[.slice A1 l1.length c1, .int .i64 t495] rfl dq20 ?_; (with_reducible refine (laws_szStringS.calls k _ _ l1 t495 t496 _ ?side1 ?side2 A6.out).mono ?_); (case side1 => exact dq7); (case side2 => exact HC1.out); rintro e w' ⟨rfl, ⟨nd, rfl⟩⟩; refine ⟨_, rfl, ?_⟩))
  go_ret
  exact ⟨dq19, dq17⟩
 rw [if_neg c7] at H
 have c7b0 := decide_eq_false c7
 clear c7
 replace H := Option.bind_eq_some_iff.mp H
 obtain ⟨t497, A90, H⟩ := H
 replace H : ((laws_toStringS.f k l1).bind fun t500 => ((spec_Attribute.f k t497 t500).bind fun bt503 => ((laws_toPNodeS.f k l0).bind fun t507 => ((laws_toStringS.f k l1).bind fun t510 => ((impl_Attribute.f k t507 t510).bind fun bt513 => ((laws_eqInt64S.f k bt513.1 bt503.1).bind fun t517 => (if t517 = true then (laws_FnExactAttribute.j0 k l0 l1 bt503.1 bt503.2 t507 t510 bt513.1 bt513.2 (bt513.2 != bt503.2)) else (laws_FnExactAttribute.j0 k l0 l1 bt503.1 bt503.2 t507 t510 bt513.1 bt513.2 true)))))))) = some r := H
 have A9 := Aside0.mk A90
 clear A90
 replace H := Option.bind_eq_some_iff.mp H
 obtain ⟨t500, A100, H⟩ := H
 replace H : ((spec_Attribute.f k t497 t500).bind fun bt503 => ((laws_toPNodeS.f k l0).bind fun t507 => ((laws_toStringS.f k l1).bind fun t510 => ((impl_Attribute.f k t507 t510).bind fun bt513 => ((laws_eqInt64S.f k bt513.1 bt503.1).bind fun t517 => (if t517 = true then (laws_FnExactAttribute.j0 k l0 l1 bt503.1 bt503.2 t507 t510 bt513.1 bt513.2 (bt513.2 != bt503.2)) else (laws_FnExactAttribute.j0 k l0 l1 bt503.1 bt503.2 t507 t510 bt513.1 bt513.2 true))))))) = some r := H
 have A10 := Aside0.mk A100
 clear A100
 replace H := Option.bind_eq_some_iff.mp H
 obtain ⟨⟨t503, t504⟩, A110, H⟩ := H
 replace H : ((laws_toPNodeS.f k l0).bind fun t507 => ((laws_toStringS.f k l1).bind fun t510 => ((impl_Attribute.f k t507 t510).bind fun bt513 => ((laws_eqInt64S.f k bt513.1 t503).bind fun t517 => (if t517 = true then (laws_FnExactAttribute.j0 k l0 l1 t503 t504 t507 t510 bt513.1 bt513.2 (bt513.2 != t504)) else (laws_FnExactAttribute.j0 k l0 l1 t503 t504 t507 t510 bt513.1 bt513.2 true)))))) = some r := H
 have A11 := Aside0.mk A110
 clear A110
 replace H := Option.bind_eq_some_iff.mp H
 obtain ⟨t507, A120, H⟩ := H
 replace H : ((laws_toStringS.f k l1).bind fun t510 => ((impl_Attribute.f k t507 t510).bind fun bt513 => ((laws_eqInt64S.f k bt513.1 t503).bind fun t517 => (if t517 = true then (laws_FnExactAttribute.j0 k l0 l1 t503 t504 t507 t510 bt513.1 bt513.2 (bt513.2 != t504)) else (laws_FnExactAttribute.j0 k l0 l1 t503 t504 t507 t510 bt513.1 bt513.2 true))))) = some r := H
 have A12 := Aside0.mk A120
 clear A120
 replace H := Option.bind_eq_some_iff.mp H
 obtain ⟨t510, A130, H⟩ := H
 replace H : ((impl_Attribute.f k t507 t510).bind fun bt513 => ((laws_eqInt64S.f k bt513.1 t503).bind fun t517 => (if t517 = true then (laws_FnExactAttribute.j0 k l0 l1 t503 t504 t507 t510 bt513.1 bt513.2 (bt513.2 != t504)) else (laws_FnExactAttribute.j0 k l0 l1 t503 t504 t507 t510 bt513.1 bt513.2 true)))) = some r := H
 have A13 := Aside0.mk A130
 clear A130
 replace H := Option.bind_eq_some_iff.mp H
 obtain ⟨⟨t513, t514⟩, A140, H⟩ := H
 replace H : ((laws_eqInt64S.f k t513 t503).bind fun t517 => (if t517 = true then (laws_FnExactAttribute.j0 k l0 l1 t503 t504 t507 t510 t513 t514 (t514 != t504)) else (laws_FnExactAttribute.j0 k l0 l1 t503 t504 t507 t510 t513 t514 true))) = some r := H
 have A14 := Aside0.mk A140
 clear A140
 have HC15 := Aside0.mk H
 clear H
 go_enter Try.func7, Try.ntmps7
 go_upto_region 12 with (first | ((with_reducible refine gate_callee (f := 9) rfl ?_); refine goesL_ (some 19) rfl rfl Try.func9 dq21 rfl #[.slice A0 l0.length c0, .int .i64 1048576] rfl dq20 ?_; (with_reducible refine (laws_szPNodeS.calls k _ _ l0 1048576 t495 _ ?side1 ?side2 A3.out).mono ?_); (case side1 => exact dq3); (case side2 => exact dq4); rintro e w16 ⟨rfl, hb⟩; refine ⟨_, rfl, ?_⟩; have n0_ := Aside0.mk (below_step dq17 hb); clear HB; have HB := n0_; clear n0_; (try clear hb); (try clear hb2); (try clear hk); (try clear hi)) | ((with_reducible refine gate_callee (f := 24) rfl ?_); refine goesL_ (some 24) rfl rfl Try.func24 dq21 rfl #[.slice A1 l1.length c1, .int .i64 t495] rfl dq20 ?_; (with_reducible refine (laws_szStringS.calls k _ _ l1 t495 t496 _ ?side1 ?side2 A6.out).mono ?_); (case side1 => exact dq7); (case side2 => exact HC1.out); rintro e w' ⟨rfl, ⟨nd, rfl⟩⟩; refine ⟨_, rfl, ?_⟩) | ((with_reducible refine gate_callee (f := 11) rfl ?_); refine goesL_ (some 29) rfl rfl Try.func11 dq21 rfl #[.slice A0 l0.length c0] rfl dq20 ?_; (with_reducible refine (laws_toPNodeS.calls k _ _ l0 t497 _ ?side1 ?side2 A9.out).mono ?_); (case side1 => repeat (first | exact (Kd.C_below HR0.out dq17) | (with_reducible refine Kd.C_alloc ?_ _) | (with_reducible refine Kd.C_drewN ?_ _) | (with_reducible refine Kd.C_drew ?_))); (case side2 => exact dq4); rintro e w17 ⟨v498, rfl, ho0, hb⟩; refine ⟨_, rfl, ?_⟩; have n0_ := Aside0.mk (Kd.S_lower ho0 (below_size dq17)); have n1_ := Aside0.mk (below_step dq17 hb); clear HB; have HO499 := n0_; have HB := n1_; clear n0_ n1_; (try clear hb); (try clear hb2); (try clear hk); (try clear hi); (try clear ho0)) | ((with_reducible refine gate_callee (f := 26) rfl ?_); refine goesL_ (some 31) rfl rfl Try.func26 dq21 rfl #[.slice A1 l1.length c1] rfl dq20 ?_; (with_reducible refine (laws_toStringS.calls k _ _ l1 t500 _ ?side1 ?side2 A10.out).mono ?_); (case side1 => exact dq7); (case side2 => exact HC1.out); rintro e w18 ⟨v501, rfl, ho0, hb⟩; refine ⟨_, rfl, ?_⟩; have n0_ := Aside0.mk (Kd.S_below dq124 hb); have n1_ := Aside0.mk (Kd.R_lower ho0 (below_size dq17)); have n2_ := Aside0.mk (below_step dq17 hb); clear HO499; clear HB; have HO499 := n0_; have HO502 := n1_; have HB := n2_; clear n0_ n1_ n2_; (try clear hb); (try clear hb2); (try clear hk); (try clear hi); (try clear ho0); obtain ⟨Ao19, co19, eo19⟩ := Kd.S_slice HO499.out; subst eo19; obtain ⟨Ao20, co20, eo20⟩ := Kd.R_slice HO502.out; subst eo20) | ((with_reducible refine gate_callee (f := 25) rfl ?_); refine goesL_ (some 32) rfl rfl Try.func25 dq21 rfl #[.slice Ao19 t497.length co19, .slice Ao20 t500.length co20] rfl dq20 ?_; (with_reducible refine (spec_Attribute.calls k _ _ t497 _ _ t500 t503 t504 _ ?side1 ?side2 ?side3 ?side4 A11.out).mono ?_); (case side1 => repeat (first | exact (Kd.S_reads' HO499.out).2.2 | (with_reducible refine Kd.C_alloc ?_ _) | (with_reducible refine Kd.C_drewN ?_ _) | (with_reducible refine Kd.C_drew ?_))); (case side2 => exact (Kd.S_reads' HO499.out).2.1); (case side3 => repeat (first | exact (Kd.R_reads' HO502.out).2.2 | (with_reducible refine Kd.C_alloc ?_ _) | (with_reducible refine Kd.C_drewN ?_ _) | (with_reducible refine Kd.C_drew ?_))); (case side4 => exact (Kd.R_reads' HO502.out).2.1); rintro e w21 ⟨v505, rfl, ho0, hb⟩; refine ⟨_, rfl, ?_⟩; have n0_ := Aside0.mk (Kd.S_elder' dq124 (Kd.R_base ho0) hb); have n1_ := Aside0.mk (Kd.R_below dq123 hb); have n2_ := Aside0.mk (Kd.R_lower ho0 (below_size dq17)); have n3_ := Aside0.mk (below_step dq17 hb); clear HO499; clear HO502; clear HB; have HO499 := n0_; have HO502 := n1_; have HO506 := n2_; have HB := n3_; clear n0_ n1_ n2_ n3_; (try clear hb); (try clear hb2); (try clear hk); (try clear hi); (try clear ho0)) | ((with_reducible refine gate_callee (f := 11) rfl ?_); refine goesL_ (some 36) rfl rfl Try.func11 dq21 rfl #[.slice A0 l0.length c0] rfl dq20 ?_; (with_reducible refine (laws_toPNodeS.calls k _ _ l0 t507 _ ?side1 ?side2 A12.out).mono ?_); (case side1 => exact dq5); (case side2 => exact dq4); rintro e w22 ⟨v508, rfl, ho0, hb⟩; refine ⟨_, rfl, ?_⟩; have n0_ := Aside0.mk (Kd.S_elder' dq124 (Kd.S_base ho0) hb); have n1_ := Aside0.mk (Kd.R_below dq123 hb); have n2_ := Aside0.mk (Kd.R_below dq122 hb); have n3_ := Aside0.mk (Kd.S_lower (Kd.S_new' (Kd.S_new' ho0 (Kd.S_lt dq124)) (Kd.R_lt dq122)) (below_size dq17)); have n4_ := Aside0.mk (below_step dq17 hb); clear HO499; clear HO502; clear HO506; clear HB; have HO499 := n0_; have HO502 := n1_; have HO506 := n2_; have HO509 := n3_; have HB := n4_; clear n0_ n1_ n2_ n3_ n4_; (try clear hb); (try clear hb2); (try clear hk); (try clear hi); (try clear ho0)) | ((with_reducible refine gate_callee (f := 26) rfl ?_); refine goesL_ (some 38) rfl rfl Try.func26 dq21 rfl #[.slice A1 l1.length c1] rfl dq20 ?_; (with_reducible refine (laws_toStringS.calls k _ _ l1 t510 _ ?side1 ?side2 A13.out).mono ?_); (case side1 => exact dq7); (case side2 => exact HC1.out); rintro e w23 ⟨v511, rfl, ho0, hb⟩; refine ⟨_, rfl, ?_⟩; have n0_ := Aside0.mk (Kd.S_below dq124 hb); have n1_ := Aside0.mk (Kd.R_elder' dq123 (Kd.R_base ho0) hb); have n2_ := Aside0.mk (Kd.R_below dq122 hb); have n3_ := Aside0.mk (Kd.S_below (by (with_reducible repeat (first | apply Kd.S_alloc | apply Kd.S_drewN | apply Kd.S_drew)); exact HO509.out) hb); have n4_ := Aside0.mk (Kd.R_lower (Kd.R_new' ho0 (Kd.R_lt dq123)) (below_size dq17)); have n5_ := Aside0.mk (below_step dq17 hb); clear HO499; clear HO502; clear HO506; clear HO509; clear HB; have HO499 := n0_; have HO502 := n1_; have HO506 := n2_; have HO509 := n3_; have HO512 := n4_; have HB := n5_; clear n0_ n1_ n2_ n3_ n4_ n5_; (try clear hb); (try clear hb2); (try clear hk); (try clear hi); (try clear ho0); obtain ⟨Ao24, co24, eo24⟩ := Kd.S_slice HO509.out; subst eo24; obtain ⟨Ao25, co25, eo25⟩ := Kd.R_slice HO512.out; subst eo25) | ((with_reducible refine gate_callee (f := 27) rfl ?_); refine goesL_ (some 42) rfl rfl Try.func27 dq21 rfl #[.slice Ao24 t507.length co24, .slice Ao25 t510.length co25] rfl dq20 ?_; (with_reducible refine (impl_Attribute.calls k _ _ t507 _ _ t510 t513 t514 _ ?side1 ?side2 ?side3 ?side4 A14.out).mono ?_); (case side1 => repeat (first | exact (Kd.S_reads' HO509.out).2.2 | (with_reducible refine Kd.C_alloc ?_ _) | (with_reducible refine Kd.C_drewN ?_ _) | (with_reducible refine Kd.C_drew ?_))); (case side2 => exact (Kd.S_reads' HO509.out).2.1); (case side3 => repeat (first | exact (Kd.R_reads' HO512.out).2.2 | (with_reducible refine Kd.C_alloc ?_ _) | (with_reducible refine Kd.C_drewN ?_ _) | (with_reducible refine Kd.C_drew ?_))); (case side4 => exact (Kd.R_reads' HO512.out).2.1); rintro e w26 ⟨v515, rfl, ho0, hb⟩; refine ⟨_, rfl, ?_⟩; have n0_ := Aside0.mk (Kd.S_elder' dq124 (Kd.R_base ho0) hb); have n1_ := Aside0.mk (Kd.R_below dq123 hb); have n2_ := Aside0.mk (Kd.R_elder' dq122 (Kd.R_base ho0) hb); have n3_ := Aside0.mk (Kd.S_elder' (by (with_reducible repeat (first | apply Kd.S_alloc | apply Kd.S_drewN | apply Kd.S_drew)); exact HO509.out) (Kd.R_base ho0) hb); have n4_ := Aside0.mk (Kd.R_below (by (with_reducible repeat (first | apply Kd.R_alloc | apply Kd.R_drewN | apply Kd.R_drew)); exact HO512.out) hb); have n5_ := Aside0.mk (Kd.R_lower (Kd.R_new' ho0 (Kd.R_lt dq122)) (below_size dq17)); have n6_ := Aside0.mk (below_step dq17 hb); clear HO499; clear HO502; clear HO506; clear HO509; clear HO512; clear HB; have HO499 := n0_; have HO502 := n1_; have HO506 := n2_; have HO509 := n3_; have HO512 := n4_; have HO516 := n5_; have HB := n6_; clear n0_ n1_ n2_ n3_ n4_ n5_ n6_; (try clear hb); (try clear hb2); (try clear hk); (try clear hi); (try clear ho0)))
 (try simp only [Act.put, List.setIfInBounds_toArray, List.set_cons_zero, List.set_cons_succ])
 go_cut [53] (fun v53 wc => ∃ (kq : Nat) (x53_14 : Bool), v53 = .bool x53_14 ∧ Aside0 (laws_FnExactAttribute.j0 kq l0 l1 t503 t504 t507 t510 t513 t514 x53_14 = some r) ∧ Aside0 (kq ≤ k) ∧ Aside0 (Kd.R (Kd.int .i64) 2 wc w.heap.size (fun k_ => some k_ ≠ (v515 : Value).ownBlock) v505 t503) ∧ Aside0 (Kd.S k49 49 wc w.heap.size (fun k_ => some k_ ≠ (v505 : Value).ownBlock ∧ some k_ ≠ (v515 : Value).ownBlock) (.slice Ao24 t507.length co24) t507) ∧ Aside0 (Kd.R Kd.string 9 wc w.heap.size (fun _ => True) (.slice Ao25 t510.length co25) t510) ∧ Aside0 (Kd.R (Kd.int .i64) 2 wc w.heap.size (fun k_ => some k_ ≠ (v505 : Value).ownBlock) v515 t513) ∧ Aside0 (Below w.heap.size w wc))
 case first =>
  have H := HC15.out
  clear HC15
  replace H := Option.bind_eq_some_iff.mp H
  obtain ⟨t517, A270, H⟩ := H
  replace H : (if t517 = true then (laws_FnExactAttribute.j0 k l0 l1 t503 t504 t507 t510 t513 t514 (t514 != t504)) else (laws_FnExactAttribute.j0 k l0 l1 t503 t504 t507 t510 t513 t514 true)) = some r := H
  have A27 := Aside0.mk A270
  clear A270
  by_cases c28 : t517 = true
  ·subst c28
   have H1 : (laws_FnExactAttribute.j0 k l0 l1 t503 t504 t507 t510 t513 t514 (t514 != t504)) = some r := by rw [if_pos rfl] at H; exact H
   clear H
   have H := H1
   clear H1
   have H' := Aside0.mk H
   clear H
   obtain ⟨Ao29, co29, eo29⟩ := Kd.R_slice HO516.out
   subst eo29
   obtain ⟨Ao30, co30, eo30⟩ := Kd.R_slice HO506.out
   subst eo30
   go_wp2_with (first | ((with_reducible refine gate_callee (f := 13) rfl ?_); refine goesL_ (some 47) rfl rfl Try.func13 dq21 rfl #[.slice Ao29 t513.length co29, .slice Ao30 t503.length co30] rfl dq20 ?_; (with_reducible refine (laws_eqInt64S.calls k _ _ t513 _ _ t503 true _ ?side1 ?side2 ?side3 ?side4 A27.out).mono ?_); (case side1 => repeat (first | exact (Kd.R_reads' HO516.out).2.2 | (with_reducible refine Kd.C_alloc ?_ _) | (with_reducible refine Kd.C_drewN ?_ _) | (with_reducible refine Kd.C_drew ?_))); (case side2 => exact (Kd.R_reads' HO516.out).2.1); (case side3 => repeat (first | exact (Kd.R_reads' HO506.out).2.2 | (with_reducible refine Kd.C_alloc ?_ _) | (with_reducible refine Kd.C_drewN ?_ _) | (with_reducible refine Kd.C_drew ?_))); (case side4 => exact (Kd.R_reads' HO506.out).2.1); rintro e w' ⟨rfl, ⟨nd, rfl⟩⟩; refine ⟨_, rfl, ?_⟩))
   go_meet
   case rel => exact ⟨_, ((t514 != t504)), dq15, H', ⟨dq45⟩, ⟨dq128⟩, ⟨dq127⟩, ⟨dq126⟩, ⟨dq125⟩, ⟨dq17⟩⟩
  replace c28 := Bool.eq_false_iff.mpr c28
  subst c28
  have H1 : (laws_FnExactAttribute.j0 k l0 l1 t503 t504 t507 t510 t513 t514 true) = some r := by rw [if_neg (show ¬ (false = true) by decide)] at H; exact H
  clear H
  have H := H1
  clear H1
  have H' := Aside0.mk H
  clear H
  obtain ⟨Ao31, co31, eo31⟩ := Kd.R_slice HO516.out
  subst eo31
  obtain ⟨Ao32, co32, eo32⟩ := Kd.R_slice HO506.out
  subst eo32
  go_wp2_with (first | ((with_reducible refine gate_callee (f := 13) rfl ?_); refine goesL_ (some 47) rfl rfl Try.func13 dq21 rfl #[.slice Ao31 t513.length co31, .slice Ao32 t503.length co32] rfl dq20 ?_; (with_reducible refine (laws_eqInt64S.calls k _ _ t513 _ _ t503 false _ ?side1 ?side2 ?side3 ?side4 A27.out).mono ?_); (case side1 => repeat (first | exact (Kd.R_reads' HO516.out).2.2 | (with_reducible refine Kd.C_alloc ?_ _) | (with_reducible refine Kd.C_drewN ?_ _) | (with_reducible refine Kd.C_drew ?_))); (case side2 => exact (Kd.R_reads' HO516.out).2.1); (case side3 => repeat (first | exact (Kd.R_reads' HO506.out).2.2 | (with_reducible refine Kd.C_alloc ?_ _) | (with_reducible refine Kd.C_drewN ?_ _) | (with_reducible refine Kd.C_drew ?_))); (case side4 => exact (Kd.R_reads' HO506.out).2.1); rintro e w' ⟨rfl, ⟨nd, rfl⟩⟩; refine ⟨_, rfl, ?_⟩))
  go_meet
  case rel => exact ⟨_, (true), dq15, H', ⟨dq45⟩, ⟨dq128⟩, ⟨dq127⟩, ⟨dq126⟩, ⟨dq125⟩, ⟨dq17⟩⟩
 clear HC15
 try clear c4b0
 try clear c7b0
 obtain ⟨kq, x53_14, rfl, HA, HJ14, HO_6, HO_8, HO_9, HO_10, HB⟩ := hcut
 cases kq with
 | zero => exact absurd HA.out (by simp [laws_FnExactAttribute.j0])
 | succ kj14 =>
  have H := HA.out
  clear HA
  simp only [laws_FnExactAttribute.j0] at H
  by_cases c33 : x53_14 = true
  ·subst c33
   have H1 : (some false) = some r := by rw [if_pos rfl] at H; exact H
   clear H
   have H := H1
   clear H1
   obtain rfl := Option.some.inj H
   go_wp2
   go_ret
   exact ⟨dq19, dq17⟩
  replace c33 := Bool.eq_false_iff.mpr c33
  subst c33
  have H1 : ((laws_toPNodeS.f kj14 l0).bind fun t518 => ((laws_eqPNodeS.f kj14 t507 t518).bind fun t521 => (if t521 = true then ((laws_toStringS.f kj14 l1).bind fun t522 => ((laws_eqStringS.f kj14 t510 t522).bind fun t525 => (if t525 = true then ((laws_markPNodeS.f kj14 t507 1).bind fun t526 => ((laws_markStringS.f kj14 t510 t526).bind fun bt527 => (if bt527.1 < 0 then (laws_FnExactAttribute.j1 kj14 l0 l1 t503 t504 t513 true) else ((laws_eqInt64S.f kj14 t513 t503).bind fun t529 => (if t529 = true then (laws_FnExactAttribute.j1 kj14 l0 l1 t503 t504 t513 (t514 != t504)) else (laws_FnExactAttribute.j1 kj14 l0 l1 t503 t504 t513 true)))))) else (some false)))) else (some false)))) = some r := by rw [if_neg (show ¬ (false = true) by decide)] at H; exact H
  clear H
  have H := H1
  clear H1
  replace H := Option.bind_eq_some_iff.mp H
  obtain ⟨t518, A340, H⟩ := H
  replace H : ((laws_eqPNodeS.f kj14 t507 t518).bind fun t521 => (if t521 = true then ((laws_toStringS.f kj14 l1).bind fun t522 => ((laws_eqStringS.f kj14 t510 t522).bind fun t525 => (if t525 = true then ((laws_markPNodeS.f kj14 t507 1).bind fun t526 => ((laws_markStringS.f kj14 t510 t526).bind fun bt527 => (if bt527.1 < 0 then (laws_FnExactAttribute.j1 kj14 l0 l1 t503 t504 t513 true) else ((laws_eqInt64S.f kj14 t513 t503).bind fun t529 => (if t529 = true then (laws_FnExactAttribute.j1 kj14 l0 l1 t503 t504 t513 (t514 != t504)) else (laws_FnExactAttribute.j1 kj14 l0 l1 t503 t504 t513 true)))))) else (some false)))) else (some false))) = some r := H
  have A34 := Aside0.mk A340
  clear A340
  replace H := Option.bind_eq_some_iff.mp H
  obtain ⟨t521, A350, H⟩ := H
  replace H : (if t521 = true then ((laws_toStringS.f kj14 l1).bind fun t522 => ((laws_eqStringS.f kj14 t510 t522).bind fun t525 => (if t525 = true then ((laws_markPNodeS.f kj14 t507 1).bind fun t526 => ((laws_markStringS.f kj14 t510 t526).bind fun bt527 => (if bt527.1 < 0 then (laws_FnExactAttribute.j1 kj14 l0 l1 t503 t504 t513 true) else ((laws_eqInt64S.f kj14 t513 t503).bind fun t529 => (if t529 = true then (laws_FnExactAttribute.j1 kj14 l0 l1 t503 t504 t513 (t514 != t504)) else (laws_FnExactAttribute.j1 kj14 l0 l1 t503 t504 t513 true)))))) else (some false)))) else (some false)) = some r := H
  have A35 := Aside0.mk A350
  clear A350
  by_cases c36 : t521 = true
  rotate_left
  ·replace c36 := Bool.eq_false_iff.mpr c36
   subst c36
   have H1 : (some false) = some r := by rw [if_neg (show ¬ (false = true) by decide)] at H; exact H
   clear H
   have H := H1
   clear H1
   obtain rfl := Option.some.inj H
   go_wp2_with (first | ((with_reducible refine gate_callee (f := 11) rfl ?_); refine goesL_ (some 56) rfl rfl Try.func11 dq21 rfl #[.slice A0 l0.length c0] rfl dq20 ?_; (with_reducible refine (laws_toPNodeS.calls kj14 _ _ l0 t518 _ ?side1 ?side2 A34.out).mono ?_); (case side1 => exact dq5); (case side2 => exact dq4); rintro e w92 ⟨v519, rfl, ho0, hb⟩; refine ⟨_, rfl, ?_⟩; have n0_ := Aside0.mk (Kd.R_below dq93 hb); have n1_ := Aside0.mk (Kd.S_elder' dq132 (Kd.S_base ho0) hb); have n2_ := Aside0.mk (Kd.R_below dq130 hb); have n3_ := Aside0.mk (Kd.R_below dq129 hb); have n4_ := Aside0.mk (Kd.S_lower (Kd.S_new' (Kd.S_new' (Kd.S_new' ho0 (Kd.R_lt dq93)) (Kd.S_lt dq132)) (Kd.R_lt dq129)) (below_size dq17)); have n5_ := Aside0.mk (below_step dq17 hb); clear HO_6; clear HO_8; clear HO_9; clear HO_10; clear HB; have HO_6 := n0_; have HO_8 := n1_; have HO_9 := n2_; have HO_10 := n3_; have HO520 := n4_; have HB := n5_; clear n0_ n1_ n2_ n3_ n4_ n5_; (try clear hb); (try clear hb2); (try clear hk); (try clear hi); (try clear ho0); obtain ⟨Ao93, co93, eo93⟩ := Kd.S_slice HO520.out; subst eo93) | ((with_reducible refine gate_callee (f := 14) rfl ?_); refine goesL_ (some 57) rfl rfl Try.func14 dq21 rfl #[.slice Ao24 t507.length co24, .slice Ao93 t518.length co93] rfl dq20 ?_; (with_reducible refine (laws_eqPNodeS.calls kj14 _ _ t507 _ _ t518 false _ ?side1 ?side2 ?side3 ?side4 A35.out).mono ?_); (case side1 => exact dq8); (case side2 => exact (Kd.S_reads' HO_8.out).2.1); (case side3 => exact dq9); (case side4 => exact (Kd.S_reads' HO520.out).2.1); rintro e w94 ⟨rfl, hb⟩; refine ⟨_, rfl, ?_⟩; have n0_ := Aside0.mk (Kd.R_below dq93 hb); have n1_ := Aside0.mk (Kd.S_below dq132 hb); have n2_ := Aside0.mk (Kd.R_below dq130 hb); have n3_ := Aside0.mk (Kd.R_below dq129 hb); have n4_ := Aside0.mk (Kd.S_below dq131 hb); have n5_ := Aside0.mk (below_step dq17 hb); clear HO_6; clear HO_8; clear HO_9; clear HO_10; clear HO520; clear HB; have HO_6 := n0_; have HO_8 := n1_; have HO_9 := n2_; have HO_10 := n3_; have HO520 := n4_; have HB := n5_; clear n0_ n1_ n2_ n3_ n4_ n5_; (try clear hb); (try clear hb2); (try clear hk); (try clear hi)))
   go_ret
   exact ⟨dq19, dq17⟩
  subst c36
  have H1 : ((laws_toStringS.f kj14 l1).bind fun t522 => ((laws_eqStringS.f kj14 t510 t522).bind fun t525 => (if t525 = true then ((laws_markPNodeS.f kj14 t507 1).bind fun t526 => ((laws_markStringS.f kj14 t510 t526).bind fun bt527 => (if bt527.1 < 0 then (laws_FnExactAttribute.j1 kj14 l0 l1 t503 t504 t513 true) else ((laws_eqInt64S.f kj14 t513 t503).bind fun t529 => (if t529 = true then (laws_FnExactAttribute.j1 kj14 l0 l1 t503 t504 t513 (t514 != t504)) else (laws_FnExactAttribute.j1 kj14 l0 l1 t503 t504 t513 true)))))) else (some false)))) = some r := by rw [if_pos rfl] at H; exact H
  clear H
  have H := H1
  clear H1
  replace H := Option.bind_eq_some_iff.mp H
  obtain ⟨t522, A370, H⟩ := H
  replace H : ((laws_eqStringS.f kj14 t510 t522).bind fun t525 => (if t525 = true then ((laws_markPNodeS.f kj14 t507 1).bind fun t526 => ((laws_markStringS.f kj14 t510 t526).bind fun bt527 => (if bt527.1 < 0 then (laws_FnExactAttribute.j1 kj14 l0 l1 t503 t504 t513 true) else ((laws_eqInt64S.f kj14 t513 t503).bind fun t529 => (if t529 = true then (laws_FnExactAttribute.j1 kj14 l0 l1 t503 t504 t513 (t514 != t504)) else (laws_FnExactAttribute.j1 kj14 l0 l1 t503 t504 t513 true)))))) else (some false))) = some r := H
  have A37 := Aside0.mk A370
  clear A370
  replace H := Option.bind_eq_some_iff.mp H
  obtain ⟨t525, A380, H⟩ := H
  replace H : (if t525 = true then ((laws_markPNodeS.f kj14 t507 1).bind fun t526 => ((laws_markStringS.f kj14 t510 t526).bind fun bt527 => (if bt527.1 < 0 then (laws_FnExactAttribute.j1 kj14 l0 l1 t503 t504 t513 true) else ((laws_eqInt64S.f kj14 t513 t503).bind fun t529 => (if t529 = true then (laws_FnExactAttribute.j1 kj14 l0 l1 t503 t504 t513 (t514 != t504)) else (laws_FnExactAttribute.j1 kj14 l0 l1 t503 t504 t513 true)))))) else (some false)) = some r := H
  have A38 := Aside0.mk A380
  clear A380
  by_cases c39 : t525 = true
  rotate_left
  ·replace c39 := Bool.eq_false_iff.mpr c39
   subst c39
   have H1 : (some false) = some r := by rw [if_neg (show ¬ (false = true) by decide)] at H; exact H
   clear H
   have H := H1
   clear H1
   obtain rfl := Option.some.inj H
   go_wp2_with (first | ((with_reducible refine gate_callee (f := 11) rfl ?_); refine goesL_ (some 56) rfl rfl Try.func11 dq21 rfl #[.slice A0 l0.length c0] rfl dq20 ?_; (with_reducible refine (laws_toPNodeS.calls kj14 _ _ l0 t518 _ ?side1 ?side2 A34.out).mono ?_); (case side1 => exact dq5); (case side2 => exact dq4); rintro e w87 ⟨v519, rfl, ho0, hb⟩; refine ⟨_, rfl, ?_⟩; have n0_ := Aside0.mk (Kd.R_below dq93 hb); have n1_ := Aside0.mk (Kd.S_elder' dq132 (Kd.S_base ho0) hb); have n2_ := Aside0.mk (Kd.R_below dq130 hb); have n3_ := Aside0.mk (Kd.R_below dq129 hb); have n4_ := Aside0.mk (Kd.S_lower (Kd.S_new' (Kd.S_new' (Kd.S_new' ho0 (Kd.R_lt dq93)) (Kd.S_lt dq132)) (Kd.R_lt dq129)) (below_size dq17)); have n5_ := Aside0.mk (below_step dq17 hb); clear HO_6; clear HO_8; clear HO_9; clear HO_10; clear HB; have HO_6 := n0_; have HO_8 := n1_; have HO_9 := n2_; have HO_10 := n3_; have HO520 := n4_; have HB := n5_; clear n0_ n1_ n2_ n3_ n4_ n5_; (try clear hb); (try clear hb2); (try clear hk); (try clear hi); (try clear ho0); obtain ⟨Ao88, co88, eo88⟩ := Kd.S_slice HO520.out; subst eo88) | ((with_reducible refine gate_callee (f := 14) rfl ?_); refine goesL_ (some 57) rfl rfl Try.func14 dq21 rfl #[.slice Ao24 t507.length co24, .slice Ao88 t518.length co88] rfl dq20 ?_; (with_reducible refine (laws_eqPNodeS.calls kj14 _ _ t507 _ _ t518 true _ ?side1 ?side2 ?side3 ?side4 A35.out).mono ?_); (case side1 => exact dq8); (case side2 => exact (Kd.S_reads' HO_8.out).2.1); (case side3 => exact dq9); (case side4 => exact (Kd.S_reads' HO520.out).2.1); rintro e w89 ⟨rfl, hb⟩; refine ⟨_, rfl, ?_⟩; have n0_ := Aside0.mk (Kd.R_below dq93 hb); have n1_ := Aside0.mk (Kd.S_below dq132 hb); have n2_ := Aside0.mk (Kd.R_below dq130 hb); have n3_ := Aside0.mk (Kd.R_below dq129 hb); have n4_ := Aside0.mk (Kd.S_below dq131 hb); have n5_ := Aside0.mk (below_step dq17 hb); clear HO_6; clear HO_8; clear HO_9; clear HO_10; clear HO520; clear HB; have HO_6 := n0_; have HO_8 := n1_; have HO_9 := n2_; have HO_10 := n3_; have HO520 := n4_; have HB := n5_; clear n0_ n1_ n2_ n3_ n4_ n5_; (try clear hb); (try clear hb2); (try clear hk); (try clear hi)) | ((with_reducible refine gate_callee (f := 26) rfl ?_); refine goesL_ (some 61) rfl rfl Try.func26 dq21 rfl #[.slice A1 l1.length c1] rfl dq20 ?_; (with_reducible refine (laws_toStringS.calls kj14 _ _ l1 t522 _ ?side1 ?side2 A37.out).mono ?_); (case side1 => exact dq7); (case side2 => exact HC1.out); rintro e w90 ⟨v523, rfl, ho0, hb⟩; refine ⟨_, rfl, ?_⟩; have n0_ := Aside0.mk (Kd.R_below dq93 hb); have n1_ := Aside0.mk (Kd.S_below dq132 hb); have n2_ := Aside0.mk (Kd.R_elder' dq130 (Kd.R_base ho0) hb); have n3_ := Aside0.mk (Kd.R_below dq129 hb); have n4_ := Aside0.mk (Kd.S_below dq131 hb); have n5_ := Aside0.mk (Kd.R_lower (Kd.R_new' ho0 (Kd.R_lt dq130)) (below_size dq17)); have n6_ := Aside0.mk (below_step dq17 hb); clear HO_6; clear HO_8; clear HO_9; clear HO_10; clear HO520; clear HB; have HO_6 := n0_; have HO_8 := n1_; have HO_9 := n2_; have HO_10 := n3_; have HO520 := n4_; have HO524 := n5_; have HB := n6_; clear n0_ n1_ n2_ n3_ n4_ n5_ n6_; (try clear hb); (try clear hb2); (try clear hk); (try clear hi); (try clear ho0); obtain ⟨Ao91, co91, eo91⟩ := Kd.R_slice HO524.out; subst eo91) | ((with_reducible refine gate_callee (f := 28) rfl ?_); refine goesL_ (some 62) rfl rfl Try.func28 dq21 rfl #[.slice Ao25 t510.length co25, .slice Ao91 t522.length co91] rfl dq20 ?_; (with_reducible refine (laws_eqStringS.calls kj14 _ _ t510 _ _ t522 false _ ?side1 ?side2 ?side3 ?side4 A38.out).mono ?_); (case side1 => repeat (first | exact (Kd.R_reads' HO_9.out).2.2 | (with_reducible refine Kd.C_alloc ?_ _) | (with_reducible refine Kd.C_drewN ?_ _) | (with_reducible refine Kd.C_drew ?_))); (case side2 => exact (Kd.R_reads' HO_9.out).2.1); (case side3 => repeat (first | exact (Kd.R_reads' HO524.out).2.2 | (with_reducible refine Kd.C_alloc ?_ _) | (with_reducible refine Kd.C_drewN ?_ _) | (with_reducible refine Kd.C_drew ?_))); (case side4 => exact (Kd.R_reads' HO524.out).2.1); rintro e w' ⟨rfl, ⟨nd, rfl⟩⟩; refine ⟨_, rfl, ?_⟩))
   go_ret
   exact ⟨dq19, dq17⟩
  subst c39
  have H1 : ((laws_markPNodeS.f kj14 t507 1).bind fun t526 => ((laws_markStringS.f kj14 t510 t526).bind fun bt527 => (if bt527.1 < 0 then (laws_FnExactAttribute.j1 kj14 l0 l1 t503 t504 t513 true) else ((laws_eqInt64S.f kj14 t513 t503).bind fun t529 => (if t529 = true then (laws_FnExactAttribute.j1 kj14 l0 l1 t503 t504 t513 (t514 != t504)) else (laws_FnExactAttribute.j1 kj14 l0 l1 t503 t504 t513 true)))))) = some r := by rw [if_pos rfl] at H; exact H
  clear H
  have H := H1
  clear H1
  replace H := Option.bind_eq_some_iff.mp H
  obtain ⟨t526, A400, H⟩ := H
  replace H : ((laws_markStringS.f kj14 t510 t526).bind fun bt527 => (if bt527.1 < 0 then (laws_FnExactAttribute.j1 kj14 l0 l1 t503 t504 t513 true) else ((laws_eqInt64S.f kj14 t513 t503).bind fun t529 => (if t529 = true then (laws_FnExactAttribute.j1 kj14 l0 l1 t503 t504 t513 (t514 != t504)) else (laws_FnExactAttribute.j1 kj14 l0 l1 t503 t504 t513 true))))) = some r := H
  have A40 := Aside0.mk A400
  clear A400
  replace H := Option.bind_eq_some_iff.mp H
  obtain ⟨⟨t527, t528⟩, A410, H⟩ := H
  replace H : (if t527 < 0 then (laws_FnExactAttribute.j1 kj14 l0 l1 t503 t504 t513 true) else ((laws_eqInt64S.f kj14 t513 t503).bind fun t529 => (if t529 = true then (laws_FnExactAttribute.j1 kj14 l0 l1 t503 t504 t513 (t514 != t504)) else (laws_FnExactAttribute.j1 kj14 l0 l1 t503 t504 t513 true)))) = some r := H
  have A41 := Aside0.mk A410
  clear A410
  have HC42 := Aside0.mk H
  clear H
  go_upto_region 21 with (first | ((with_reducible refine gate_callee (f := 11) rfl ?_); refine goesL_ (some 56) rfl rfl Try.func11 dq21 rfl #[.slice A0 l0.length c0] rfl dq20 ?_; (with_reducible refine (laws_toPNodeS.calls kj14 _ _ l0 t518 _ ?side1 ?side2 A34.out).mono ?_); (case side1 => exact dq5); (case side2 => exact dq4); rintro e w43 ⟨v519, rfl, ho0, hb⟩; refine ⟨_, rfl, ?_⟩; have n0_ := Aside0.mk (Kd.R_below dq93 hb); have n1_ := Aside0.mk (Kd.S_elder' dq132 (Kd.S_base ho0) hb); have n2_ := Aside0.mk (Kd.R_below dq130 hb); have n3_ := Aside0.mk (Kd.R_below dq129 hb); have n4_ := Aside0.mk (Kd.S_lower (Kd.S_new' (Kd.S_new' (Kd.S_new' ho0 (Kd.R_lt dq93)) (Kd.S_lt dq132)) (Kd.R_lt dq129)) (below_size dq17)); have n5_ := Aside0.mk (below_step dq17 hb); clear HO_6; clear HO_8; clear HO_9; clear HO_10; clear HB; have HO_6 := n0_; have HO_8 := n1_; have HO_9 := n2_; have HO_10 := n3_; have HO520 := n4_; have HB := n5_; clear n0_ n1_ n2_ n3_ n4_ n5_; (try clear hb); (try clear hb2); (try clear hk); (try clear hi); (try clear ho0); obtain ⟨Ao44, co44, eo44⟩ := Kd.S_slice HO520.out; subst eo44) | ((with_reducible refine gate_callee (f := 14) rfl ?_); refine goesL_ (some 57) rfl rfl Try.func14 dq21 rfl #[.slice Ao24 t507.length co24, .slice Ao44 t518.length co44] rfl dq20 ?_; (with_reducible refine (laws_eqPNodeS.calls kj14 _ _ t507 _ _ t518 true _ ?side1 ?side2 ?side3 ?side4 A35.out).mono ?_); (case side1 => exact dq8); (case side2 => exact (Kd.S_reads' HO_8.out).2.1); (case side3 => exact dq9); (case side4 => exact (Kd.S_reads' HO520.out).2.1); rintro e w45 ⟨rfl, hb⟩; refine ⟨_, rfl, ?_⟩; have n0_ := Aside0.mk (Kd.R_below dq93 hb); have n1_ := Aside0.mk (Kd.S_below dq132 hb); have n2_ := Aside0.mk (Kd.R_below dq130 hb); have n3_ := Aside0.mk (Kd.R_below dq129 hb); have n4_ := Aside0.mk (Kd.S_below dq131 hb); have n5_ := Aside0.mk (below_step dq17 hb); clear HO_6; clear HO_8; clear HO_9; clear HO_10; clear HO520; clear HB; have HO_6 := n0_; have HO_8 := n1_; have HO_9 := n2_; have HO_10 := n3_; have HO520 := n4_; have HB := n5_; clear n0_ n1_ n2_ n3_ n4_ n5_; (try clear hb); (try clear hb2); (try clear hk); (try clear hi)) | ((with_reducible refine gate_callee (f := 26) rfl ?_); refine goesL_ (some 61) rfl rfl Try.func26 dq21 rfl #[.slice A1 l1.length c1] rfl dq20 ?_; (with_reducible refine (laws_toStringS.calls kj14 _ _ l1 t522 _ ?side1 ?side2 A37.out).mono ?_); (case side1 => exact dq7); (case side2 => exact HC1.out); rintro e w46 ⟨v523, rfl, ho0, hb⟩; refine ⟨_, rfl, ?_⟩; have n0_ := Aside0.mk (Kd.R_below dq93 hb); have n1_ := Aside0.mk (Kd.S_below dq132 hb); have n2_ := Aside0.mk (Kd.R_elder' dq130 (Kd.R_base ho0) hb); have n3_ := Aside0.mk (Kd.R_below dq129 hb); have n4_ := Aside0.mk (Kd.S_below dq131 hb); have n5_ := Aside0.mk (Kd.R_lower (Kd.R_new' ho0 (Kd.R_lt dq130)) (below_size dq17)); have n6_ := Aside0.mk (below_step dq17 hb); clear HO_6; clear HO_8; clear HO_9; clear HO_10; clear HO520; clear HB; have HO_6 := n0_; have HO_8 := n1_; have HO_9 := n2_; have HO_10 := n3_; have HO520 := n4_; have HO524 := n5_; have HB := n6_; clear n0_ n1_ n2_ n3_ n4_ n5_ n6_; (try clear hb); (try clear hb2); (try clear hk); (try clear hi); (try clear ho0); obtain ⟨Ao47, co47, eo47⟩ := Kd.R_slice HO524.out; subst eo47) | ((with_reducible refine gate_callee (f := 28) rfl ?_); refine goesL_ (some 62) rfl rfl Try.func28 dq21 rfl #[.slice Ao25 t510.length co25, .slice Ao47 t522.length co47] rfl dq20 ?_; (with_reducible refine (laws_eqStringS.calls kj14 _ _ t510 _ _ t522 true _ ?side1 ?side2 ?side3 ?side4 A38.out).mono ?_); (case side1 => repeat (first | exact (Kd.R_reads' HO_9.out).2.2 | (with_reducible refine Kd.C_alloc ?_ _) | (with_reducible refine Kd.C_drewN ?_ _) | (with_reducible refine Kd.C_drew ?_))); (case side2 => exact (Kd.R_reads' HO_9.out).2.1); (case side3 => repeat (first | exact (Kd.R_reads' HO524.out).2.2 | (with_reducible refine Kd.C_alloc ?_ _) | (with_reducible refine Kd.C_drewN ?_ _) | (with_reducible refine Kd.C_drew ?_))); (case side4 => exact (Kd.R_reads' HO524.out).2.1); rintro e w' ⟨rfl, ⟨nd, rfl⟩⟩; refine ⟨_, rfl, ?_⟩) | ((with_reducible refine gate_callee (f := 15) rfl ?_); refine goesL_ (some 66) rfl rfl Try.func15 dq21 rfl #[.slice Ao24 t507.length co24, .int .i64 1] rfl dq20 ?_; have hS8_ := Aside0.mk (Kd.S_apart' HO_8.out (Kd.R_typed HO_9.out) dq26); (with_reducible refine (laws_markPNodeS.marks kj14 _ _ t507 1 t526 w _ dq17 (by (with_reducible repeat (first | apply Kd.S_alloc | apply Kd.S_drewN | apply Kd.S_drew)); exact hS8_.out) A40.out).mono ?_); rintro e w48 ⟨rfl, hx_, hb, hk_⟩; refine ⟨_, rfl, ?_⟩; have n0_ := Aside0.mk (R_pmarked dq93 hk_ (fun k_ h_ => by first | exact h_.2 | exact h_.1 | exact h_.1.1 | exact h_.1.1.1 | exact h_.1.1.1.1 | exact h_.2 | exact h_.1.2 | exact h_.1.1.2 | exact h_.1.1.1.2 | exact h_.1.1.1.1.2 | exact h_.1.1.1.1.1.2)); have n1_ := Aside0.mk (Kd.S_nil k49 49 w48 w.heap.size (fun _ => True)); have n2_ := Aside0.mk (R_pmarkedE rfl dq130 hk_ (fun k_ h_ => by first | exact h_.2 | exact h_.1 | exact h_.1.1 | exact h_.1.1.1 | exact h_.1.1.1.1 | exact h_.2 | exact h_.1.2 | exact h_.1.1.2 | exact h_.1.1.1.2 | exact h_.1.1.1.1.2 | exact h_.1.1.1.1.1.2)); have n3_ := Aside0.mk (R_pmarked dq129 hk_ (fun k_ h_ => by first | exact h_.2 | exact h_.1 | exact h_.1.1 | exact h_.1.1.1 | exact h_.1.1.1.1 | exact h_.2 | exact h_.1.2 | exact h_.1.1.2 | exact h_.1.1.1.2 | exact h_.1.1.1.1.2 | exact h_.1.1.1.1.1.2)); have n4_ := Aside0.mk (Kd.S_nil k49 49 w48 w.heap.size (fun _ => True)); have n5_ := Aside0.mk (Kd.R_nil Kd.string 9 w48 w.heap.size (fun _ => True)); have n6_ := Aside0.mk hb; clear hx_ hk_ hS8_; clear HO_6; clear HO_8; clear HO_9; clear HO_10; clear HO520; clear HO524; clear HB; have HO_6 := n0_; have HO_8 := n1_; have HO_9 := n2_; have HO_10 := n3_; have HO520 := n4_; have HO524 := n5_; have HB := n6_; clear n0_ n1_ n2_ n3_ n4_ n5_ n6_; (try clear hb); (try clear hb2); (try clear hk); (try clear hi)) | ((with_reducible refine gate_callee (f := 29) rfl ?_); refine goesL_ (some 69) rfl rfl Try.func29 dq21 rfl #[.slice Ao25 t510.length co25, .int .i64 t526] rfl dq20 ?_; (with_reducible refine (laws_markStringS.calls kj14 (fun k_ => some k_ = (.slice Ao25 t510.length co25 : Value).ownBlock) (.slice Ao25 t510.length co25) t510 t526 t527 t528 w _ ?side1 ?side2 A41.out).mono ?_); (case side1 => exact dq10); (case side2 => exact Kd.R_tight rfl HO_9.out); rintro e w49 ⟨rfl, hy0, hb, hkp⟩; refine ⟨_, rfl, ?_⟩; have n0_ := Aside0.mk (Kd.R_mono (ok' := fun k_ => some k_ ≠ (v515 : Value).ownBlock) (Kd.R_keptB ((Kd.R_apart' HO_6.out (Kd.R_typed HO_9.out) dq26)) hkp (fun k_ hk_ hs_ => (hk_.2) hs_)) (fun k_ hk_ => hk_.1.1)); have n1_ := Aside0.mk (Kd.S_nil k49 49 w49 w.heap.size (fun _ => True)); have n2_ := Aside0.mk (Kd.R_reok rfl hy0 (fun k_ e_ => HO_9.out.1 k_ e_)); have n3_ := Aside0.mk (Kd.R_mono (ok' := fun k_ => some k_ ≠ (v505 : Value).ownBlock) (Kd.R_keptB ((Kd.R_apart' HO_10.out (Kd.R_typed HO_9.out) dq26)) hkp (fun k_ hk_ hs_ => (hk_.2) hs_)) (fun k_ hk_ => hk_.1.1)); have n4_ := Aside0.mk (Kd.S_nil k49 49 w49 w.heap.size (fun _ => True)); have n5_ := Aside0.mk (Kd.R_nil Kd.string 9 w49 w.heap.size (fun _ => True)); have n6_ := Aside0.mk (hb); clear HO_6; clear HO_8; clear HO_9; clear HO_10; clear HO520; clear HO524; clear HB; have HO_6 := n0_; have HO_8 := n1_; have HO_9 := n2_; have HO_10 := n3_; have HO520 := n4_; have HO524 := n5_; have HB := n6_; clear n0_ n1_ n2_ n3_ n4_ n5_ n6_; (try clear hb); (try clear hkp); (try clear hy0)))
  (try simp only [Act.put, List.setIfInBounds_toArray, List.set_cons_zero, List.set_cons_succ])
  go_cut [82] (fun v82 wc => ∃ (kq : Nat) (x82_41 : Bool), v82 = .bool x82_41 ∧ Aside0 (laws_FnExactAttribute.j1 kq l0 l1 t503 t504 t513 x82_41 = some r) ∧ Aside0 (kq ≤ kj14) ∧ Aside0 (Kd.R (Kd.int .i64) 2 wc w.heap.size (fun k_ => some k_ ≠ (v515 : Value).ownBlock) v505 t503) ∧ Aside0 (Kd.R (Kd.int .i64) 2 wc w.heap.size (fun k_ => some k_ ≠ (v505 : Value).ownBlock) v515 t513) ∧ Aside0 (Below w.heap.size w wc))
  case first =>
   have H := HC42.out
   clear HC42
   by_cases c50 : t527 < 0
   ·rw [if_pos c50] at H
    have c50b0 := decide_eq_true c50
    clear c50
    (first | rw [c50b0] | (simp only [i64_w, i32_w]; rw [c50b0]) | skip)
    have H' := Aside0.mk H
    clear H
    go_wp2
    go_meet
    case rel => exact ⟨_, (true), dq15, H', ⟨by have := HJ14.out; first | omega | exact Nat.le_refl _⟩, ⟨dq93⟩, ⟨dq129⟩, ⟨dq17⟩⟩
   rw [if_neg c50] at H
   have c50b0 := decide_eq_false c50
   clear c50
   (first | rw [c50b0] | (simp only [i64_w, i32_w]; rw [c50b0]) | skip)
   replace H := Option.bind_eq_some_iff.mp H
   obtain ⟨t529, A510, H⟩ := H
   replace H : (if t529 = true then (laws_FnExactAttribute.j1 kj14 l0 l1 t503 t504 t513 (t514 != t504)) else (laws_FnExactAttribute.j1 kj14 l0 l1 t503 t504 t513 true)) = some r := H
   have A51 := Aside0.mk A510
   clear A510
   by_cases c52 : t529 = true
   ·subst c52
    have H1 : (laws_FnExactAttribute.j1 kj14 l0 l1 t503 t504 t513 (t514 != t504)) = some r := by rw [if_pos rfl] at H; exact H
    clear H
    have H := H1
    clear H1
    have H' := Aside0.mk H
    clear H
    obtain ⟨Ao53, co53, eo53⟩ := Kd.R_slice HO_10.out
    subst eo53
    obtain ⟨Ao54, co54, eo54⟩ := Kd.R_slice HO_6.out
    subst eo54
    go_wp2_with (first | (go_at_call 13; (with_reducible refine (laws_eqInt64S.calls kj14 _ _ t513 _ _ t503 true _ ?side1 ?side2 ?side3 ?side4 A51.out).mono ?_); (case side1 => exact dq11); (case side2 => exact (Kd.R_reads' HO_10.out).2.1); (case side3 => exact dq12); (case side4 => exact (Kd.R_reads' HO_6.out).2.1); rintro e w' ⟨rfl, ⟨nd, rfl⟩⟩))
    go_meet
    case rel => exact ⟨_, ((t514 != t504)), dq15, H', ⟨by have := HJ14.out; first | omega | exact Nat.le_refl _⟩, ⟨dq93⟩, ⟨dq129⟩, ⟨dq17⟩⟩
   replace c52 := Bool.eq_false_iff.mpr c52
   subst c52
   have H1 : (laws_FnExactAttribute.j1 kj14 l0 l1 t503 t504 t513 true) = some r := by rw [if_neg (show ¬ (false = true) by decide)] at H; exact H
   clear H
   have H := H1
   clear H1
   have H' := Aside0.mk H
   clear H
   obtain ⟨Ao55, co55, eo55⟩ := Kd.R_slice HO_10.out
   subst eo55
   obtain ⟨Ao56, co56, eo56⟩ := Kd.R_slice HO_6.out
   subst eo56
   go_wp2_with (first | (go_at_call 13; (with_reducible refine (laws_eqInt64S.calls kj14 _ _ t513 _ _ t503 false _ ?side1 ?side2 ?side3 ?side4 A51.out).mono ?_); (case side1 => exact dq11); (case side2 => exact (Kd.R_reads' HO_10.out).2.1); (case side3 => exact dq12); (case side4 => exact (Kd.R_reads' HO_6.out).2.1); rintro e w' ⟨rfl, ⟨nd, rfl⟩⟩))
   go_meet
   case rel => exact ⟨_, (true), dq15, H', ⟨by have := HJ14.out; first | omega | exact Nat.le_refl _⟩, ⟨dq93⟩, ⟨dq129⟩, ⟨dq17⟩⟩
  clear HC42
  obtain ⟨kq, x82_41, rfl, HA, HJ41, HO_6, HO_10, HB⟩ := hcut
  cases kq with
  | zero => exact absurd HA.out (by simp [laws_FnExactAttribute.j1])
  | succ kj41 =>
   have H := HA.out
   clear HA
   simp only [laws_FnExactAttribute.j1] at H
   by_cases c57 : x82_41 = true
   ·subst c57
    have H1 : (some false) = some r := by rw [if_pos rfl] at H; exact H
    clear H
    have H := H1
    clear H1
    obtain rfl := Option.some.inj H
    go_wp2
    go_ret
    exact ⟨dq19, dq17⟩
   replace c57 := Bool.eq_false_iff.mpr c57
   subst c57
   have H1 : ((laws_markInt64S.f kj41 t513 1).bind fun bt530 => ((laws_heldInt64S.f kj41 bt530.2 1).bind fun t532 => (if t532 < 0 then (some false) else (if t532 = bt530.1 then ((laws_toPNodeS.f kj41 l0).bind fun t533 => ((laws_toStringS.f kj41 l1).bind fun t536 => ((impl_Attribute.f kj41 t533 t536).bind fun bt539 => ((laws_eqInt64S.f kj41 bt539.1 t503).bind fun t543 => (if t543 = true then (laws_FnExactAttribute.j2 kj41 bt530.2 bt530.1 (bt539.2 != t504)) else (laws_FnExactAttribute.j2 kj41 bt530.2 bt530.1 true)))))) else (some false))))) = some r := by rw [if_neg (show ¬ (false = true) by decide)] at H; exact H
   clear H
   have H := H1
   clear H1
   replace H := Option.bind_eq_some_iff.mp H
   obtain ⟨⟨t530, t531⟩, A580, H⟩ := H
   replace H : ((laws_heldInt64S.f kj41 t531 1).bind fun t532 => (if t532 < 0 then (some false) else (if t532 = t530 then ((laws_toPNodeS.f kj41 l0).bind fun t533 => ((laws_toStringS.f kj41 l1).bind fun t536 => ((impl_Attribute.f kj41 t533 t536).bind fun bt539 => ((laws_eqInt64S.f kj41 bt539.1 t503).bind fun t543 => (if t543 = true then (laws_FnExactAttribute.j2 kj41 t531 t530 (bt539.2 != t504)) else (laws_FnExactAttribute.j2 kj41 t531 t530 true)))))) else (some false)))) = some r := H
   have A58 := Aside0.mk A580
   clear A580
   replace H := Option.bind_eq_some_iff.mp H
   obtain ⟨t532, A590, H⟩ := H
   replace H : (if t532 < 0 then (some false) else (if t532 = t530 then ((laws_toPNodeS.f kj41 l0).bind fun t533 => ((laws_toStringS.f kj41 l1).bind fun t536 => ((impl_Attribute.f kj41 t533 t536).bind fun bt539 => ((laws_eqInt64S.f kj41 bt539.1 t503).bind fun t543 => (if t543 = true then (laws_FnExactAttribute.j2 kj41 t531 t530 (bt539.2 != t504)) else (laws_FnExactAttribute.j2 kj41 t531 t530 true)))))) else (some false))) = some r := H
   have A59 := Aside0.mk A590
   clear A590
   by_cases c60 : t532 < 0
   ·rw [if_pos c60] at H
    have c60b0 := decide_eq_true c60
    clear c60
    obtain rfl := Option.some.inj H
    obtain ⟨Ao61, co61, eo61⟩ := Kd.R_slice HO_10.out
    subst eo61
    go_wp2_with (first | ((with_reducible refine gate_callee (f := 16) rfl ?_); refine goesL_ (some 85) rfl rfl Try.func16 dq21 rfl #[.slice Ao61 t513.length co61, .int .i64 1] rfl dq20 ?_; (with_reducible refine (laws_markInt64S.calls kj41 (fun k_ => some k_ = (.slice Ao61 t513.length co61 : Value).ownBlock) (.slice Ao61 t513.length co61) t513 1 t530 t531 w _ ?side1 ?side2 A58.out).mono ?_); (case side1 => exact dq10); (case side2 => exact Kd.R_tight rfl HO_10.out); rintro e w62 ⟨rfl, hy0, hb, hkp⟩; refine ⟨_, rfl, ?_⟩; have n0_ := Aside0.mk (Kd.R_mono (ok' := fun k_ => some k_ ≠ (.slice Ao61 t513.length co61 : Value).ownBlock) (Kd.R_keptB (HO_6.out) hkp (fun k_ hk_ hs_ => (hk_) hs_)) (fun k_ hk_ => hk_.1)); have n1_ := Aside0.mk (Kd.R_reok rfl hy0 (fun k_ e_ => HO_10.out.1 k_ e_)); have n2_ := Aside0.mk (hb); clear HO_6; clear HO_10; clear HB; have HO_6 := n0_; have HO_10 := n1_; have HB := n2_; clear n0_ n1_ n2_; (try clear hb); (try clear hkp); (try clear hy0)) | ((with_reducible refine gate_callee (f := 17) rfl ?_); refine goesL_ (some 88) rfl rfl Try.func17 dq21 rfl #[.slice Ao61 t531.length co61, .int .i64 1] rfl dq133 ?_; (with_reducible refine (laws_heldInt64S.calls kj41 _ _ t531 1 t532 _ ?side1 ?side2 A59.out).mono ?_); (case side1 => exact dq11); (case side2 => exact dq13); rintro e w' ⟨rfl, ⟨nd, rfl⟩⟩; refine ⟨_, rfl, ?_⟩))
    go_ret
    exact ⟨dq19, dq17⟩
   rw [if_neg c60] at H
   have c60b0 := decide_eq_false c60
   clear c60
   by_cases c63 : t532 = t530
   rotate_left
   ·rw [if_neg c63] at H
    have c63b0 := beq_eq_false_iff_ne.mpr c63
    have c63b1 := bne_iff_ne.mpr c63
    obtain rfl := Option.some.inj H
    obtain ⟨Ao85, co85, eo85⟩ := Kd.R_slice HO_10.out
    subst eo85
    go_wp2_with (first | ((with_reducible refine gate_callee (f := 16) rfl ?_); refine goesL_ (some 85) rfl rfl Try.func16 dq21 rfl #[.slice Ao85 t513.length co85, .int .i64 1] rfl dq20 ?_; (with_reducible refine (laws_markInt64S.calls kj41 (fun k_ => some k_ = (.slice Ao85 t513.length co85 : Value).ownBlock) (.slice Ao85 t513.length co85) t513 1 t530 t531 w _ ?side1 ?side2 A58.out).mono ?_); (case side1 => exact dq10); (case side2 => exact Kd.R_tight rfl HO_10.out); rintro e w86 ⟨rfl, hy0, hb, hkp⟩; refine ⟨_, rfl, ?_⟩; have n0_ := Aside0.mk (Kd.R_mono (ok' := fun k_ => some k_ ≠ (.slice Ao85 t513.length co85 : Value).ownBlock) (Kd.R_keptB (HO_6.out) hkp (fun k_ hk_ hs_ => (hk_) hs_)) (fun k_ hk_ => hk_.1)); have n1_ := Aside0.mk (Kd.R_reok rfl hy0 (fun k_ e_ => HO_10.out.1 k_ e_)); have n2_ := Aside0.mk (hb); clear HO_6; clear HO_10; clear HB; have HO_6 := n0_; have HO_10 := n1_; have HB := n2_; clear n0_ n1_ n2_; (try clear hb); (try clear hkp); (try clear hy0)) | ((with_reducible refine gate_callee (f := 17) rfl ?_); refine goesL_ (some 88) rfl rfl Try.func17 dq21 rfl #[.slice Ao85 t531.length co85, .int .i64 1] rfl dq133 ?_; (with_reducible refine (laws_heldInt64S.calls kj41 _ _ t531 1 t532 _ ?side1 ?side2 A59.out).mono ?_); (case side1 => exact dq11); (case side2 => exact dq13); rintro e w' ⟨rfl, ⟨nd, rfl⟩⟩; refine ⟨_, rfl, ?_⟩))
    go_ret
    exact ⟨dq19, dq17⟩
   rw [if_pos c63] at H
   have c63b0 := beq_iff_eq.mpr c63
   have c63b1 := bne_eq_false_iff_eq.mpr c63
   clear c63
   replace H := Option.bind_eq_some_iff.mp H
   obtain ⟨t533, A640, H⟩ := H
   replace H : ((laws_toStringS.f kj41 l1).bind fun t536 => ((impl_Attribute.f kj41 t533 t536).bind fun bt539 => ((laws_eqInt64S.f kj41 bt539.1 t503).bind fun t543 => (if t543 = true then (laws_FnExactAttribute.j2 kj41 t531 t530 (bt539.2 != t504)) else (laws_FnExactAttribute.j2 kj41 t531 t530 true))))) = some r := H
   have A64 := Aside0.mk A640
   clear A640
   replace H := Option.bind_eq_some_iff.mp H
   obtain ⟨t536, A650, H⟩ := H
   replace H : ((impl_Attribute.f kj41 t533 t536).bind fun bt539 => ((laws_eqInt64S.f kj41 bt539.1 t503).bind fun t543 => (if t543 = true then (laws_FnExactAttribute.j2 kj41 t531 t530 (bt539.2 != t504)) else (laws_FnExactAttribute.j2 kj41 t531 t530 true)))) = some r := H
   have A65 := Aside0.mk A650
   clear A650
   replace H := Option.bind_eq_some_iff.mp H
   obtain ⟨⟨t539, t540⟩, A660, H⟩ := H
   replace H : ((laws_eqInt64S.f kj41 t539 t503).bind fun t543 => (if t543 = true then (laws_FnExactAttribute.j2 kj41 t531 t530 (t540 != t504)) else (laws_FnExactAttribute.j2 kj41 t531 t530 true))) = some r := H
   have A66 := Aside0.mk A660
   clear A660
   have HC67 := Aside0.mk H
   clear H
   obtain ⟨Ao68, co68, eo68⟩ := Kd.R_slice HO_10.out
   subst eo68
   go_upto_region 32 with (first | ((with_reducible refine gate_callee (f := 16) rfl ?_); refine goesL_ (some 85) rfl rfl Try.func16 dq21 rfl #[.slice Ao68 t513.length co68, .int .i64 1] rfl dq20 ?_; (with_reducible refine (laws_markInt64S.calls kj41 (fun k_ => some k_ = (.slice Ao68 t513.length co68 : Value).ownBlock) (.slice Ao68 t513.length co68) t513 1 t530 t531 w _ ?side1 ?side2 A58.out).mono ?_); (case side1 => exact dq10); (case side2 => exact Kd.R_tight rfl HO_10.out); rintro e w69 ⟨rfl, hy0, hb, hkp⟩; refine ⟨_, rfl, ?_⟩; have n0_ := Aside0.mk (Kd.R_mono (ok' := fun k_ => some k_ ≠ (.slice Ao68 t513.length co68 : Value).ownBlock) (Kd.R_keptB (HO_6.out) hkp (fun k_ hk_ hs_ => (hk_) hs_)) (fun k_ hk_ => hk_.1)); have n1_ := Aside0.mk (Kd.R_reok rfl hy0 (fun k_ e_ => HO_10.out.1 k_ e_)); have n2_ := Aside0.mk (hb); clear HO_6; clear HO_10; clear HB; have HO_6 := n0_; have HO_10 := n1_; have HB := n2_; clear n0_ n1_ n2_; (try clear hb); (try clear hkp); (try clear hy0)) | ((with_reducible refine gate_callee (f := 17) rfl ?_); refine goesL_ (some 88) rfl rfl Try.func17 dq21 rfl #[.slice Ao68 t531.length co68, .int .i64 1] rfl dq133 ?_; (with_reducible refine (laws_heldInt64S.calls kj41 _ _ t531 1 t532 _ ?side1 ?side2 A59.out).mono ?_); (case side1 => exact dq11); (case side2 => exact dq13); rintro e w' ⟨rfl, ⟨nd, rfl⟩⟩; refine ⟨_, rfl, ?_⟩) | ((with_reducible refine gate_callee (f := 11) rfl ?_); refine goesL_ (some 96) rfl rfl Try.func11 dq21 rfl #[.slice A0 l0.length c0] rfl dq20 ?_; (with_reducible refine (laws_toPNodeS.calls kj41 _ _ l0 t533 _ ?side1 ?side2 A64.out).mono ?_); (case side1 => repeat (first | exact (Kd.C_below HR0.out dq17) | (with_reducible refine Kd.C_alloc ?_ _) | (with_reducible refine Kd.C_drewN ?_ _) | (with_reducible refine Kd.C_drew ?_))); (case side2 => exact dq4); rintro e w70 ⟨v534, rfl, ho0, hb⟩; refine ⟨_, rfl, ?_⟩; have n0_ := Aside0.mk (Kd.R_below dq93 hb); have n1_ := Aside0.mk (Kd.R_below dq129 hb); have n2_ := Aside0.mk (Kd.S_lower (Kd.S_new' (Kd.S_new' ho0 (Kd.R_lt dq93)) (Kd.R_lt dq129)) (below_size dq17)); have n3_ := Aside0.mk (below_step dq17 hb); clear HO_6; clear HO_10; clear HB; have HO_6 := n0_; have HO_10 := n1_; have HO535 := n2_; have HB := n3_; clear n0_ n1_ n2_ n3_; (try clear hb); (try clear hb2); (try clear hk); (try clear hi); (try clear ho0)) | ((with_reducible refine gate_callee (f := 26) rfl ?_); refine goesL_ (some 98) rfl rfl Try.func26 dq21 rfl #[.slice A1 l1.length c1] rfl dq20 ?_; (with_reducible refine (laws_toStringS.calls kj41 _ _ l1 t536 _ ?side1 ?side2 A65.out).mono ?_); (case side1 => exact dq7); (case side2 => exact HC1.out); rintro e w71 ⟨v537, rfl, ho0, hb⟩; refine ⟨_, rfl, ?_⟩; have n0_ := Aside0.mk (Kd.R_below dq93 hb); have n1_ := Aside0.mk (Kd.R_below dq129 hb); have n2_ := Aside0.mk (Kd.S_below (by (with_reducible repeat (first | apply Kd.S_alloc | apply Kd.S_drewN | apply Kd.S_drew)); exact HO535.out) hb); have n3_ := Aside0.mk (Kd.R_lower ho0 (below_size dq17)); have n4_ := Aside0.mk (below_step dq17 hb); clear HO_6; clear HO_10; clear HO535; clear HB; have HO_6 := n0_; have HO_10 := n1_; have HO535 := n2_; have HO538 := n3_; have HB := n4_; clear n0_ n1_ n2_ n3_ n4_; (try clear hb); (try clear hb2); (try clear hk); (try clear hi); (try clear ho0); obtain ⟨Ao72, co72, eo72⟩ := Kd.S_slice HO535.out; subst eo72; obtain ⟨Ao73, co73, eo73⟩ := Kd.R_slice HO538.out; subst eo73) | ((with_reducible refine gate_callee (f := 27) rfl ?_); refine goesL_ (some 99) rfl rfl Try.func27 dq21 rfl #[.slice Ao72 t533.length co72, .slice Ao73 t536.length co73] rfl dq20 ?_; (with_reducible refine (impl_Attribute.calls kj41 _ _ t533 _ _ t536 t539 t540 _ ?side1 ?side2 ?side3 ?side4 A66.out).mono ?_); (case side1 => repeat (first | exact (Kd.S_reads' HO535.out).2.2 | (with_reducible refine Kd.C_alloc ?_ _) | (with_reducible refine Kd.C_drewN ?_ _) | (with_reducible refine Kd.C_drew ?_))); (case side2 => exact (Kd.S_reads' HO535.out).2.1); (case side3 => repeat (first | exact (Kd.R_reads' HO538.out).2.2 | (with_reducible refine Kd.C_alloc ?_ _) | (with_reducible refine Kd.C_drewN ?_ _) | (with_reducible refine Kd.C_drew ?_))); (case side4 => exact (Kd.R_reads' HO538.out).2.1); rintro e w74 ⟨v541, rfl, ho0, hb⟩; refine ⟨_, rfl, ?_⟩; have n0_ := Aside0.mk (Kd.R_elder' dq93 (Kd.R_base ho0) hb); have n1_ := Aside0.mk (Kd.R_elder' dq129 (Kd.R_base ho0) hb); have n2_ := Aside0.mk (Kd.S_elder' (by (with_reducible repeat (first | apply Kd.S_alloc | apply Kd.S_drewN | apply Kd.S_drew)); exact HO535.out) (Kd.R_base ho0) hb); have n3_ := Aside0.mk (Kd.R_below (by (with_reducible repeat (first | apply Kd.R_alloc | apply Kd.R_drewN | apply Kd.R_drew)); exact HO538.out) hb); have n4_ := Aside0.mk (Kd.R_lower (Kd.R_new' (Kd.R_new' ho0 (Kd.R_lt dq93)) (Kd.R_lt dq129)) (below_size dq17)); have n5_ := Aside0.mk (below_step dq17 hb); clear HO_6; clear HO_10; clear HO535; clear HO538; clear HB; have HO_6 := n0_; have HO_10 := n1_; have HO535 := n2_; have HO538 := n3_; have HO542 := n4_; have HB := n5_; clear n0_ n1_ n2_ n3_ n4_ n5_; (try clear hb); (try clear hb2); (try clear hk); (try clear hi); (try clear ho0)))
   (try simp only [Act.put, List.setIfInBounds_toArray, List.set_cons_zero, List.set_cons_succ])
   go_cut [110] (fun v110 wc => ∃ (kq : Nat) (x110_66 : Bool), v110 = .bool x110_66 ∧ Aside0 (laws_FnExactAttribute.j2 kq t531 t530 x110_66 = some r) ∧ Aside0 (kq ≤ kj41) ∧ Aside0 (Kd.R (Kd.int .i64) 2 wc w.heap.size (fun _ => True) (.slice Ao68 t513.length co68) t531) ∧ Aside0 (Below w.heap.size w wc))
   case first =>
    have H := HC67.out
    clear HC67
    replace H := Option.bind_eq_some_iff.mp H
    obtain ⟨t543, A750, H⟩ := H
    replace H : (if t543 = true then (laws_FnExactAttribute.j2 kj41 t531 t530 (t540 != t504)) else (laws_FnExactAttribute.j2 kj41 t531 t530 true)) = some r := H
    have A75 := Aside0.mk A750
    clear A750
    by_cases c76 : t543 = true
    ·subst c76
     have H1 : (laws_FnExactAttribute.j2 kj41 t531 t530 (t540 != t504)) = some r := by rw [if_pos rfl] at H; exact H
     clear H
     have H := H1
     clear H1
     have H' := Aside0.mk H
     clear H
     obtain ⟨Ao77, co77, eo77⟩ := Kd.R_slice HO542.out
     subst eo77
     obtain ⟨Ao78, co78, eo78⟩ := Kd.R_slice HO_6.out
     subst eo78
     go_wp2_with (first | ((with_reducible refine gate_callee (f := 13) rfl ?_); refine goesL_ (some 104) rfl rfl Try.func13 dq21 rfl #[.slice Ao77 t539.length co77, .slice Ao78 t503.length co78] rfl dq20 ?_; (with_reducible refine (laws_eqInt64S.calls kj41 _ _ t539 _ _ t503 true _ ?side1 ?side2 ?side3 ?side4 A75.out).mono ?_); (case side1 => repeat (first | exact (Kd.R_reads' HO542.out).2.2 | (with_reducible refine Kd.C_alloc ?_ _) | (with_reducible refine Kd.C_drewN ?_ _) | (with_reducible refine Kd.C_drew ?_))); (case side2 => exact (Kd.R_reads' HO542.out).2.1); (case side3 => exact dq12); (case side4 => exact (Kd.R_reads' HO_6.out).2.1); rintro e w' ⟨rfl, ⟨nd, rfl⟩⟩; refine ⟨_, rfl, ?_⟩))
     go_meet
     case rel => exact ⟨_, ((t540 != t504)), dq15, H', ⟨by have := HJ14.out; have := HJ41.out; first | omega | exact Nat.le_refl _⟩, ⟨dq134⟩, ⟨dq17⟩⟩
    replace c76 := Bool.eq_false_iff.mpr c76
    subst c76
    have H1 : (laws_FnExactAttribute.j2 kj41 t531 t530 true) = some r := by rw [if_neg (show ¬ (false = true) by decide)] at H; exact H
    clear H
    have H := H1
    clear H1
    have H' := Aside0.mk H
    clear H
    obtain ⟨Ao79, co79, eo79⟩ := Kd.R_slice HO542.out
    subst eo79
    obtain ⟨Ao80, co80, eo80⟩ := Kd.R_slice HO_6.out
    subst eo80
    go_wp2_with (first | ((with_reducible refine gate_callee (f := 13) rfl ?_); refine goesL_ (some 104) rfl rfl Try.func13 dq21 rfl #[.slice Ao79 t539.length co79, .slice Ao80 t503.length co80] rfl dq20 ?_; (with_reducible refine (laws_eqInt64S.calls kj41 _ _ t539 _ _ t503 false _ ?side1 ?side2 ?side3 ?side4 A75.out).mono ?_); (case side1 => repeat (first | exact (Kd.R_reads' HO542.out).2.2 | (with_reducible refine Kd.C_alloc ?_ _) | (with_reducible refine Kd.C_drewN ?_ _) | (with_reducible refine Kd.C_drew ?_))); (case side2 => exact (Kd.R_reads' HO542.out).2.1); (case side3 => exact dq12); (case side4 => exact (Kd.R_reads' HO_6.out).2.1); rintro e w' ⟨rfl, ⟨nd, rfl⟩⟩; refine ⟨_, rfl, ?_⟩))
    go_meet
    case rel => exact ⟨_, (true), dq15, H', ⟨by have := HJ14.out; have := HJ41.out; first | omega | exact Nat.le_refl _⟩, ⟨dq134⟩, ⟨dq17⟩⟩
   clear HC67
   try clear c60b0
   try clear c63b0
   try clear c63b1
   obtain ⟨kq, x110_66, rfl, HA, HJ66, HO_10, HB⟩ := hcut
   have hl10_66 := (Kd.R_reads' HO_10.out).1
   rw [hl10_66] at HO_10
   (try simp only [hl10_66])
   cases kq with
   | zero => exact absurd HA.out (by simp [laws_FnExactAttribute.j2])
   | succ kj66 =>
    have H := HA.out
    clear HA
    simp only [laws_FnExactAttribute.j2] at H
    by_cases c81 : x110_66 = true
    ·subst c81
     have H1 : (some false) = some r := by rw [if_pos rfl] at H; exact H
     clear H
     have H := H1
     clear H1
     obtain rfl := Option.some.inj H
     go_wp2
     go_ret
     exact ⟨dq19, dq17⟩
    replace c81 := Bool.eq_false_iff.mpr c81
    subst c81
    have H1 : ((laws_heldInt64S.f kj66 t531 1).bind fun t544 => (if t544 < 0 then (some false) else (if t544 = t530 then (some true) else (some false)))) = some r := by rw [if_neg (show ¬ (false = true) by decide)] at H; exact H
    clear H
    have H := H1
    clear H1
    replace H := Option.bind_eq_some_iff.mp H
    obtain ⟨t544, A820, H⟩ := H
    replace H : (if t544 < 0 then (some false) else (if t544 = t530 then (some true) else (some false))) = some r := H
    have A82 := Aside0.mk A820
    clear A820
    by_cases c83 : t544 < 0
    ·rw [if_pos c83] at H
     have c83b0 := decide_eq_true c83
     clear c83
     obtain rfl := Option.some.inj H
     go_wp2_with (first | ((with_reducible refine gate_callee (f := 17) rfl ?_); refine goesL_ (some 113) rfl rfl Try.func17 dq21 rfl #[.slice Ao68 t531.length co68, .int .i64 1] rfl dq20 ?_; (with_reducible refine (laws_heldInt64S.calls kj66 _ _ t531 1 t544 _ ?side1 ?side2 A82.out).mono ?_); (case side1 => exact dq11); (case side2 => exact (Kd.R_reads' HO_10.out).2.1); rintro e w' ⟨rfl, ⟨nd, rfl⟩⟩; refine ⟨_, rfl, ?_⟩))
     go_ret
     exact ⟨dq19, dq17⟩
    rw [if_neg c83] at H
    have c83b0 := decide_eq_false c83
    clear c83
    by_cases c84 : t544 = t530
    rotate_left
    ·rw [if_neg c84] at H
     have c84b0 := beq_eq_false_iff_ne.mpr c84
     have c84b1 := bne_iff_ne.mpr c84
     obtain rfl := Option.some.inj H
     go_wp2_with (first | ((with_reducible refine gate_callee (f := 17) rfl ?_); refine goesL_ (some 113) rfl rfl Try.func17 dq21 rfl #[.slice Ao68 t531.length co68, .int .i64 1] rfl dq20 ?_; (with_reducible refine (laws_heldInt64S.calls kj66 _ _ t531 1 t544 _ ?side1 ?side2 A82.out).mono ?_); (case side1 => exact dq11); (case side2 => exact (Kd.R_reads' HO_10.out).2.1); rintro e w' ⟨rfl, ⟨nd, rfl⟩⟩; refine ⟨_, rfl, ?_⟩))
     go_ret
     exact ⟨dq19, dq17⟩
    rw [if_pos c84] at H
    have c84b0 := beq_iff_eq.mpr c84
    have c84b1 := bne_eq_false_iff_eq.mpr c84
    clear c84
    obtain rfl := Option.some.inj H
    go_wp2_with (first | ((with_reducible refine gate_callee (f := 17) rfl ?_); refine goesL_ (some 113) rfl rfl Try.func17 dq21 rfl #[.slice Ao68 t531.length co68, .int .i64 1] rfl dq20 ?_; (with_reducible refine (laws_heldInt64S.calls kj66 _ _ t531 1 t544 _ ?side1 ?side2 A82.out).mono ?_); (case side1 => exact dq11); (case side2 => exact (Kd.R_reads' HO_10.out).2.1); rintro e w' ⟨rfl, ⟨nd, rfl⟩⟩; refine ⟨_, rfl, ?_⟩))
    go_ret
    exact ⟨dq19, dq17⟩

end Go.Proofs.Ytejkkdjfiebmfaa.L

namespace Go.Proofs.Ytejkkdjfiebmfaa.Pure
set_option linter.unusedVariables false
set_option linter.unusedSimpArgs false
namespace MT
structure Nd where
  kind : Int
  name : ByteArray
  kids : List Nat
  occ : Int
abbrev Md := List Nd
def Nd.pos (x : Nd) : Bool := x.kind == 1 || x.kind == 4
def Nd.opt (x : Nd) : Bool := x.occ == 1 || x.occ == 2
def Nd.oft (x : Nd) : Bool := x.occ == 2 || x.occ == 3
instance : Inhabited Nd := ⟨⟨2, ByteArray.empty, [], 0⟩⟩
def nd (p : Md) (i : Nat) : Nd := p.getD i default
def nul (p : Md) (i : Nat) : Bool :=
  (if (nd p i).kind = 2 then (nd p i).kids.all (fun k => if _h : k < i then nul p k else false) else if (nd p i).kind = 3 then (nd p i).kids.any (fun k => if _h : k < i then nul p k else false) else false) || (nd p i).opt
termination_by i
def pre (N : Nat → Bool) (F : Nat → List Nat) : List Nat → List Nat
  | [] => []
  | k :: ks => F k ++ (if N k then pre N F ks else [])
def suf (N : Nat → Bool) (L : Nat → List Nat) : List Nat → List Nat → List Nat
  | acc, [] => acc
  | acc, k :: ks => suf N L ((if N k then acc else []) ++ L k) ks
def fst (p : Md) (i : Nat) : List Nat :=
  if (nd p i).pos = true then [i] else if (nd p i).kind = 3 then (nd p i).kids.flatMap (fun k => if _h : k < i then fst p k else []) else pre (nul p) (fun k => if _h : k < i then fst p k else []) (nd p i).kids
termination_by i
def lst (p : Md) (i : Nat) : List Nat :=
  if (nd p i).pos = true then [i] else if (nd p i).kind = 3 then (nd p i).kids.flatMap (fun k => if _h : k < i then lst p k else []) else suf (nul p) (fun k => if _h : k < i then lst p k else []) [] (nd p i).kids
termination_by i
def led (p : Md) (j a b : Nat) : Prop :=
  ((nd p j).kind = 2 ∧ ∃ us k vs, (nd p j).kids = us ++ k :: vs ∧ a ∈ suf (nul p) (lst p) [] us ∧ b ∈ fst p k) ∨ ((nd p j).oft = true ∧ a ∈ lst p j ∧ b ∈ fst p j)
def fol (p : Md) (a b : Nat) : Prop := ∃ j, j < p.length ∧ led p j a b
def Ahead (p : Md) : Prop := ∀ i, i < p.length → ∀ k ∈ (nd p i).kids, k < i
def Chain (lo : Nat → Nat) : Nat → List Nat → Nat → Prop
  | e, [], b => b = e
  | e, k :: ks, b => ∃ m, Chain lo e ks m ∧ m = k + 1 ∧ b = lo k
structure Tree (p : Md) (lo : Nat → Nat) : Prop where
  chain : ∀ i, i < p.length → Chain lo i (nd p i).kids (lo i)
  kinds : ∀ i, i < p.length → ((nd p i).pos = true ∧ (nd p i).kids = []) ∨ (nd p i).kind = 2 ∨ ((nd p i).kind = 3 ∧ 2 ≤ (nd p i).kids.length)
theorem Chain.facts {lo : Nat → Nat} : ∀ {ks : List Nat} {e b : Nat}, (∀ k, k < e → lo k ≤ k) → Chain lo e ks b → b ≤ e ∧ (∀ k ∈ ks, b ≤ lo k ∧ k < e) ∧ ks.Pairwise (fun k k' => k < lo k')
  | [], e, b, h, hc => ⟨by have : b = e := hc; omega, by simp, .nil⟩
  | k :: ks, e, b, h, hc => by
    obtain ⟨m, h1, h2, h3⟩ := hc
    obtain ⟨a1, a2, a3⟩ := Chain.facts h h1
    have hk := h k (by omega)
    refine ⟨by omega, ?_, List.pairwise_cons.2 ⟨fun k' hk' => ?_, a3⟩⟩
    · intro k' hk'
      rcases List.mem_cons.1 hk' with rfl | h'
      · omega
      · have := a2 k' h'; omega
    · have := a2 k' hk'; omega
section
variable {p : Md} {lo : Nat → Nat} (T : Tree p lo)
include T
theorem Tree.le : ∀ i, i < p.length → lo i ≤ i := by
  intro i
  induction i using Nat.strongRecOn with
  | _ i ih =>
  intro hi
  exact (Chain.facts (fun k hk => ih k hk (by omega)) (T.chain i hi)).1
theorem Tree.kid {i k : Nat} (hi : i < p.length) (hk : k ∈ (nd p i).kids) : lo i ≤ lo k ∧ k < i := (Chain.facts (fun k hk => T.le k (by omega)) (T.chain i hi)).2.1 k hk
theorem Tree.apart {i : Nat} (hi : i < p.length) : (nd p i).kids.Pairwise (fun k k' => k < lo k') := (Chain.facts (fun k hk => T.le k (by omega)) (T.chain i hi)).2.2
theorem Tree.ahead : Ahead p := fun i hi k hk => (T.kid hi hk).2
end
theorem pre_congr {N N' : Nat → Bool} {F F' : Nat → List Nat} : ∀ {ks : List Nat}, (∀ k ∈ ks, N k = N' k ∧ F k = F' k) → pre N F ks = pre N' F' ks
  | [], _ => rfl
  | k :: ks, h => by
    have h1 := h k (by simp)
    unfold pre
    rw [h1.1, h1.2, pre_congr (fun k' hk' => h k' (by simp [hk']))]
theorem suf_congr {N N' : Nat → Bool} {F F' : Nat → List Nat} : ∀ {ks acc : List Nat}, (∀ k ∈ ks, N k = N' k ∧ F k = F' k) → suf N F acc ks = suf N' F' acc ks
  | [], acc, _ => rfl
  | k :: ks, acc, h => by
    have h1 := h k (by simp)
    unfold suf
    rw [h1.1, h1.2, suf_congr (fun k' hk' => h k' (by simp [hk']))]
theorem flatMap_congr {F F' : Nat → List Nat} : ∀ {ks : List Nat}, (∀ k ∈ ks, F k = F' k) → ks.flatMap F = ks.flatMap F'
  | [], _ => rfl
  | k :: ks, h => by rw [List.flatMap_cons, List.flatMap_cons, h k (by simp), flatMap_congr (fun k' hk' => h k' (by simp [hk']))]
theorem all_congr {N N' : Nat → Bool} : ∀ {ks : List Nat}, (∀ k ∈ ks, N k = N' k) → ks.all N = ks.all N'
  | [], _ => rfl
  | k :: ks, h => by rw [List.all_cons, List.all_cons, h k (by simp), all_congr (fun k' hk' => h k' (by simp [hk']))]
theorem any_congr {N N' : Nat → Bool} : ∀ {ks : List Nat}, (∀ k ∈ ks, N k = N' k) → ks.any N = ks.any N'
  | [], _ => rfl
  | k :: ks, h => by rw [List.any_cons, List.any_cons, h k (by simp), any_congr (fun k' hk' => h k' (by simp [hk']))]
section
variable {p : Md} (A : Ahead p)
include A
theorem nul_eq {i : Nat} (hi : i < p.length) : nul p i = ((if (nd p i).kind = 2 then (nd p i).kids.all (nul p) else if (nd p i).kind = 3 then (nd p i).kids.any (nul p) else false) || (nd p i).opt) := by
  conv => lhs; rw [nul]
  rw [all_congr (N' := nul p) (fun k hk => by rw [dif_pos (A i hi k hk)]), any_congr (N' := nul p) (fun k hk => by rw [dif_pos (A i hi k hk)])]
theorem fst_eq {i : Nat} (hi : i < p.length) : fst p i = if (nd p i).pos = true then [i] else if (nd p i).kind = 3 then (nd p i).kids.flatMap (fst p) else pre (nul p) (fst p) (nd p i).kids := by
  conv => lhs; rw [fst]
  rw [flatMap_congr (F' := fst p) (fun k hk => by rw [dif_pos (A i hi k hk)]), pre_congr (N' := nul p) (F' := fst p) (fun k hk => ⟨rfl, by rw [dif_pos (A i hi k hk)]⟩)]
theorem lst_eq {i : Nat} (hi : i < p.length) : lst p i = if (nd p i).pos = true then [i] else if (nd p i).kind = 3 then (nd p i).kids.flatMap (lst p) else suf (nul p) (lst p) [] (nd p i).kids := by
  conv => lhs; rw [lst]
  rw [flatMap_congr (F' := lst p) (fun k hk => by rw [dif_pos (A i hi k hk)]), suf_congr (N' := nul p) (F' := lst p) (fun k hk => ⟨rfl, by rw [dif_pos (A i hi k hk)]⟩)]
end
theorem mem_pre {N : Nat → Bool} {F : Nat → List Nat} {a : Nat} : ∀ {ks : List Nat}, a ∈ pre N F ks ↔ ∃ us k vs, ks = us ++ k :: vs ∧ (∀ u ∈ us, N u = true) ∧ a ∈ F k
  | [] => by simp [pre]
  | k :: ks => by
    unfold pre
    rw [List.mem_append]
    constructor
    · rintro (h | h)
      · exact ⟨[], k, ks, rfl, by simp, h⟩
      · cases hN : N k with
        | false => rw [hN] at h; simp at h
        | true =>
          rw [hN, if_pos rfl] at h
          obtain ⟨us, k', vs, e, hu, ha⟩ := mem_pre.1 h
          refine ⟨k :: us, k', vs, by rw [e]; rfl, ?_, ha⟩
          intro u hu'
          rcases List.mem_cons.1 hu' with rfl | h'
          · exact hN
          · exact hu u h'
    · rintro ⟨us, k', vs, e, hu, ha⟩
      cases us with
      | nil =>
        simp only [List.nil_append, List.cons.injEq] at e
        exact .inl (e.1 ▸ ha)
      | cons u us =>
        simp only [List.cons_append, List.cons.injEq] at e
        obtain ⟨rfl, rfl⟩ := e
        right
        rw [hu k (by simp), if_pos rfl]
        exact mem_pre.2 ⟨us, k', vs, rfl, fun x hx => hu x (by simp [hx]), ha⟩
theorem mem_suf {N : Nat → Bool} {L : Nat → List Nat} {a : Nat} : ∀ {ks acc : List Nat}, a ∈ suf N L acc ks ↔ (a ∈ acc ∧ ∀ u ∈ ks, N u = true) ∨ ∃ us k vs, ks = us ++ k :: vs ∧ (∀ v ∈ vs, N v = true) ∧ a ∈ L k
  | [], acc => by simp [suf]
  | k :: ks, acc => by
    unfold suf
    rw [mem_suf]
    constructor
    · rintro (⟨h, hu⟩ | ⟨us, k', vs, e, hv, ha⟩)
      · rcases List.mem_append.1 h with h | h
        · left
          cases hN : N k with
          | false => rw [hN] at h; simp at h
          | true =>
            rw [hN, if_pos rfl] at h
            refine ⟨h, ?_⟩
            intro u hu'
            rcases List.mem_cons.1 hu' with rfl | h'
            · exact hN
            · exact hu u h'
        · exact .inr ⟨[], k, ks, rfl, hu, h⟩
      · exact .inr ⟨k :: us, k', vs, by rw [e]; rfl, hv, ha⟩
    · rintro (⟨h, hu⟩ | ⟨us, k', vs, e, hv, ha⟩)
      · left
        refine ⟨List.mem_append.2 (.inl ?_), fun u h' => hu u (by simp [h'])⟩
        rw [hu k (by simp), if_pos rfl]
        exact h
      · cases us with
        | nil =>
          simp only [List.nil_append, List.cons.injEq] at e
          obtain ⟨rfl, rfl⟩ := e
          exact .inl ⟨List.mem_append.2 (.inr ha), hv⟩
        | cons u us =>
          simp only [List.cons_append, List.cons.injEq] at e
          obtain ⟨rfl, rfl⟩ := e
          exact .inr ⟨us, k', vs, rfl, hv, ha⟩
section
variable {p : Md} {lo : Nat → Nat} (T : Tree p lo)
include T
theorem edge_in (E : Md → Nat → List Nat) (hE : E = fst ∨ E = lst) : ∀ i, i < p.length → ∀ a ∈ E p i, lo i ≤ a ∧ a ≤ i ∧ (nd p a).pos = true := by
  intro i
  induction i using Nat.strongRecOn with
  | _ i ih =>
  intro hi a ha
  have key : ∀ k ∈ (nd p i).kids, a ∈ E p k → lo i ≤ a ∧ a ≤ i ∧ (nd p a).pos = true := by
    intro k hk hak
    have h1 := T.kid hi hk
    have h2 := ih k h1.2 (by omega) a hak
    exact ⟨by omega, by omega, h2.2.2⟩
  have hle := T.le i hi
  rcases hE with rfl | rfl
  · rw [fst_eq T.ahead hi] at ha
    split at ha
    · rename_i hp
      obtain rfl : a = i := by simpa using ha
      exact ⟨hle, Nat.le_refl _, hp⟩
    · split at ha
      · obtain ⟨k, hk, hak⟩ := List.mem_flatMap.1 ha
        exact key k hk hak
      · obtain ⟨us, k, vs, e, _, hak⟩ := mem_pre.1 ha
        exact key k (by rw [e]; simp) hak
  · rw [lst_eq T.ahead hi] at ha
    split at ha
    · rename_i hp
      obtain rfl : a = i := by simpa using ha
      exact ⟨hle, Nat.le_refl _, hp⟩
    · split at ha
      · obtain ⟨k, hk, hak⟩ := List.mem_flatMap.1 ha
        exact key k hk hak
      · rcases mem_suf.1 ha with ⟨h, _⟩ | ⟨us, k, vs, e, _, hak⟩
        · simp at h
        · exact key k (by rw [e]; simp) hak
omit T in
theorem nodup_flat {F : Nat → List Nat} : ∀ {ks : List Nat}, (∀ k ∈ ks, (F k).Nodup) → ks.Pairwise (fun k k' => ∀ a ∈ F k, a ∉ F k') → (ks.flatMap F).Nodup
  | [], _, _ => by simp
  | k :: ks, h, hp => by
    rw [List.flatMap_cons]
    rw [List.pairwise_cons] at hp
    refine List.nodup_append.2 ⟨h k (by simp), nodup_flat (fun k' hk' => h k' (by simp [hk'])) hp.2, ?_⟩
    intro a ha b hb e
    subst e
    obtain ⟨k', hk', hak'⟩ := List.mem_flatMap.1 hb
    exact hp.1 k' hk' a ha hak'
omit T in
theorem pre_sub {N : Nat → Bool} {F : Nat → List Nat} : ∀ ks : List Nat, (pre N F ks).Sublist (ks.flatMap F)
  | [] => by simp [pre]
  | k :: ks => by
    rw [pre, List.flatMap_cons]
    refine List.Sublist.append (List.Sublist.refl _) ?_
    split
    · exact pre_sub ks
    · exact List.nil_sublist _
omit T in
theorem suf_sub {N : Nat → Bool} {L : Nat → List Nat} : ∀ ks acc : List Nat, (suf N L acc ks).Sublist (acc ++ ks.flatMap L)
  | [], acc => by simp [suf]
  | k :: ks, acc => by
    rw [suf, List.flatMap_cons]
    refine (suf_sub ks _).trans ?_
    rw [← List.append_assoc]
    refine List.Sublist.append ?_ (List.Sublist.refl _)
    refine List.Sublist.append ?_ (List.Sublist.refl _)
    split
    · exact List.Sublist.refl _
    · exact List.nil_sublist _
theorem edge_apart (E : Md → Nat → List Nat) (hE : E = fst ∨ E = lst) {i : Nat} (hi : i < p.length) : (nd p i).kids.Pairwise (fun k k' => ∀ a ∈ E p k, a ∉ E p k') := by
  have h : (nd p i).kids.Pairwise (fun k k' => k < i ∧ k' < i ∧ k < lo k') :=
    List.Pairwise.imp_of_mem (fun {a b} ha hb hab => ⟨(T.kid hi ha).2, (T.kid hi hb).2, hab⟩) (T.apart hi)
  refine h.imp ?_
  rintro k k' ⟨h1, h2, h3⟩ a ha ha'
  have := edge_in T E hE k (by omega) a ha
  have := edge_in T E hE k' (by omega) a ha'
  omega
theorem edge_nodup (E : Md → Nat → List Nat) (hE : E = fst ∨ E = lst) : ∀ i, i < p.length → (E p i).Nodup := by
  intro i
  induction i using Nat.strongRecOn with
  | _ i ih =>
  intro hi
  have key : ((nd p i).kids.flatMap (E p)).Nodup := nodup_flat (fun k hk => ih k (T.kid hi hk).2 (by have := (T.kid hi hk).2; omega)) (edge_apart T E hE hi)
  rcases hE with rfl | rfl
  · rw [fst_eq T.ahead hi]
    split
    · simp
    · split
      · exact key
      · exact key.sublist (pre_sub _)
  · rw [lst_eq T.ahead hi]
    split
    · simp
    · split
      · exact key
      · exact key.sublist (by simpa using suf_sub (N := nul p) (L := lst p) (nd p i).kids [])
end
end MT
namespace MT
/- The specification's edges and what may follow -/
def lstS (p : Md) (i : Nat) : List Nat :=
  if (nd p i).pos = true then [i] else if (nd p i).kind = 3 then (nd p i).kids.reverse.flatMap (fun k => if _h : k < i then lstS p k else []) else pre (nul p) (fun k => if _h : k < i then lstS p k else []) (nd p i).kids.reverse
termination_by i
theorem lstS_eq {p : Md} (A : Ahead p) {i : Nat} (hi : i < p.length) : lstS p i = if (nd p i).pos = true then [i] else if (nd p i).kind = 3 then (nd p i).kids.reverse.flatMap (lstS p) else pre (nul p) (lstS p) (nd p i).kids.reverse := by
  conv => lhs; rw [lstS]
  rw [flatMap_congr (F' := lstS p) (fun k hk => by rw [dif_pos (A i hi k (List.mem_reverse.1 hk))]), pre_congr (N' := nul p) (F' := lstS p) (fun k hk => ⟨rfl, by rw [dif_pos (A i hi k (List.mem_reverse.1 hk))]⟩)]
theorem mem_lstS {p : Md} (A : Ahead p) {a : Nat} : ∀ i, i < p.length → (a ∈ lstS p i ↔ a ∈ lst p i) := by
  intro i
  induction i using Nat.strongRecOn with
  | _ i ih =>
  intro hi
  have hk : ∀ k ∈ (nd p i).kids, (a ∈ lstS p k ↔ a ∈ lst p k) := fun k hk => ih k (A i hi k hk) (by have := A i hi k hk; omega)
  rw [lstS_eq A hi, lst_eq A hi]
  split
  · exact Iff.rfl
  · split
    · rw [List.mem_flatMap, List.mem_flatMap]
      constructor
      · rintro ⟨k, h1, h2⟩
        exact ⟨k, List.mem_reverse.1 h1, (hk k (List.mem_reverse.1 h1)).1 h2⟩
      · rintro ⟨k, h1, h2⟩
        exact ⟨k, List.mem_reverse.2 h1, (hk k h1).2 h2⟩
    · rw [mem_pre, mem_suf]
      constructor
      · rintro ⟨us, k, vs, e, hu, ha⟩
        have e' : (nd p i).kids = vs.reverse ++ k :: us.reverse := by
          have := congrArg List.reverse e
          simpa using this
        exact .inr ⟨vs.reverse, k, us.reverse, e', fun v hv => hu v (List.mem_reverse.1 hv), (hk k (by rw [e']; simp)).1 ha⟩
      · rintro (⟨h, _⟩ | ⟨us, k, vs, e, hv, ha⟩)
        · simp at h
        · exact ⟨vs.reverse, k, us.reverse, by rw [e]; simp, fun v h => hv v (List.mem_reverse.1 h), (hk k (by rw [e]; simp)).2 ha⟩
def aftr (p : Md) (n : Nat) : List Nat → List Nat
  | [] => []
  | k :: ks => (if n ∈ lstS p k then pre (nul p) (fst p) ks else []) ++ aftr p n ks
theorem mem_aftr {p : Md} {n b : Nat} : ∀ {ks : List Nat}, b ∈ aftr p n ks ↔ ∃ us k vs, ks = us ++ k :: vs ∧ n ∈ lstS p k ∧ b ∈ pre (nul p) (fst p) vs
  | [] => by simp [aftr]
  | k :: ks => by
    rw [aftr, List.mem_append, mem_aftr]
    constructor
    · rintro (h | ⟨us, k', vs, e, h1, h2⟩)
      · split at h
        · rename_i c
          exact ⟨[], k, ks, rfl, c, h⟩
        · simp at h
      · exact ⟨k :: us, k', vs, by rw [e]; rfl, h1, h2⟩
    · rintro ⟨us, k', vs, e, h1, h2⟩
      cases us with
      | nil =>
        simp only [List.nil_append, List.cons.injEq] at e
        obtain ⟨rfl, rfl⟩ := e
        left
        rw [if_pos h1]
        exact h2
      | cons u us =>
        simp only [List.cons_append, List.cons.injEq] at e
        obtain ⟨rfl, rfl⟩ := e
        exact .inr ⟨us, k', vs, rfl, h1, h2⟩
def adds (p : Md) (n i : Nat) : List Nat := (if (nd p i).oft = true ∧ n ∈ lstS p i then fst p i else []) ++ (if (nd p i).kind = 2 then aftr p n (nd p i).kids else [])
def folS (p : Md) (n : Nat) : List Nat := (List.range p.length).flatMap (adds p n)
theorem mem_adds {p : Md} (A : Ahead p) {i n b : Nat} (hi : i < p.length) : b ∈ adds p n i ↔ led p i n b := by
  unfold adds led
  rw [List.mem_append]
  constructor
  · rintro (h | h)
    · split at h
      · rename_i c
        exact .inr ⟨c.1, (mem_lstS A i hi).1 c.2, h⟩
      · simp at h
    · split at h
      · rename_i c
        obtain ⟨us, k, vs, e, h1, h2⟩ := mem_aftr.1 h
        obtain ⟨us', k', vs', e', h3, h4⟩ := mem_pre.1 h2
        have hk : k < p.length := by have := A i hi k (by rw [e]; simp); omega
        refine .inl ⟨c, us ++ k :: us', k', vs', by rw [e, e']; simp, ?_, h4⟩
        exact mem_suf.2 (.inr ⟨us, k, us', rfl, h3, (mem_lstS A k hk).1 h1⟩)
      · simp at h
  · rintro (⟨c, us, k, vs, e, h1, h2⟩ | ⟨c, h1, h2⟩)
    · right
      rw [if_pos c]
      rcases mem_suf.1 h1 with ⟨h, _⟩ | ⟨us', k', vs', e', hv, ha⟩
      · simp at h
      · have hk : k' < p.length := by have := A i hi k' (by rw [e, e']; simp); omega
        exact mem_aftr.2 ⟨us', k', vs' ++ k :: vs, by rw [e, e']; simp, (mem_lstS A k' hk).2 ha, mem_pre.2 ⟨vs', k, vs, rfl, hv, h2⟩⟩
    · left
      rw [if_pos ⟨c, (mem_lstS A i hi).2 h1⟩]
      exact h2
theorem mem_folS {p : Md} (A : Ahead p) {n b : Nat} : b ∈ folS p n ↔ fol p n b := by
  unfold folS fol
  rw [List.mem_flatMap]
  constructor
  · rintro ⟨i, hi, h⟩
    exact ⟨i, List.mem_range.1 hi, (mem_adds A (List.mem_range.1 hi)).1 h⟩
  · rintro ⟨i, hi, h⟩
    exact ⟨i, List.mem_range.2 hi, (mem_adds A hi).2 h⟩
end MT
end Go.Proofs.Ytejkkdjfiebmfaa.Pure

namespace Go.Proofs.Ytejkkdjfiebmfaa.Pure
open Go.RowKit Go.Proofs.Ytejkkdjfiebmfaa.L Go.Proofs.YtejkkdjfiebmfaaW.PrintWords Go.Proofs.YtejkkdjfiebmfaaW.PrintLast Go.Proofs.YtejkkdjfiebmfaaW.PrintMore
set_option linter.unusedVariables false
set_option linter.unusedSimpArgs false

def fstB (b : UInt8) : Bool := decide (97 ≤ b.toNat ∧ b.toNat ≤ 122) || decide (65 ≤ b.toNat ∧ b.toNat ≤ 90) || decide (b.toNat = 95)
def moreB (b : UInt8) : Bool := fstB b || decide (48 ≤ b.toNat ∧ b.toNat ≤ 57) || decide (b.toNat = 46) || decide (b.toNat = 45)
def nameB : List UInt8 → Bool
  | [] => false
  | b :: t => fstB b && t.all moreB && decide (t.length + 1 ≤ 40)
theorem u8_all {p : UInt8 → Prop} (h : ∀ n : Fin 256, p (UInt8.ofNat n.val)) (b : UInt8) : p b := by
  have := h ⟨b.toNat, b.toNat_lt⟩
  simpa using this
theorem first_f (b : UInt8) : spec_l1First.f (b.toNat : Int) = some (fstB b) := by
  revert b
  refine u8_all ?_
  decide +kernel
theorem more_f (b : UInt8) : spec_l1More.f (b.toNat : Int) = some (moreB b) := by
  revert b
  refine u8_all ?_
  decide +kernel
theorem spec_name_l0 (s : ByteArray) (hs : s.data.toList.length ≤ 9223372036854775806) : ∀ (n i : Nat), i + n = s.data.toList.length →
    Ev (fun k => spec_NameOk.l0 k s (i : Int)) ((s.data.toList.drop i).all moreB) := by
  intro n
  induction n with
  | zero =>
    intro i hi
    refine Ev.step (f := fun _ => some true) (fun k => ?_) ?_
    · unfold spec_NameOk.l0
      rw [if_neg (by rw [sz]; omega)]
    · rw [List.drop_of_length_le (by omega)]; exact Ev.now _
  | succ n ih =>
    intro i hi
    have hlt : i < s.data.toList.length := by omega
    have e : spec_l1More.f (bt s (i : Int)) = some (moreB (s.data.toList[i])) := by rw [bt_nat s i hlt]; exact more_f _
    have hd : s.data.toList.drop i = s.data.toList[i] :: s.data.toList.drop (i + 1) := List.drop_eq_getElem_cons hlt
    have w : wrap64 ((i : Int) + 1) = ((i + 1 : Nat) : Int) := by rw [w64] <;> omega
    by_cases c : moreB (s.data.toList[i]) = true
    · refine Ev.step (f := fun k => spec_NameOk.l0 k s ((i + 1 : Nat) : Int)) (fun k => ?_) ?_
      · conv => lhs; unfold spec_NameOk.l0
        rw [if_pos (by rw [sz]; omega), if_pos (by omega), e]
        simp only [Option.bind_some, if_pos c, w]
      · rw [hd, List.all_cons, c, Bool.true_and]; exact ih (i + 1) (by omega)
    · refine Ev.step (f := fun _ => some false) (fun k => ?_) ?_
      · conv => lhs; unfold spec_NameOk.l0
        rw [if_pos (by rw [sz]; omega), if_pos (by omega), e]
        simp only [Option.bind_some, if_neg c]
      · rw [hd, List.all_cons]
        rw [Bool.not_eq_true] at c
        rw [c, Bool.false_and]; exact Ev.now _
theorem spec_name (s : ByteArray) : Ev (fun k => spec_NameOk.f k s) (nameB s.data.toList) := by
  cases hl : s.data.toList with
  | nil =>
    refine Ev.congr (f := fun k => spec_NameOk.j0 k s true) (fun k => ?_) ?_
    · unfold spec_NameOk.f
      rw [if_pos (by rw [sz, hl]; decide)]
    · refine Ev.step (f := fun _ => some false) (fun k => ?_) (Ev.now _)
      rfl
  | cons b t =>
    have hz : (s.size : Int) = (t.length : Int) + 1 := by rw [sz, hl]; simp
    by_cases c : t.length + 1 ≤ 40
    · refine Ev.congr (f := fun k => spec_NameOk.j0 k s (!fstB b)) (fun k => ?_) ?_
      · unfold spec_NameOk.f
        rw [if_neg (by omega), if_neg (by omega), if_pos (by omega), first_bt s b t hl, first_f]
        rfl
      · by_cases d : fstB b = true
        · refine Ev.step (f := fun k => spec_NameOk.l0 k s ((1 : Nat) : Int)) (fun k => ?_) ?_
          · rw [d]; rfl
          · have := spec_name_l0 s (by rw [hl]; simp; omega) t.length 1 (by rw [hl]; simp; omega)
            rw [hl] at this
            have e : nameB (b :: t) = ((b :: t).drop 1).all moreB := by simp [nameB, d, c]
            rw [e]; exact this
        · rw [Bool.not_eq_true] at d
          have e : nameB (b :: t) = false := by simp [nameB, d]
          rw [e]
          refine Ev.step (f := fun _ => some false) (fun k => ?_) (Ev.now _)
          rw [d]; rfl
    · have e : nameB (b :: t) = false := by simp [nameB, c]
      rw [e]
      refine Ev.congr (f := fun k => spec_NameOk.j0 k s true) (fun k => ?_) ?_
      · unfold spec_NameOk.f
        rw [if_neg (by omega), if_pos (by omega)]
      · refine Ev.step (f := fun _ => some false) (fun k => ?_) (Ev.now _)
        rfl

def lenB (n : Nat) : Bool := decide (1 ≤ n) && decide (n ≤ 40)
theorem in_len (n : Nat) : impl_in.f (n : Int) 1 40 = some (lenB n) := by
  unfold impl_in.f lenB
  by_cases h : 1 ≤ n
  · rw [if_pos (by omega)]; simp [h]; omega
  · rw [if_neg (by omega)]; simp [h]
theorem fst_iff (b : UInt8) : fstB b = true ↔ ((97 ≤ (b.toNat : Int) ∧ (b.toNat : Int) ≤ 122) ∨ (65 ≤ (b.toNat : Int) ∧ (b.toNat : Int) ≤ 90) ∨ (b.toNat : Int) = 95) := by
  unfold fstB
  simp only [Bool.or_eq_true, decide_eq_true_eq]
  omega
theorem more_iff (b : UInt8) : moreB b = true ↔ (((97 ≤ (b.toNat : Int) ∧ (b.toNat : Int) ≤ 122) ∨ (65 ≤ (b.toNat : Int) ∧ (b.toNat : Int) ≤ 90) ∨ (b.toNat : Int) = 95) ∨ (48 ≤ (b.toNat : Int) ∧ (b.toNat : Int) ≤ 57) ∨ (b.toNat : Int) = 46 ∨ (b.toNat : Int) = 45) := by
  unfold moreB
  simp only [Bool.or_eq_true, decide_eq_true_eq, fst_iff]
  omega
theorem impl_name_l0 (s : ByteArray) (hs : s.data.toList.length ≤ 9223372036854775806) : ∀ (n i : Nat), 1 ≤ i → i + n = s.data.toList.length →
    Ev (fun k => impl_NameOk.l0 k s (s.size : Int) (i : Int)) ((s.data.toList.drop i).all moreB && lenB s.data.toList.length) := by
  intro n
  induction n with
  | zero =>
    intro i h1 hi
    refine Ev.step (f := fun _ => some (lenB s.data.toList.length)) (fun k => ?_) ?_
    · unfold impl_NameOk.l0
      rw [if_neg (by rw [sz]; omega), sz, in_len]
      rfl
    · rw [List.drop_of_length_le (by omega)]; exact Ev.now _
  | succ n ih =>
    intro i h1 hi
    have hlt : i < s.data.toList.length := by omega
    have hd : s.data.toList.drop i = s.data.toList[i] :: s.data.toList.drop (i + 1) := List.drop_eq_getElem_cons hlt
    have w : wrap64 ((i : Int) + 1) = ((i + 1 : Nat) : Int) := by rw [w64] <;> omega
    have hm := more_iff (s.data.toList[i])
    by_cases c : moreB (s.data.toList[i]) = true
    · have hv := hm.1 c
      refine Ev.step (f := fun k => impl_NameOk.l0 k s (s.size : Int) ((i + 1 : Nat) : Int)) (fun k => ?_) ?_
      · conv => lhs; unfold impl_NameOk.l0
        rw [if_pos (by rw [sz]; omega), if_pos (by omega), if_pos (by rw [sz]; omega), bt_nat s i hlt, w]
        generalize impl_NameOk.l0 k s (s.size : Int) ((i + 1 : Nat) : Int) = X
        generalize ((s.data.toList[i]).toNat : Int) = v at hv
        clear hm ih c hd w hs hi hlt
        have hi0 : ¬ (i : Int) = 0 := by omega
        simp only [if_neg hi0]
        clear hi0 h1
        repeat' split
        all_goals first | rfl | (exfalso; omega)
      · rw [hd, List.all_cons, c, Bool.true_and]; exact ih (i + 1) (by omega) (by omega)
    · have hv := mt hm.2 c
      refine Ev.step (f := fun _ => some false) (fun k => ?_) ?_
      · conv => lhs; unfold impl_NameOk.l0
        rw [if_pos (by rw [sz]; omega), if_pos (by omega), if_pos (by rw [sz]; omega), bt_nat s i hlt, w]
        generalize impl_NameOk.l0 k s (s.size : Int) ((i + 1 : Nat) : Int) = X
        generalize ((s.data.toList[i]).toNat : Int) = v at hv
        clear hm ih c hd w hs hi hlt
        have hi0 : ¬ (i : Int) = 0 := by omega
        simp only [if_neg hi0]
        clear hi0 h1
        repeat' split
        all_goals first | rfl | (exfalso; omega)
      · rw [hd, List.all_cons]
        rw [Bool.not_eq_true] at c
        rw [c, Bool.false_and, Bool.false_and]; exact Ev.now _
theorem impl_name (s : ByteArray) (hs : s.data.toList.length ≤ 9223372036854775806) : Ev (fun k => impl_NameOk.f k s) (nameB s.data.toList) := by
  cases hl : s.data.toList with
  | nil =>
    unfold impl_NameOk.f
    refine Ev.step (f := fun _ => some false) (fun k => ?_) (Ev.now _)
    unfold impl_NameOk.l0
    have hz : s.size = 0 := by rw [sz, hl]; rfl
    rw [if_neg (by omega), hz]
    rfl
  | cons b t =>
    have hlt : 0 < s.data.toList.length := by rw [hl]; simp
    have hlen : s.data.toList.length = t.length + 1 := by rw [hl]; simp
    have w : wrap64 ((0 : Int) + 1) = ((1 : Nat) : Int) := by rw [w64 (by omega) (by omega)]; rfl
    have hm := fst_iff b
    have eb : bt s 0 = (b.toNat : Int) := first_bt s b t hl
    unfold impl_NameOk.f
    by_cases c : fstB b = true
    · have hv := hm.1 c
      refine Ev.step (f := fun k => impl_NameOk.l0 k s (s.size : Int) ((1 : Nat) : Int)) (fun k => ?_) ?_
      · conv => lhs; unfold impl_NameOk.l0
        rw [if_pos (by rw [sz]; omega), if_pos (by omega), if_pos (by rw [sz]; omega), eb, w]
        generalize impl_NameOk.l0 k s (s.size : Int) ((1 : Nat) : Int) = X
        generalize (b.toNat : Int) = v at hv
        clear hm c eb w hs hlt hlen hl
        simp only [if_true]
        repeat' split
        all_goals first | rfl | (exfalso; omega)
      · have := impl_name_l0 s hs t.length 1 (by omega) (by omega)
        rw [hl] at this
        have e : nameB (b :: t) = (((b :: t).drop 1).all moreB && lenB (b :: t).length) := by
          simp [nameB, lenB, c]
        rw [e]; exact this
    · have hv := mt hm.2 c
      refine Ev.step (f := fun _ => some false) (fun k => ?_) ?_
      · conv => lhs; unfold impl_NameOk.l0
        rw [if_pos (by rw [sz]; omega), if_pos (by omega), if_pos (by rw [sz]; omega), eb, w]
        generalize impl_NameOk.l0 k s (s.size : Int) ((1 : Nat) : Int) = X
        generalize (b.toNat : Int) = v at hv
        clear hm c eb w hs hlt hlen hl
        simp only [if_true]
        repeat' split
        all_goals first | rfl | (exfalso; omega)
      · rw [Bool.not_eq_true] at c
        have e : nameB (b :: t) = false := by simp [nameB, c]
        rw [e]; exact Ev.now _
theorem w1n {i m : Nat} (h : i < m) (hm : m ≤ 9223372036854775807) : wrap64 ((i : Int) + 1) = ((i + 1 : Nat) : Int) := by rw [w64] <;> omega
theorem rdZ (l : List Int) (i : Nat) (h : i < l.length) : rd l (i : Int) = l[i] := by
  unfold rd
  simp [h]
abbrev PM : Type := S49
def at_ (p : List PM) (i : Nat) : PM := rd_T49 p (i : Int)
theorem at_lt {p : List PM} {i : Nat} (h : i < p.length) : at_ p i = p[i] := by
  unfold at_ rd_T49
  simp [h]
def chF (g : Nat → Option Nat) : Nat → List Int → Option Nat
  | e, [] => some e
  | e, k :: ks => if 0 < e ∧ k = (e : Int) - 1 then (g (e - 1)).bind fun f => chF g f ks else none
def tf (p : List PM) (i : Nat) : Option Nat := chF (fun j => if _h : j < i then tf p j else none) i (at_ p i).f2.reverse
termination_by i
theorem chF_le {g : Nat → Option Nat} (hg : ∀ j f, g j = some f → f ≤ j) : ∀ {ks : List Int} {e f : Nat}, chF g e ks = some f → f ≤ e
  | [], e, f, h => by
    have : e = f := Option.some.inj h
    omega
  | k :: ks, e, f, h => by
    unfold chF at h
    by_cases c : 0 < e ∧ k = (e : Int) - 1
    · rw [if_pos c] at h
      obtain ⟨f1, h1, h2⟩ := Option.bind_eq_some_iff.1 h
      have a := hg _ _ h1
      have b := chF_le hg h2
      omega
    · rw [if_neg c] at h; cases h
theorem chF_congr {g g' : Nat → Option Nat} {i : Nat} (hg : ∀ j f, g j = some f → f ≤ j) (h : ∀ j, j < i → g' j = g j) : ∀ (ks : List Int) (e : Nat), e ≤ i → chF g' e ks = chF g e ks
  | [], e, _ => rfl
  | k :: ks, e, he => by
    unfold chF
    by_cases c : 0 < e ∧ k = (e : Int) - 1
    · rw [if_pos c, if_pos c, h (e - 1) (by omega)]
      cases hq : g (e - 1) with
      | none => rfl
      | some f => exact chF_congr hg h ks f (by have := hg _ _ hq; omega)
    · rw [if_neg c, if_neg c]
theorem tf_le {p : List PM} : ∀ i f, tf p i = some f → f ≤ i := by
  intro i
  induction i using Nat.strongRecOn with
  | _ i ih =>
  intro f h
  rw [tf] at h
  refine chF_le (fun j f hj => ?_) h
  by_cases c : j < i
  · rw [dif_pos c] at hj
    exact ih j c f hj
  · rw [dif_neg c] at hj; cases hj
theorem tf_eq (p : List PM) (i : Nat) : tf p i = chF (tf p) i (at_ p i).f2.reverse := by
  conv => lhs; rw [tf]
  exact chF_congr (fun j f h => tf_le j f h) (fun j hj => dif_pos hj) _ i (Nat.le_refl _)
theorem chF_app (g : Nat → Option Nat) : ∀ (a b : List Int) (e : Nat), chF g e (a ++ b) = (chF g e a).bind fun m => chF g m b
  | [], b, e => rfl
  | k :: a, b, e => by
    show (if 0 < e ∧ k = (e : Int) - 1 then (g (e - 1)).bind fun f => chF g f (a ++ b) else none) = (if 0 < e ∧ k = (e : Int) - 1 then (g (e - 1)).bind fun f => chF g f a else none).bind fun m => chF g m b
    by_cases c : 0 < e ∧ k = (e : Int) - 1
    · rw [if_pos c, if_pos c]
      cases g (e - 1) with
      | none => rfl
      | some f => exact chF_app g a b f
    · rw [if_neg c, if_neg c]; rfl
def dpS (g : Nat → Nat) (d : Nat) (ks : List Int) : Nat := ks.foldl (fun a k => max a (g k.toNat + 1)) d
def dp (p : List PM) (i : Nat) : Nat := dpS (fun j => if _h : j < i then dp p j else 0) 0 (at_ p i).f2
termination_by i
theorem dpS_max (g : Nat → Nat) : ∀ (ks : List Int) (d : Nat), dpS g d ks = max d (dpS g 0 ks)
  | [], d => by simp [dpS]
  | k :: ks, d => by
    show dpS g (max d (g k.toNat + 1)) ks = max d (dpS g (max 0 (g k.toNat + 1)) ks)
    rw [dpS_max g ks (max d _), dpS_max g ks (max 0 _)]
    omega
theorem dpS_app (g : Nat → Nat) (a b : List Int) (d : Nat) : dpS g d (a ++ b) = dpS g (dpS g d a) b := List.foldl_append
theorem dpS_rev (g : Nat → Nat) : ∀ (ks : List Int), dpS g 0 ks.reverse = dpS g 0 ks
  | [] => rfl
  | k :: ks => by
    rw [List.reverse_cons, dpS_app, dpS_rev g ks]
    show max (dpS g 0 ks) (g k.toNat + 1) = dpS g (max 0 (g k.toNat + 1)) ks
    rw [dpS_max g ks (max 0 _)]
    omega
theorem dpS_congr {g g' : Nat → Nat} : ∀ (ks : List Int) (d : Nat), (∀ k ∈ ks, g k.toNat = g' k.toNat) → dpS g d ks = dpS g' d ks
  | [], d, _ => rfl
  | k :: ks, d, h => by
    show dpS g (max d (g k.toNat + 1)) ks = dpS g' (max d (g' k.toNat + 1)) ks
    rw [h k (by simp), dpS_congr ks _ (fun k' hk' => h k' (by simp [hk']))]
theorem chF_kids {g : Nat → Option Nat} (hg : ∀ j f, g j = some f → f ≤ j) : ∀ {ks : List Int} {e f : Nat}, chF g e ks = some f → ∀ k ∈ ks, 0 ≤ k ∧ k < (e : Int) ∧ ∃ q, g k.toNat = some q ∧ f ≤ q
  | [], e, f, _ => by simp
  | k :: ks, e, f, h => by
    unfold chF at h
    by_cases c : 0 < e ∧ k = (e : Int) - 1
    · rw [if_pos c] at h
      obtain ⟨f1, h1, h2⟩ := Option.bind_eq_some_iff.1 h
      have a := hg _ _ h1
      have b := chF_le hg h2
      intro k' hk'
      rcases List.mem_cons.1 hk' with rfl | hk'
      · exact ⟨by omega, by omega, f1, by rw [show k'.toNat = e - 1 by omega]; exact h1, b⟩
      · obtain ⟨x, y, q, hq⟩ := chF_kids hg h2 k' hk'
        exact ⟨x, by omega, q, hq⟩
    · rw [if_neg c] at h; cases h
theorem tf_kids {p : List PM} {i f : Nat} (h : tf p i = some f) : ∀ k ∈ (at_ p i).f2, 0 ≤ k ∧ k < (i : Int) ∧ ∃ q, tf p k.toNat = some q ∧ f ≤ q := by
  rw [tf_eq] at h
  intro k hk
  exact chF_kids (fun j f hj => tf_le j f hj) h k (List.mem_reverse.2 hk)
theorem dp_eq {p : List PM} {i f : Nat} (h : tf p i = some f) : dp p i = dpS (dp p) 0 (at_ p i).f2 := by
  conv => lhs; rw [dp]
  refine dpS_congr _ _ (fun k hk => ?_)
  obtain ⟨a, b, _⟩ := tf_kids h k hk
  rw [dif_pos (by omega)]
theorem dp_le {p : List PM} : ∀ i f, tf p i = some f → dp p i ≤ i := by
  intro i
  induction i using Nat.strongRecOn with
  | _ i ih =>
  intro f h
  rw [dp_eq h]
  have hk := tf_kids h
  generalize (at_ p i).f2 = ks at hk
  have : ∀ (ks : List Int) (d : Nat), d ≤ i → (∀ k ∈ ks, 0 ≤ k ∧ k < (i : Int) ∧ ∃ q, tf p k.toNat = some q ∧ f ≤ q) → dpS (dp p) d ks ≤ i := by
    intro ks
    induction ks with
    | nil => intro d hd _; exact hd
    | cons k ks ihk =>
      intro d hd hk
      obtain ⟨a, b, q, hq, _⟩ := hk k (by simp)
      have := ih k.toNat (by omega) q hq
      exact ihk (max d (dp p k.toNat + 1)) (by omega) (fun k' hk' => hk k' (by simp [hk']))
  exact this ks 0 (Nat.zero_le _) hk
theorem chF_cover {g : Nat → Option Nat} (hg : ∀ j f, g j = some f → f ≤ j) (hc : ∀ j f, g j = some f → ∀ q, f ≤ q → q ≤ j → (g q).isSome = true) : ∀ {ks : List Int} {e f : Nat}, chF g e ks = some f → ∀ q, f ≤ q → q < e → (g q).isSome = true
  | [], e, f, h => by
    have : e = f := Option.some.inj h
    intro q h1 h2
    omega
  | k :: ks, e, f, h => by
    unfold chF at h
    by_cases c : 0 < e ∧ k = (e : Int) - 1
    · rw [if_pos c] at h
      obtain ⟨f1, h1, h2⟩ := Option.bind_eq_some_iff.1 h
      intro q hq1 hq2
      by_cases hq : f1 ≤ q
      · exact hc _ _ h1 q hq (by omega)
      · exact chF_cover hg hc h2 q hq1 (by omega)
    · rw [if_neg c] at h; cases h
theorem tf_cover {p : List PM} : ∀ i f, tf p i = some f → ∀ q, f ≤ q → q ≤ i → (tf p q).isSome = true := by
  intro i
  induction i using Nat.strongRecOn with
  | _ i ih =>
  intro f h q h1 h2
  by_cases e : q = i
  · subst e; rw [h]; rfl
  · have h' := h
    rw [tf] at h'
    have h3 := chF_cover (g := fun j => if _h : j < i then tf p j else none) (fun j f hj => by
        by_cases c : j < i
        · simp only [dif_pos c] at hj; exact tf_le j f hj
        · simp only [dif_neg c] at hj; cases hj) (fun j f hj r hr1 hr2 => by
        by_cases c : j < i
        · simp only [dif_pos c] at hj
          simp only [dif_pos (show r < i by omega)]
          exact ih j c f hj r hr1 hr2
        · simp only [dif_neg c] at hj; cases hj) h' q h1 (by omega)
    simpa only [dif_pos (show q < i by omega)] using h3
def fitsN (n : PM) : Bool :=
  if n.f0 = 1 then nameB n.f1.data.toList && n.f2.isEmpty else if n.f0 = 4 then n.f1.data.toList.isEmpty && n.f2.isEmpty else if n.f0 = 2 then n.f1.data.toList.isEmpty else if n.f0 = 3 then n.f1.data.toList.isEmpty && decide (2 ≤ n.f2.length) else false
def okN (n : PM) : Bool := fitsN n && decide (0 ≤ n.f3 ∧ n.f3 ≤ 3)
def posN (n : PM) : Bool := n.f0 == 1 || n.f0 == 4
def okV (p : List PM) : Bool :=
  decide (1 ≤ p.length ∧ p.length ≤ 40) && ((List.range p.length).all fun i => okN (at_ p i) && (tf p i).isSome) && (tf p (p.length - 1) == some 0) && !posN (at_ p (p.length - 1)) && decide (dp p (p.length - 1) ≤ 9)
def smallM (p : List PM) : Prop := ∀ x ∈ p, x.f1.data.toList.length ≤ 1048576 ∧ x.f2.length ≤ 1048576
theorem len0 (l : List Int) : ((l.length : Int) == 0) = l.isEmpty := by
  cases l with
  | nil => rfl
  | cons x l => simp; omega
theorem emp_iff (s : ByteArray) : (s.toList = ([] : List UInt8)) ↔ s.data.toList.isEmpty = true := by
  rw [List.isEmpty_iff, Lib.toList_data]
theorem impl_fits (n : PM) (hn : n.f1.data.toList.length ≤ 1048576) : Ev (fun k => impl_PNode_fits.f k n.f0 n.f1 n.f2 n.f3) (fitsN n) := by
  unfold impl_PNode_fits.f fitsN
  by_cases h1 : n.f0 = 1
  · simp only [if_pos h1]
    refine Ev.bind (impl_name n.f1 (by omega)) ?_
    refine Ev.congr (f := fun _ => some _) (fun k => ?_) (Ev.now _)
    cases nameB n.f1.data.toList with
    | true => simp only [if_true, Bool.true_and, len0]
    | false => simp
  · simp only [if_neg h1]
    by_cases h4 : n.f0 = 4
    · refine Ev.congr (f := fun _ => some _) (fun k => ?_) (Ev.now _)
      have h2 : ¬ n.f0 = 2 := by omega
      rw [if_pos h4, if_pos h4, if_neg h2]
      by_cases he : n.f1.data.toList.isEmpty = true
      · rw [if_pos ((emp_iff _).2 he), he, Bool.true_and, len0]
      · rw [if_neg (fun h => he ((emp_iff _).1 h)), Bool.eq_false_iff.mpr he, Bool.false_and]
    · refine Ev.congr (f := fun _ => some _) (fun k => ?_) (Ev.now _)
      rw [if_neg h4, if_neg h4]
      by_cases h2 : n.f0 = 2
      · rw [if_pos h2, if_pos h2]
        by_cases he : n.f1.data.toList.isEmpty = true
        · rw [if_pos ((emp_iff _).2 he), he]
        · rw [if_neg (fun h => he ((emp_iff _).1 h)), Bool.eq_false_iff.mpr he]
      · rw [if_neg h2, if_neg h2]
        by_cases h3 : n.f0 = 3
        · rw [if_pos h3, if_pos h3]
          by_cases he : n.f1.data.toList.isEmpty = true
          · rw [if_pos ((emp_iff _).2 he), he, Bool.true_and]
            congr 1
            exact decide_eq_decide.2 (by omega)
          · rw [if_neg (fun h => he ((emp_iff _).1 h)), Bool.eq_false_iff.mpr he, Bool.false_and]
        · rw [if_neg h3, if_neg h3]
theorem rd_set {l : List Int} {i : Nat} (h : i < l.length) (v : Int) : rd (l.set i v) (i : Int) = v := by
  unfold rd
  simp [h]
theorem rd_set_ne {l : List Int} {i j : Nat} (h : i ≠ j) (v : Int) : rd (l.set i v) (j : Int) = rd l (j : Int) := by
  unfold rd
  simp [List.getElem?_set_ne h]
structure Arr (p : List PM) (i : Nat) (x3 x4 : List Int) : Prop where
  l3 : x3.length = p.length
  l4 : x4.length = p.length
  lo : ∀ j, j < i → ∃ f : Nat, tf p j = some f ∧ rd x3 (j : Int) = f ∧ rd x4 (j : Int) = dp p j
  hi : ∀ j, i < j → rd x4 (j : Int) = 0
theorem Arr.set_ {p : List PM} {i : Nat} {x3 x4 : List Int} (h : Arr p i x3 x4) (u v : Int) : Arr p i (x3.set i u) (x4.set i v) :=
  ⟨by rw [List.length_set, h.l3], by rw [List.length_set, h.l4], fun j hj => by
    rw [rd_set_ne (by omega), rd_set_ne (by omega)]
    exact h.lo j hj, fun j hj => by rw [rd_set_ne (by omega)]; exact h.hi j hj⟩
theorem impl_kids {p : List PM} {i : Nat} (hi : i < p.length) (hp : p.length ≤ 40) (hs : smallM p) (R : Bool) : ∀ (m : Nat) (x3 x4 : List Int) (e d : Nat), m ≤ (at_ p i).f2.length → Arr p i x3 x4 → rd x3 (i : Int) = e → rd x4 (i : Int) = d → e ≤ i → d ≤ i →
    (∀ (f : Nat) x3' x4', chF (tf p) e ((at_ p i).f2.take m).reverse = some f → Arr p i x3' x4' → rd x3' (i : Int) = f → rd x4' (i : Int) = dpS (dp p) d ((at_ p i).f2.take m).reverse → Ev (fun k => impl_ParticleOk.l0 k p x3' x4' p (p.length : Int) (wrap64 ((i : Int) + 1))) R) →
    (chF (tf p) e ((at_ p i).f2.take m).reverse = none → R = false) →
    Ev (fun k => impl_ParticleOk.l1 k p x3 x4 (i : Int) ((m : Int) - 1) p (p.length : Int) (i : Int) (at_ p i).f0 (at_ p i).f1 (at_ p i).f2 (at_ p i).f3) R := by
  intro m
  induction m with
  | zero =>
    intro x3 x4 e d hm hA he hd hei hdi hok hno
    refine Ev.step (fun k => ?_) (hok e x3 x4 rfl hA he hd)
    conv => lhs; unfold impl_ParticleOk.l1
    rw [if_neg (by omega)]
  | succ m ih =>
    intro x3 x4 e d hm hA he hd hei hdi hok hno
    have hlt : m < (at_ p i).f2.length := by omega
    have hkl : (at_ p i).f2.length ≤ 1048576 := by
      have := (hs p[i] (List.getElem_mem hi)).2
      rwa [← at_lt hi] at this
    have ht : ((at_ p i).f2.take (m + 1)).reverse = (at_ p i).f2[m] :: ((at_ p i).f2.take m).reverse := by
      rw [List.take_succ_eq_append_getElem hlt, List.reverse_append]; rfl
    rw [ht] at hok hno
    have hrd := rdZ (at_ p i).f2 m hlt
    have e7 : ((m + 1 : Nat) : Int) - 1 = (m : Int) := by omega
    rw [e7]
    have hch : ∀ ks, chF (tf p) e ((at_ p i).f2[m] :: ks) = if 0 < e ∧ (at_ p i).f2[m] = (e : Int) - 1 then (tf p (e - 1)).bind fun f => chF (tf p) f ks else none := fun _ => rfl
    by_cases c0 : (at_ p i).f2[m] < 0
    · have hR : R = false := hno (by rw [hch, if_neg (by omega)])
      subst hR
      refine Ev.step (f := fun _ => some false) (fun k => ?_) (Ev.now _)
      conv => lhs; unfold impl_ParticleOk.l1
      rw [if_pos (by omega), if_pos (by omega), if_pos (by omega), hrd, if_pos c0]
    · by_cases c1 : (at_ p i).f2[m] = (e : Int) - 1
      · obtain ⟨f, hf, hf3, hf4⟩ := hA.lo (e - 1) (by omega)
        have hce : 0 < e ∧ (at_ p i).f2[m] = (e : Int) - 1 := ⟨by omega, c1⟩
        rw [hch, if_pos hce, hf] at hok hno
        simp only [Option.bind_some] at hok hno
        have ekd : (at_ p i).f2[m] = ((e - 1 : Nat) : Int) := by omega
        have hdl := dp_le _ _ hf
        have hfl := tf_le _ _ hf
        have hA' := hA.set_ (f : Int) ((max d (dp p (e - 1) + 1) : Nat) : Int)
        have key := ih (x3.set i (f : Int)) (x4.set i ((max d (dp p (e - 1) + 1) : Nat) : Int)) f (max d (dp p (e - 1) + 1)) (by omega) hA' (rd_set (by rw [hA.l3]; exact hi) _) (rd_set (by rw [hA.l4]; exact hi) _) (by omega) (by omega)
          (fun f' x3' x4' h1 h2 h3 h4 => hok f' x3' x4' h1 h2 h3 (by
            rw [h4]
            show _ = ((dpS (dp p) (max d (dp p (at_ p i).f2[m].toNat + 1)) ((at_ p i).f2.take m).reverse : Nat) : Int)
            rw [show (at_ p i).f2[m].toNat = e - 1 by omega])) hno
        refine Ev.step (fun k => ?_) key
        conv => lhs; unfold impl_ParticleOk.l1
        have hw : wrap64 ((e : Int) - 1) = (e : Int) - 1 := w64 (by omega) (by omega)
        rw [if_pos (by omega), if_pos (by omega), if_pos (by omega), hrd, if_neg c0, if_pos (by omega), if_pos (by rw [hA.l3]; omega), he, hw, if_pos c1, if_pos (by omega), if_pos (by rw [hA.l3]; omega), if_pos (by rw [hA.l4]; omega), if_pos (by rw [hA.l4]; omega)]
        rw [ekd, hf3, hf4, hd, w64 (n := (dp p (e - 1) : Int) + 1) (by omega) (by omega), w64 (n := (m : Int) - 1) (by omega) (by omega), Int.toNat_natCast]
        have emx : mx (d : Int) ((dp p (e - 1) : Int) + 1) = ((max d (dp p (e - 1) + 1) : Nat) : Int) := by
          unfold mx
          split <;> omega
        rw [emx]
      · have hR : R = false := hno (by rw [hch, if_neg (fun h => c1 h.2)])
        subst hR
        refine Ev.step (f := fun _ => some false) (fun k => ?_) (Ev.now _)
        conv => lhs; unfold impl_ParticleOk.l1
        have hw : wrap64 ((e : Int) - 1) = (e : Int) - 1 := w64 (by omega) (by omega)
        rw [if_pos (by omega), if_pos (by omega), if_pos (by omega), hrd, if_neg c0, if_pos (by omega), if_pos (by rw [hA.l3]; omega), he, hw, if_neg c1]
def finV (p : List PM) : Bool := (tf p (p.length - 1) == some 0) && !posN (at_ p (p.length - 1)) && decide (dp p (p.length - 1) ≤ 9)
theorem pos_ok (n : PM) : impl_PNode_isPosition.f n.f0 n.f1 n.f2 n.f3 = some (posN n) := by
  unfold impl_PNode_isPosition.f posN
  by_cases h : n.f0 = 1
  · rw [if_pos h, h]; rfl
  · rw [if_neg h, beq_eq_false_iff_ne.2 h]; rfl
theorem in_ok (x : Int) : impl_in.f x 0 3 = some (decide (0 ≤ x ∧ x ≤ 3)) := by
  unfold impl_in.f
  by_cases h : 0 ≤ x
  · rw [if_pos h]; congr 1; exact decide_eq_decide.2 (by omega)
  · rw [if_neg h, decide_eq_false (by omega)]
theorem impl_nodes {p : List PM} (h1 : 1 ≤ p.length) (hp : p.length ≤ 40) (hs : smallM p) : ∀ (m i : Nat) (x3 x4 : List Int), i + m = p.length → Arr p i x3 x4 → (i < p.length → rd x4 (i : Int) = 0) →
    Ev (fun k => impl_ParticleOk.l0 k p x3 x4 p (p.length : Int) (i : Int)) (((List.range' i m).all fun j => okN (at_ p j) && (tf p j).isSome) && finV p) := by
  intro m
  induction m with
  | zero =>
    intro i x3 x4 hi hA hz
    obtain ⟨f, hf, hf3, hf4⟩ := hA.lo (p.length - 1) (by omega)
    refine Ev.step (f := fun _ => some _) (fun k => ?_) (Ev.now _)
    conv => lhs; unfold impl_ParticleOk.l0
    have hw : wrap64 ((p.length : Int) - 1) = ((p.length - 1 : Nat) : Int) := by rw [w64] <;> omega
    rw [if_neg (by omega), hw, if_pos (by omega), if_pos (by rw [hA.l3]; omega), hf3]
    rw [List.range'_zero, List.all_nil, Bool.true_and]
    unfold finV
    rw [hf]
    by_cases c : (f : Int) = 0
    · obtain rfl : f = 0 := by omega
      rw [if_pos c, if_pos (by omega)]
      have e : rd_T49 p ((p.length - 1 : Nat) : Int) = at_ p (p.length - 1) := rfl
      rw [e, pos_ok]
      simp only [Option.bind_some]
      cases posN (at_ p (p.length - 1)) with
      | true => simp
      | false =>
        rw [if_neg (by decide), if_pos (by rw [hA.l4]; omega), hf4]
        simp only [beq_self_eq_true, Bool.not_false, Bool.true_and]
        congr 1
        exact decide_eq_decide.2 (by omega)
    · rw [if_neg c]
      have : (some f == some 0) = false := beq_eq_false_iff_ne.2 (fun h => c (by injection h with h; omega))
      rw [this]
      rfl
  | succ m ih =>
    intro i x3 x4 hi hA hz
    have hil : i < p.length := by omega
    have e : rd_T49 p (i : Int) = at_ p i := rfl
    have hsm := hs p[i] (List.getElem_mem hil)
    rw [← at_lt hil] at hsm
    rw [List.range'_succ, List.all_cons]
    refine Ev.step (f := fun k => (impl_PNode_fits.f k (at_ p i).f0 (at_ p i).f1 (at_ p i).f2 (at_ p i).f3).bind fun t => if t = true then (impl_ParticleOk.j1 k p x3 x4 (i : Int) p (p.length : Int) (i : Int) (!decide (0 ≤ (at_ p i).f3 ∧ (at_ p i).f3 ≤ 3)) (at_ p i).f0 (at_ p i).f1 (at_ p i).f2 (at_ p i).f3) else (impl_ParticleOk.j1 k p x3 x4 (i : Int) p (p.length : Int) (i : Int) true (at_ p i).f0 (at_ p i).f1 (at_ p i).f2 (at_ p i).f3)) (fun k => ?_) ?_
    · conv => lhs; unfold impl_ParticleOk.l0
      rw [if_pos (by omega), if_pos (by omega), if_pos (by omega), e, in_ok]
      rfl
    · refine Ev.bind (impl_fits _ hsm.1) ?_
      have hno : Ev (fun k => impl_ParticleOk.j1 k p x3 x4 (i : Int) p (p.length : Int) (i : Int) true (at_ p i).f0 (at_ p i).f1 (at_ p i).f2 (at_ p i).f3) false := by
        refine Ev.step (f := fun _ => some false) (fun k => ?_) (Ev.now _)
        conv => lhs; unfold impl_ParticleOk.j1
        rw [if_pos rfl]
      rw [show okN (at_ p i) = (fitsN (at_ p i) && decide (0 ≤ (at_ p i).f3 ∧ (at_ p i).f3 ≤ 3)) from rfl, Bool.and_assoc]
      cases fitsN (at_ p i) with
      | false => simpa using hno
      | true =>
        simp only [if_true, Bool.true_and]
        cases decide (0 ≤ (at_ p i).f3 ∧ (at_ p i).f3 ≤ 3) with
        | false => simpa using hno
        | true =>
          simp only [Bool.not_true, Bool.true_and]
          have hA2 := hA.set_ (i : Int) (rd x4 (i : Int))
          have hset : x4.set i (rd x4 (i : Int)) = x4 := by
            unfold rd
            rw [Int.toNat_natCast, List.getD_eq_getElem?_getD, List.getElem?_eq_getElem (by rw [hA.l4]; exact hil)]
            exact List.set_getElem_self _
          rw [hset] at hA2
          have key := impl_kids hil hp hs ((tf p i).isSome && ((List.range' (i + 1) m).all fun j => okN (at_ p j) && (tf p j).isSome) && finV p) (at_ p i).f2.length (x3.set i (i : Int)) x4 i 0 (Nat.le_refl _) hA2 (rd_set (by rw [hA.l3]; exact hil) _) (by rw [hz hil]; rfl) (Nat.le_refl _) (Nat.zero_le _)
            (fun f x3' x4' h1 h2 h3 h4 => by
              rw [List.take_length, ← tf_eq] at h1
              rw [List.take_length] at h4
              rw [h1, Option.isSome_some, Bool.true_and]
              have := ih (i + 1) x3' x4' (by omega) ⟨h2.l3, h2.l4, fun j hj => by
                by_cases c : j < i
                · exact h2.lo j c
                · obtain rfl : j = i := by omega
                  exact ⟨f, h1, h3, by rw [h4, dpS_rev, dp_eq h1]⟩, fun j hj => h2.hi j (by omega)⟩ (fun _ => h2.hi (i + 1) (by omega))
              rw [show wrap64 ((i : Int) + 1) = ((i + 1 : Nat) : Int) by rw [w64] <;> omega]
              exact this)
            (fun hn => by rw [List.take_length, ← tf_eq] at hn; rw [hn]; rfl)
          refine Ev.step (fun k => ?_) (Bool.and_assoc _ _ _ ▸ key)
          conv => lhs; unfold impl_ParticleOk.j1
          rw [if_neg (by decide), if_pos (by omega), if_pos (by rw [hA.l3]; omega), Int.toNat_natCast, w64 (n := ((at_ p i).f2.length : Int) - 1) (by omega) (by omega)]
theorem impl_ok (p : List PM) (hs : smallM p) : Ev (fun k => impl_ParticleOk.f k p) (okV p) := by
  unfold impl_ParticleOk.f okV
  by_cases c : 1 ≤ p.length ∧ p.length ≤ 40
  · have hin : impl_in.f (p.length : Int) 1 40 = some true := by
      unfold impl_in.f
      rw [if_pos (by omega), decide_eq_true (by omega)]
    rw [hin, decide_eq_true c, Bool.true_and]
    simp only [Option.bind_some, if_true]
    refine Ev.congr (f := fun k => impl_ParticleOk.l0 k p (List.replicate p.length 0) (List.replicate p.length 0) p (p.length : Int) 0) (fun k => ?_) ?_
    · rw [if_pos (by omega), if_pos (by omega), Int.toNat_natCast]
    · have hrep : ∀ j : Nat, rd (List.replicate p.length (0 : Int)) (j : Int) = 0 := by
        intro j
        unfold rd
        rw [Int.toNat_natCast, List.getD_eq_getElem?_getD, List.getElem?_replicate]
        split <;> rfl
      have := impl_nodes c.1 c.2 hs p.length 0 (List.replicate p.length 0) (List.replicate p.length 0) (by omega) ⟨by simp, by simp, fun j hj => by omega, fun j _ => hrep j⟩ (fun _ => hrep 0)
      rw [← List.range_eq_range'] at this
      unfold finV at this
      rw [← Bool.and_assoc, ← Bool.and_assoc] at this
      exact this
  · have hin : impl_in.f (p.length : Int) 1 40 = some false := by
      unfold impl_in.f
      by_cases h : (1 : Int) ≤ p.length
      · rw [if_pos h, decide_eq_false (by omega)]
      · rw [if_neg h]
    rw [hin, decide_eq_false c]
    simp only [Option.bind_some, Bool.false_and]
    exact Ev.congr (f := fun _ => some false) (fun _ => by simp) (Ev.now _)
def tv : Option Nat → Int
  | none => -1
  | some f => f
theorem spec_tree {p : List PM} (hp : p.length ≤ 40) (hs : smallM p) : ∀ j, j < p.length → Ev (fun k => spec_l8Tree.f k p (j : Int)) (tv (tf p j)) := by
  intro j
  induction j using Nat.strongRecOn with
  | _ j ih =>
  intro hj
  have e : rd_T49 p (j : Int) = at_ p j := rfl
  have hkl : (at_ p j).f2.length ≤ 1048576 := by
    have := (hs p[j] (List.getElem_mem hj)).2
    rwa [← at_lt hj] at this
  have loop : ∀ (m e : Nat), m ≤ (at_ p j).f2.length → e ≤ j → Ev (fun k => spec_l8Tree.l0 k p (j : Int) ((e : Int) - 1) ((m : Int) - 1)) (tv (chF (tf p) e ((at_ p j).f2.take m).reverse)) := by
    intro m
    induction m with
    | zero =>
      intro e hm he
      refine Ev.step (f := fun _ => some (e : Int)) (fun k => ?_) (Ev.now _)
      conv => lhs; unfold spec_l8Tree.l0
      rw [if_neg (by omega), w64 (by omega) (by omega)]
      congr 1
      omega
    | succ m ihm =>
      intro e' hm he
      have hlt : m < (at_ p j).f2.length := by omega
      have ht : ((at_ p j).f2.take (m + 1)).reverse = (at_ p j).f2[m] :: ((at_ p j).f2.take m).reverse := by
        rw [List.take_succ_eq_append_getElem hlt, List.reverse_append]; rfl
      rw [ht]
      have hrd := rdZ (at_ p j).f2 m hlt
      have e7 : ((m + 1 : Nat) : Int) - 1 = (m : Int) := by omega
      rw [e7]
      have hch : ∀ ks, chF (tf p) e' ((at_ p j).f2[m] :: ks) = if 0 < e' ∧ (at_ p j).f2[m] = (e' : Int) - 1 then (tf p (e' - 1)).bind fun f => chF (tf p) f ks else none := fun _ => rfl
      rw [hch]
      have hno : Ev (fun k => spec_l8Tree.j1 k p (j : Int) ((e' : Int) - 1) (m : Int) true) (-1) := by
        refine Ev.step (f := fun _ => some (-1)) (fun k => ?_) (Ev.now _)
        conv => lhs; unfold spec_l8Tree.j1
        rw [if_pos rfl]
      by_cases c0 : 0 < e'
      · by_cases c1 : (at_ p j).f2[m] = (e' : Int) - 1
        · rw [if_pos ⟨c0, c1⟩]
          have hE := ih (e' - 1) (by omega) (by omega)
          have hee : ((e' - 1 : Nat) : Int) = (e' : Int) - 1 := by omega
          rw [hee] at hE
          refine Ev.step (f := fun k => spec_l8Tree.j1 k p (j : Int) ((e' : Int) - 1) (m : Int) false) (fun k => ?_) ?_
          · conv => lhs; unfold spec_l8Tree.l0
            rw [if_pos (by omega), if_neg (by omega), if_pos (by omega), if_pos (by omega), if_pos (by omega), e, if_pos (by omega), hrd, c1]
            simp
          · refine Ev.step (f := fun k => (spec_l8Tree.f k p ((e' : Int) - 1)).bind fun t => (if t < 0 then (some (-1)) else (spec_l8Tree.l0 k p (j : Int) (wrap64 (t - 1)) (wrap64 ((m : Int) - 1))))) (fun k => ?_) ?_
            · conv => lhs; unfold spec_l8Tree.j1
              rw [if_neg (by decide)]
            · refine Ev.bind hE ?_
              cases hf : tf p (e' - 1) with
              | none =>
                refine Ev.congr (f := fun _ => some (-1)) (fun k => ?_) (Ev.now _)
                rw [if_pos (by decide : tv none < 0)]
              | some f =>
                have hfl := tf_le _ _ hf
                refine Ev.congr (f := fun k => spec_l8Tree.l0 k p (j : Int) ((f : Int) - 1) ((m : Int) - 1)) (fun k => ?_) (ihm f (by omega) (by omega))
                have htv : tv (some f) = (f : Int) := rfl
                rw [htv, if_neg (by omega)]
                rw [w64 (by omega) (by omega), w64 (by omega) (by omega)]
        · rw [if_neg (fun h => c1 h.2)]
          refine Ev.step (f := fun k => spec_l8Tree.j1 k p (j : Int) ((e' : Int) - 1) (m : Int) true) (fun k => ?_) hno
          conv => lhs; unfold spec_l8Tree.l0
          rw [if_pos (by omega), if_neg (by omega), if_pos (by omega), if_pos (by omega), if_pos (by omega), e, if_pos (by omega), hrd]
          rw [bne_iff_ne.2 c1]
      · rw [if_neg (fun h => c0 h.1)]
        refine Ev.step (f := fun k => spec_l8Tree.j1 k p (j : Int) ((e' : Int) - 1) (m : Int) true) (fun k => ?_) hno
        conv => lhs; unfold spec_l8Tree.l0
        rw [if_pos (by omega), if_pos (by omega)]
  have := loop (at_ p j).f2.length j (Nat.le_refl _) (Nat.le_refl _)
  rw [List.take_length, ← tf_eq] at this
  refine Ev.step (fun k => ?_) this
  conv => lhs; unfold spec_l8Tree.f
  rw [if_pos (by omega), if_pos (by omega), e, w64 (by omega) (by omega), w64 (by omega) (by omega)]
theorem spec_deep {p : List PM} (hp : p.length ≤ 40) (hs : smallM p) : ∀ j, j < p.length → ∀ f, tf p j = some f → Ev (fun k => spec_l8Deep.f k p (j : Int)) ((dp p j + 1 : Nat) : Int) := by
  intro j
  induction j using Nat.strongRecOn with
  | _ j ih =>
  intro hj f hf
  have e : rd_T49 p (j : Int) = at_ p j := rfl
  have hkl : (at_ p j).f2.length ≤ 1048576 := by
    have := (hs p[j] (List.getElem_mem hj)).2
    rwa [← at_lt hj] at this
  have hkids := tf_kids hf
  have loop : ∀ (m i d : Nat), i + m = (at_ p j).f2.length → d ≤ 40 → Ev (fun k => spec_l8Deep.l0 k p (j : Int) (d : Int) (i : Int)) ((dpS (dp p) d ((at_ p j).f2.drop i) + 1 : Nat) : Int) := by
    intro m
    induction m with
    | zero =>
      intro i d hi hd
      refine Ev.step (f := fun _ => some ((d + 1 : Nat) : Int)) (fun k => ?_) ?_
      · conv => lhs; unfold spec_l8Deep.l0
        rw [if_pos (by omega), if_pos (by omega), e, if_neg (by omega), w64 (by omega) (by omega)]
        rfl
      · rw [List.drop_of_length_le (by omega)]
        exact Ev.now _
    | succ m ihm =>
      intro i d hi hd
      have hlt : i < (at_ p j).f2.length := by omega
      obtain ⟨a, b, q, hq, _⟩ := hkids _ (List.getElem_mem hlt)
      have hE := ih (at_ p j).f2[i].toNat (by omega) (by omega) q hq
      have hdl := dp_le _ _ hq
      rw [show (((at_ p j).f2[i].toNat : Nat) : Int) = (at_ p j).f2[i] by omega] at hE
      have hrd := rdZ (at_ p j).f2 i hlt
      rw [List.drop_eq_getElem_cons hlt]
      refine Ev.step (f := fun k => (spec_l8Deep.f k p (at_ p j).f2[i]).bind fun t => spec_l8Deep.l0 k p (j : Int) (mx (d : Int) t) (wrap64 ((i : Int) + 1))) (fun k => ?_) (Ev.bind hE ?_)
      · conv => lhs; unfold spec_l8Deep.l0
        rw [if_pos (by omega), if_pos (by omega), e, if_pos (by omega), if_pos (by omega), hrd]
      · have emx : mx (d : Int) ((dp p (at_ p j).f2[i].toNat + 1 : Nat) : Int) = ((max d (dp p (at_ p j).f2[i].toNat + 1) : Nat) : Int) := by
          unfold mx
          split <;> omega
        rw [emx, w1n hlt (by omega)]
        exact ihm (i + 1) _ (by omega) (by omega)
  have := loop (at_ p j).f2.length 0 0 (by omega) (by omega)
  rw [List.drop_zero, ← dp_eq hf] at this
  refine Ev.step (fun k => ?_) this
  conv => lhs; unfold spec_l8Deep.f
  rfl
def kidsIn (p : List PM) (i : Nat) : Bool := (at_ p i).f2.all fun k => decide (0 ≤ k ∧ k < (i : Int))
theorem lin_ok (x a b : Int) : spec_l1In.f x a b = some (decide (a ≤ x ∧ x ≤ b)) := by
  unfold spec_l1In.f
  by_cases h : x ≥ a
  · rw [if_pos h]; congr 1; exact decide_eq_decide.2 (by omega)
  · rw [if_neg h, decide_eq_false (by omega)]
theorem spec_nodes {p : List PM} (h1 : 1 ≤ p.length) (hp : p.length ≤ 40) (hs : smallM p) : ∀ (m i : Nat), i + m = p.length →
    Ev (fun k => spec_ParticleOk.l0 k p (i : Int)) (((List.range' i m).all fun j => okN (at_ p j) && kidsIn p j) && finV p) := by
  intro m
  induction m with
  | zero =>
    intro i hi
    have hw : wrap64 ((p.length : Int) - 1) = ((p.length - 1 : Nat) : Int) := by rw [w64] <;> omega
    have ht := spec_tree hp hs (p.length - 1) (by omega)
    have e : rd_T49 p ((p.length - 1 : Nat) : Int) = at_ p (p.length - 1) := rfl
    rw [List.range'_zero, List.all_nil, Bool.true_and]
    unfold finV
    refine Ev.step (f := fun k => (spec_l8Tree.f k p ((p.length - 1 : Nat) : Int)).bind fun t117 => (if t117 = 0 then (if (at_ p (p.length - 1)).f0 = 1 then some false else if (at_ p (p.length - 1)).f0 = 4 then some false else (spec_l8Deep.f k p ((p.length - 1 : Nat) : Int)).bind fun t120 => some (decide (t120 ≤ 10))) else some false)) (fun k => ?_) (Ev.bind ht ?_)
    · conv => lhs; unfold spec_ParticleOk.l0
      rw [if_neg (by omega), hw, if_pos (by omega), if_pos (by omega), e]
    · cases hf : tf p (p.length - 1) with
      | none =>
        refine Ev.congr (f := fun _ => some false) (fun k => ?_) (Ev.now _)
        rw [if_neg (by decide : ¬ tv none = 0)]
      | some f =>
        have htv : tv (some f) = (f : Int) := rfl
        rw [htv]
        by_cases c : (f : Int) = 0
        · obtain rfl : f = 0 := by omega
          simp only [if_pos c, beq_self_eq_true, Bool.true_and]
          unfold posN
          by_cases c1 : (at_ p (p.length - 1)).f0 = 1
          · simp only [if_pos c1]
            rw [c1]
            exact Ev.now _
          · by_cases c4 : (at_ p (p.length - 1)).f0 = 4
            · simp only [if_neg c1, if_pos c4]
              rw [c4]
              exact Ev.now _
            · simp only [if_neg c1, if_neg c4]
              rw [beq_eq_false_iff_ne.2 c1, beq_eq_false_iff_ne.2 c4]
              refine Ev.bind (spec_deep hp hs _ (by omega) _ hf) ?_
              have hd : decide ((((dp p (p.length - 1) + 1 : Nat) : Int)) ≤ 10) = (!(false || false) && decide (dp p (p.length - 1) ≤ 9)) := by
                simp only [Bool.or_false, Bool.not_false, Bool.true_and]
                exact decide_eq_decide.2 (by omega)
              rw [hd]
              exact Ev.now _
        · have h0 : (some f == some 0) = false := beq_eq_false_iff_ne.2 (fun h => c (by injection h with h; omega))
          rw [h0]
          simp only [if_neg c, Bool.false_and]
          exact Ev.now _
  | succ m ih =>
    intro i hi
    have hil : i < p.length := by omega
    have e : rd_T49 p (i : Int) = at_ p i := rfl
    have hsm := hs p[i] (List.getElem_mem hil)
    rw [← at_lt hil] at hsm
    rw [List.range'_succ, List.all_cons]
    have kloop : ∀ (q j : Nat), j + q = (at_ p i).f2.length → Ev (fun k => spec_ParticleOk.l1 k p (i : Int) (j : Int) (at_ p i).f0 (at_ p i).f1 (at_ p i).f2 (at_ p i).f3) (((at_ p i).f2.drop j).all (fun k => decide (0 ≤ k ∧ k < (i : Int))) && (((List.range' (i + 1) m).all fun j => okN (at_ p j) && kidsIn p j) && finV p)) := by
      intro q
      induction q with
      | zero =>
        intro j hj
        rw [List.drop_of_length_le (by omega), List.all_nil, Bool.true_and]
        refine Ev.step (fun k => ?_) (ih (i + 1) (by omega))
        conv => lhs; unfold spec_ParticleOk.l1
        rw [if_neg (by omega), w1n hil (by omega)]
      | succ q ihq =>
        intro j hj
        have hlt : j < (at_ p i).f2.length := by omega
        have hrd := rdZ (at_ p i).f2 j hlt
        rw [List.drop_eq_getElem_cons hlt, List.all_cons]
        have hl : (decide (0 ≤ (at_ p i).f2[j] ∧ (at_ p i).f2[j] ≤ wrap64 ((i : Int) - 1))) = decide (0 ≤ (at_ p i).f2[j] ∧ (at_ p i).f2[j] < (i : Int)) := by
          rw [w64 (by omega) (by omega)]
          exact decide_eq_decide.2 (by omega)
        by_cases c : 0 ≤ (at_ p i).f2[j] ∧ (at_ p i).f2[j] < (i : Int)
        · rw [decide_eq_true c, Bool.true_and]
          refine Ev.step (fun k => ?_) (ihq (j + 1) (by omega))
          conv => lhs; unfold spec_ParticleOk.l1
          rw [if_pos (by omega), if_pos (by omega), hrd, lin_ok, hl, decide_eq_true c]
          simp only [Option.bind_some, if_true]
          rw [w1n hlt (by omega)]
        · rw [decide_eq_false c, Bool.false_and, Bool.false_and]
          refine Ev.step (f := fun _ => some false) (fun k => ?_) (Ev.now _)
          conv => lhs; unfold spec_ParticleOk.l1
          rw [if_pos (by omega), if_pos (by omega), hrd, lin_ok, hl, decide_eq_false c]
          rfl
    have hgo : Ev (fun k => spec_ParticleOk.j2 k p (i : Int) (at_ p i).f0 (at_ p i).f1 (at_ p i).f2 (at_ p i).f3) (kidsIn p i && (((List.range' (i + 1) m).all fun j => okN (at_ p j) && kidsIn p j) && finV p)) := by
      refine Ev.step (fun k => ?_) (kloop _ 0 (Nat.zero_add _))
      conv => lhs; unfold spec_ParticleOk.j2
      rfl
    have hq : (((okN (at_ p i) && kidsIn p i) && ((List.range' (i + 1) m).all fun j => okN (at_ p j) && kidsIn p j)) && finV p) = (okN (at_ p i) && (kidsIn p i && (((List.range' (i + 1) m).all fun j => okN (at_ p j) && kidsIn p j) && finV p))) := by
      simp only [Bool.and_assoc]
    rw [hq]
    generalize (kidsIn p i && (((List.range' (i + 1) m).all fun j => okN (at_ p j) && kidsIn p j) && finV p)) = R at hgo
    clear kloop hq ih
    have hz : decide ((((at_ p i).f2.length : Nat) : Int) > 0) = !(at_ p i).f2.isEmpty := by
      cases (at_ p i).f2 with
      | nil => rfl
      | cons x l => simp
    unfold okN fitsN
    by_cases c3 : 0 ≤ (at_ p i).f3 ∧ (at_ p i).f3 ≤ 3
    · rw [decide_eq_true c3, Bool.and_true]
      by_cases k1 : (at_ p i).f0 = 1
      · rw [if_pos k1]
        refine Ev.step (f := fun k => (spec_NameOk.f k (at_ p i).f1).bind fun t124 => (if t124 = true then (if (((at_ p i).f2).length : Int) > 0 then (some false) else (spec_ParticleOk.j2 k p (i : Int) (at_ p i).f0 (at_ p i).f1 (at_ p i).f2 (at_ p i).f3)) else (some false))) (fun k => ?_) (Ev.bind (spec_name _) ?_)
        · conv => lhs; unfold spec_ParticleOk.l0
          rw [if_pos (by omega), if_pos (by omega), e, lin_ok, decide_eq_true c3]
          simp only [Option.bind_some, if_true, if_pos k1]
        · cases nameB (at_ p i).f1.data.toList with
          | false => exact Ev.now _
          | true =>
            simp only [if_true, Bool.true_and]
            cases hE : (at_ p i).f2.isEmpty with
            | true =>
              rw [Bool.true_and]
              refine Ev.congr (fun k => ?_) hgo
              rw [if_neg (by rw [hE] at hz; simpa using hz)]
            | false =>
              refine Ev.congr (f := fun _ => some false) (fun k => ?_) (Ev.now _)
              rw [if_pos (by rw [hE] at hz; simpa using hz)]
      · rw [if_neg k1]
        by_cases k4 : (at_ p i).f0 = 4
        · rw [if_pos k4]
          cases hT : (at_ p i).f1.data.toList.isEmpty with
          | false =>
            refine Ev.step (f := fun _ => some false) (fun k => ?_) (Ev.now _)
            conv => lhs; unfold spec_ParticleOk.l0
            rw [if_pos (by omega), if_pos (by omega), e, lin_ok, decide_eq_true c3]
            simp only [Option.bind_some, if_true, if_neg k1, if_pos k4]
            rw [if_neg (fun h => by rw [(emp_iff _).1 h] at hT; cases hT)]
          | true =>
            rw [Bool.true_and]
            cases hE : (at_ p i).f2.isEmpty with
            | true =>
              rw [Bool.true_and]
              refine Ev.step (fun k => ?_) hgo
              conv => lhs; unfold spec_ParticleOk.l0
              rw [if_pos (by omega), if_pos (by omega), e, lin_ok, decide_eq_true c3]
              simp only [Option.bind_some, if_true, if_neg k1, if_pos k4]
              rw [if_pos ((emp_iff _).2 hT), if_neg (by rw [hE] at hz; simpa using hz)]
            | false =>
              refine Ev.step (f := fun _ => some false) (fun k => ?_) (Ev.now _)
              conv => lhs; unfold spec_ParticleOk.l0
              rw [if_pos (by omega), if_pos (by omega), e, lin_ok, decide_eq_true c3]
              simp only [Option.bind_some, if_true, if_neg k1, if_pos k4]
              rw [if_pos ((emp_iff _).2 hT), if_pos (by rw [hE] at hz; simpa using hz)]
        · rw [if_neg k4]
          by_cases k2 : (at_ p i).f0 = 2
          · rw [if_pos k2]
            cases hT : (at_ p i).f1.data.toList.isEmpty with
            | false =>
              refine Ev.step (f := fun _ => some false) (fun k => ?_) (Ev.now _)
              conv => lhs; unfold spec_ParticleOk.l0
              rw [if_pos (by omega), if_pos (by omega), e, lin_ok, decide_eq_true c3]
              simp only [Option.bind_some, if_true, if_neg k1, if_neg k4, if_pos k2]
              rw [if_neg (fun h => by rw [(emp_iff _).1 h] at hT; cases hT)]
            | true =>
              rw [Bool.true_and]
              refine Ev.step (fun k => ?_) hgo
              conv => lhs; unfold spec_ParticleOk.l0
              rw [if_pos (by omega), if_pos (by omega), e, lin_ok, decide_eq_true c3]
              simp only [Option.bind_some, if_true, if_neg k1, if_neg k4, if_pos k2]
              rw [if_pos ((emp_iff _).2 hT)]
          · rw [if_neg k2]
            by_cases k3 : (at_ p i).f0 = 3
            · rw [if_pos k3]
              cases hT : (at_ p i).f1.data.toList.isEmpty with
              | false =>
                refine Ev.step (f := fun _ => some false) (fun k => ?_) (Ev.now _)
                conv => lhs; unfold spec_ParticleOk.l0
                rw [if_pos (by omega), if_pos (by omega), e, lin_ok, decide_eq_true c3]
                simp only [Option.bind_some, if_true, if_neg k1, if_neg k4, if_neg k2, if_pos k3]
                rw [if_neg (fun h => by rw [(emp_iff _).1 h] at hT; cases hT)]
              | true =>
                rw [Bool.true_and]
                by_cases c2 : 2 ≤ (at_ p i).f2.length
                · rw [decide_eq_true c2, Bool.true_and]
                  refine Ev.step (fun k => ?_) hgo
                  conv => lhs; unfold spec_ParticleOk.l0
                  rw [if_pos (by omega), if_pos (by omega), e, lin_ok, decide_eq_true c3]
                  simp only [Option.bind_some, if_true, if_neg k1, if_neg k4, if_neg k2, if_pos k3]
                  rw [if_pos ((emp_iff _).2 hT), if_neg (by omega)]
                · rw [decide_eq_false c2, Bool.false_and]
                  refine Ev.step (f := fun _ => some false) (fun k => ?_) (Ev.now _)
                  conv => lhs; unfold spec_ParticleOk.l0
                  rw [if_pos (by omega), if_pos (by omega), e, lin_ok, decide_eq_true c3]
                  simp only [Option.bind_some, if_true, if_neg k1, if_neg k4, if_neg k2, if_pos k3]
                  rw [if_pos ((emp_iff _).2 hT), if_pos (by omega)]
            · rw [if_neg k3, Bool.false_and]
              refine Ev.step (f := fun _ => some false) (fun k => ?_) (Ev.now _)
              conv => lhs; unfold spec_ParticleOk.l0
              rw [if_pos (by omega), if_pos (by omega), e, lin_ok, decide_eq_true c3]
              simp only [Option.bind_some, if_true, if_neg k1, if_neg k4, if_neg k2, if_neg k3]
    · rw [decide_eq_false c3, Bool.and_false, Bool.false_and]
      refine Ev.step (f := fun _ => some false) (fun k => ?_) (Ev.now _)
      conv => lhs; unfold spec_ParticleOk.l0
      rw [if_pos (by omega), if_pos (by omega), e, lin_ok, decide_eq_false c3]
      rfl
theorem all_both (p : List PM) (h : tf p (p.length - 1) = some 0) : ((List.range p.length).all fun j => okN (at_ p j) && kidsIn p j) = ((List.range p.length).all fun j => okN (at_ p j) && (tf p j).isSome) := by
  apply Bool.eq_iff_iff.2
  rw [List.all_eq_true, List.all_eq_true]
  have hsome : ∀ j ∈ List.range p.length, (tf p j).isSome = true ∧ kidsIn p j = true := by
    intro j hj
    have hj := List.mem_range.1 hj
    have h1 := tf_cover _ _ h j (Nat.zero_le _) (by omega)
    refine ⟨h1, ?_⟩
    obtain ⟨f, hf⟩ := Option.isSome_iff_exists.1 h1
    unfold kidsIn
    rw [List.all_eq_true]
    intro k hk
    have := tf_kids hf k hk
    exact decide_eq_true ⟨this.1, this.2.1⟩
  constructor
  · intro h j hj
    have := h j hj
    rw [(hsome j hj).2] at this
    rw [(hsome j hj).1]
    exact this
  · intro h j hj
    have := h j hj
    rw [(hsome j hj).1] at this
    rw [(hsome j hj).2]
    exact this
theorem spec_ok (p : List PM) (hs : smallM p) : Ev (fun k => spec_ParticleOk.f k p) (okV p) := by
  unfold spec_ParticleOk.f okV
  have hno : Ev (fun k => spec_ParticleOk.j0 k p true) false := by
    refine Ev.step (f := fun _ => some false) (fun k => ?_) (Ev.now _)
    show (if true = true then some false else spec_ParticleOk.l0 k p 0) = some false
    rw [if_pos rfl]
  by_cases c : 1 ≤ p.length ∧ p.length ≤ 40
  · rw [decide_eq_true c, Bool.true_and]
    have hn := spec_nodes c.1 c.2 hs p.length 0 (Nat.zero_add _)
    rw [← List.range_eq_range'] at hn
    have hR : (((List.range p.length).all fun j => okN (at_ p j) && kidsIn p j) && finV p) = (((List.range p.length).all fun i => okN (at_ p i) && (tf p i).isSome) && (tf p (p.length - 1) == some 0) && !posN (at_ p (p.length - 1)) && decide (dp p (p.length - 1) ≤ 9)) := by
      unfold finV
      by_cases ht : tf p (p.length - 1) = some 0
      · rw [all_both p ht]
        simp only [Bool.and_assoc]
      · rw [beq_eq_false_iff_ne.2 ht]
        simp
    rw [hR] at hn
    refine Ev.congr (f := fun k => spec_ParticleOk.j0 k p false) (fun k => ?_) (Ev.step (fun k => ?_) hn)
    · rw [if_neg (by omega), decide_eq_false (by omega)]
    · show (if false = true then some false else spec_ParticleOk.l0 k p 0) = _
      rw [if_neg (by decide)]
      rfl
  · rw [decide_eq_false c]
    simp only [Bool.false_and]
    refine Ev.congr (f := fun k => spec_ParticleOk.j0 k p true) (fun k => ?_) hno
    by_cases h : (p.length : Int) < 1
    · rw [if_pos h]
    · rw [if_neg h, decide_eq_true (by omega)]
end Go.Proofs.Ytejkkdjfiebmfaa.Pure
