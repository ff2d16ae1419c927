/- Words and contracts for the row RowFnDeepPath: what the Go functions answer that it calls; printed by programs of the kit and of this session, and merged. -/
import Derived.Test.YtpmjpbaeecnpiaaDoorQd8
namespace Go.Proofs.YtpmjpbaeecnpiaaDoor.L
open Go.RowKit Go.Proofs.YtpmjpbaeecnpiaaDoorW.PrintWords Go.Proofs.YtpmjpbaeecnpiaaDoorW.PrintLast Go.Proofs.YtpmjpbaeecnpiaaDoorW.PrintMore
attribute [local go_sem] max2_int min2_int max_two min_two max_three min_three max_four min_four
set_option linter.unusedVariables false
set_option linter.unusedSimpArgs false

/-! ### spec_l1Rd_doc: function 53 -/
def spec_l1Rd_doc.f (k : Nat) (s0_0 : List Int) (s0_1 : Int) : Option ((List (S39)) × Int) := (spec_l1Rd_name.f s0_0 s0_1).bind fun bt496 => ((spec_l1Rd_grow.f k s0_0 bt496.2 (([(⟨(-1), bt496.1, (⟨#[]⟩ : ByteArray), ([] : List (S46))⟩ : S39)] : List (S39))) 0 2).bind fun bt501 => ((spec_l1Rd_once.f s0_0 bt501.2 24).bind fun bt505 => (if bt505.1 = true then ((spec_l1Rd_below.f s0_0 bt505.2 (bt501.1.length : Int)).bind fun bt507 => ((spec_l1Rd_below.f s0_0 bt507.2 3).bind fun bt509 => (if bt509.1 = 0 then ((spec_l1Rd_off.f k s0_0 bt509.2 (-1) bt507.1).bind fun bt511 => (if 0 ≤ bt507.1 then (if bt507.1 < (bt501.1.length : Int) then (some ((bt501.1.set (bt507.1 : Int).toNat (⟨bt511.1, (rd_T39 bt501.1 bt507.1).f1, (rd_T39 bt501.1 bt507.1).f2, (rd_T39 bt501.1 bt507.1).f3⟩ : S39)), bt511.2)) else (none)) else (none))) else (if bt509.1 = 1 then ((spec_l1Rd_text.f s0_0 bt509.2).bind fun bt514 => (if 0 ≤ bt507.1 then (if bt507.1 < (bt501.1.length : Int) then (some ((bt501.1.set (bt507.1 : Int).toNat (⟨(rd_T39 bt501.1 bt507.1).f0, (rd_T39 bt501.1 bt507.1).f1, bt514.1, (rd_T39 bt501.1 bt507.1).f3⟩ : S39)), bt514.2)) else (none)) else (none))) else (if bt509.1 = 2 then ((spec_l1Rd_text.f s0_0 bt509.2).bind fun bt517 => (if 0 ≤ bt507.1 then (if bt507.1 < (bt501.1.length : Int) then (some ((bt501.1.set (bt507.1 : Int).toNat (⟨(rd_T39 bt501.1 bt507.1).f0, bt517.1, (rd_T39 bt501.1 bt507.1).f2, (rd_T39 bt501.1 bt507.1).f3⟩ : S39)), bt517.2)) else (none)) else (none))) else (some (bt501.1, bt509.2))))))) else (some (bt501.1, bt505.2)))))
set_option maxHeartbeats 8000000 in
set_option maxRecDepth 100000 in
theorem spec_l1Rd_doc.calls (k : Nat) (g : Nat) (s0_0 : List Int) (s0_1 : Int) (r1 : List (S39)) (r2 : Int) (w0 w : World) (hI : IsS99 w0 w g s0_0 s0_1) (hB : Below w0.heap.size w0 w) (h : spec_l1Rd_doc.f k s0_0 s0_1 = some (r1, r2)) :
  Calls Tryd.prog 53 #[.pointer (some ⟨g, 0, none⟩)] w fun e w' => ∃ v0_ : Value, e = .returned (v0_) ∧ Kd.S k39 39 w' w.heap.size (fun _ => True) v0_ r1 ∧ IsS99 w0 w' g s0_0 r2 ∧ Below w0.heap.size w0 w' ∧ KeepBut w w' g none := by
 have hu39 := Tryd.underlying39
 have HI0 := Aside0.mk hI
 have HK := Aside0.mk (KeepBut.refl w g none)
 have HL := Aside0.mk hB.size
 clear hI
 have HW0 := Aside0.mk hB.size
 have HB := Aside0.mk hB
 clear hB
 have H : ((spec_l1Rd_name.f s0_0 s0_1).bind fun bt496 => ((spec_l1Rd_grow.f k s0_0 bt496.2 (([(⟨(-1), bt496.1, (⟨#[]⟩ : ByteArray), ([] : List (S46))⟩ : S39)] : List (S39))) 0 2).bind fun bt501 => ((spec_l1Rd_once.f s0_0 bt501.2 24).bind fun bt505 => (if bt505.1 = true then ((spec_l1Rd_below.f s0_0 bt505.2 (bt501.1.length : Int)).bind fun bt507 => ((spec_l1Rd_below.f s0_0 bt507.2 3).bind fun bt509 => (if bt509.1 = 0 then ((spec_l1Rd_off.f k s0_0 bt509.2 (-1) bt507.1).bind fun bt511 => (if 0 ≤ bt507.1 then (if bt507.1 < (bt501.1.length : Int) then (some ((bt501.1.set (bt507.1 : Int).toNat (⟨bt511.1, (rd_T39 bt501.1 bt507.1).f1, (rd_T39 bt501.1 bt507.1).f2, (rd_T39 bt501.1 bt507.1).f3⟩ : S39)), bt511.2)) else (none)) else (none))) else (if bt509.1 = 1 then ((spec_l1Rd_text.f s0_0 bt509.2).bind fun bt514 => (if 0 ≤ bt507.1 then (if bt507.1 < (bt501.1.length : Int) then (some ((bt501.1.set (bt507.1 : Int).toNat (⟨(rd_T39 bt501.1 bt507.1).f0, (rd_T39 bt501.1 bt507.1).f1, bt514.1, (rd_T39 bt501.1 bt507.1).f3⟩ : S39)), bt514.2)) else (none)) else (none))) else (if bt509.1 = 2 then ((spec_l1Rd_text.f s0_0 bt509.2).bind fun bt517 => (if 0 ≤ bt507.1 then (if bt507.1 < (bt501.1.length : Int) then (some ((bt501.1.set (bt507.1 : Int).toNat (⟨(rd_T39 bt501.1 bt507.1).f0, bt517.1, (rd_T39 bt501.1 bt507.1).f2, (rd_T39 bt501.1 bt507.1).f3⟩ : S39)), bt517.2)) else (none)) else (none))) else (some (bt501.1, bt509.2))))))) else (some (bt501.1, bt505.2)))))) = some (r1, r2) := h
 clear h
 replace H := Option.bind_eq_some_iff.mp H
 obtain ⟨⟨t496, t497⟩, A20, H⟩ := H
 replace H : ((spec_l1Rd_grow.f k s0_0 t497 (([(⟨(-1), t496, (⟨#[]⟩ : ByteArray), ([] : List (S46))⟩ : S39)] : List (S39))) 0 2).bind fun bt501 => ((spec_l1Rd_once.f s0_0 bt501.2 24).bind fun bt505 => (if bt505.1 = true then ((spec_l1Rd_below.f s0_0 bt505.2 (bt501.1.length : Int)).bind fun bt507 => ((spec_l1Rd_below.f s0_0 bt507.2 3).bind fun bt509 => (if bt509.1 = 0 then ((spec_l1Rd_off.f k s0_0 bt509.2 (-1) bt507.1).bind fun bt511 => (if 0 ≤ bt507.1 then (if bt507.1 < (bt501.1.length : Int) then (some ((bt501.1.set (bt507.1 : Int).toNat (⟨bt511.1, (rd_T39 bt501.1 bt507.1).f1, (rd_T39 bt501.1 bt507.1).f2, (rd_T39 bt501.1 bt507.1).f3⟩ : S39)), bt511.2)) else (none)) else (none))) else (if bt509.1 = 1 then ((spec_l1Rd_text.f s0_0 bt509.2).bind fun bt514 => (if 0 ≤ bt507.1 then (if bt507.1 < (bt501.1.length : Int) then (some ((bt501.1.set (bt507.1 : Int).toNat (⟨(rd_T39 bt501.1 bt507.1).f0, (rd_T39 bt501.1 bt507.1).f1, bt514.1, (rd_T39 bt501.1 bt507.1).f3⟩ : S39)), bt514.2)) else (none)) else (none))) else (if bt509.1 = 2 then ((spec_l1Rd_text.f s0_0 bt509.2).bind fun bt517 => (if 0 ≤ bt507.1 then (if bt507.1 < (bt501.1.length : Int) then (some ((bt501.1.set (bt507.1 : Int).toNat (⟨(rd_T39 bt501.1 bt507.1).f0, bt517.1, (rd_T39 bt501.1 bt507.1).f2, (rd_T39 bt501.1 bt507.1).f3⟩ : S39)), bt517.2)) else (none)) else (none))) else (some (bt501.1, bt509.2))))))) else (some (bt501.1, bt505.2))))) = some (r1, r2) := H
 have A2 := Aside0.mk A20
 clear A20
 obtain ⟨y498, hy498⟩ : ∃ y_ : List (S39), y_ = (([(⟨(-1), t496, (⟨#[]⟩ : ByteArray), ([] : List (S46))⟩ : S39)] : List (S39))) := ⟨_, rfl⟩
 replace H : ((spec_l1Rd_grow.f k s0_0 t497 y498 0 2).bind fun bt501 => ((spec_l1Rd_once.f s0_0 bt501.2 24).bind fun bt505 => (if bt505.1 = true then ((spec_l1Rd_below.f s0_0 bt505.2 (bt501.1.length : Int)).bind fun bt507 => ((spec_l1Rd_below.f s0_0 bt507.2 3).bind fun bt509 => (if bt509.1 = 0 then ((spec_l1Rd_off.f k s0_0 bt509.2 (-1) bt507.1).bind fun bt511 => (if 0 ≤ bt507.1 then (if bt507.1 < (bt501.1.length : Int) then (some ((bt501.1.set (bt507.1 : Int).toNat (⟨bt511.1, (rd_T39 bt501.1 bt507.1).f1, (rd_T39 bt501.1 bt507.1).f2, (rd_T39 bt501.1 bt507.1).f3⟩ : S39)), bt511.2)) else (none)) else (none))) else (if bt509.1 = 1 then ((spec_l1Rd_text.f s0_0 bt509.2).bind fun bt514 => (if 0 ≤ bt507.1 then (if bt507.1 < (bt501.1.length : Int) then (some ((bt501.1.set (bt507.1 : Int).toNat (⟨(rd_T39 bt501.1 bt507.1).f0, (rd_T39 bt501.1 bt507.1).f1, bt514.1, (rd_T39 bt501.1 bt507.1).f3⟩ : S39)), bt514.2)) else (none)) else (none))) else (if bt509.1 = 2 then ((spec_l1Rd_text.f s0_0 bt509.2).bind fun bt517 => (if 0 ≤ bt507.1 then (if bt507.1 < (bt501.1.length : Int) then (some ((bt501.1.set (bt507.1 : Int).toNat (⟨(rd_T39 bt501.1 bt507.1).f0, bt517.1, (rd_T39 bt501.1 bt507.1).f2, (rd_T39 bt501.1 bt507.1).f3⟩ : S39)), bt517.2)) else (none)) else (none))) else (some (bt501.1, bt509.2))))))) else (some (bt501.1, bt505.2))))) = some (r1, r2) := by first | (rw [hy498]; with_reducible exact H) | (have H2_ := (Option.bind_some _ _).symm.trans H; rw [hy498]; with_reducible exact H2_) | (have H2_ := (Option.bind_some _ _).symm.trans H; with_reducible exact H2_) | with_reducible exact H | (rw [hy498]; exact H) | exact H
 have Ny498 := Aside0.mk hy498
 clear hy498
 replace H := Option.bind_eq_some_iff.mp H
 obtain ⟨⟨t501, t504⟩, A30, H⟩ := H
 replace H : ((spec_l1Rd_once.f s0_0 t504 24).bind fun bt505 => (if bt505.1 = true then ((spec_l1Rd_below.f s0_0 bt505.2 (t501.length : Int)).bind fun bt507 => ((spec_l1Rd_below.f s0_0 bt507.2 3).bind fun bt509 => (if bt509.1 = 0 then ((spec_l1Rd_off.f k s0_0 bt509.2 (-1) bt507.1).bind fun bt511 => (if 0 ≤ bt507.1 then (if bt507.1 < (t501.length : Int) then (some ((t501.set (bt507.1 : Int).toNat (⟨bt511.1, (rd_T39 t501 bt507.1).f1, (rd_T39 t501 bt507.1).f2, (rd_T39 t501 bt507.1).f3⟩ : S39)), bt511.2)) else (none)) else (none))) else (if bt509.1 = 1 then ((spec_l1Rd_text.f s0_0 bt509.2).bind fun bt514 => (if 0 ≤ bt507.1 then (if bt507.1 < (t501.length : Int) then (some ((t501.set (bt507.1 : Int).toNat (⟨(rd_T39 t501 bt507.1).f0, (rd_T39 t501 bt507.1).f1, bt514.1, (rd_T39 t501 bt507.1).f3⟩ : S39)), bt514.2)) else (none)) else (none))) else (if bt509.1 = 2 then ((spec_l1Rd_text.f s0_0 bt509.2).bind fun bt517 => (if 0 ≤ bt507.1 then (if bt507.1 < (t501.length : Int) then (some ((t501.set (bt507.1 : Int).toNat (⟨(rd_T39 t501 bt507.1).f0, bt517.1, (rd_T39 t501 bt507.1).f2, (rd_T39 t501 bt507.1).f3⟩ : S39)), bt517.2)) else (none)) else (none))) else (some (t501, bt509.2))))))) else (some (t501, bt505.2)))) = some (r1, r2) := H
 have A3 := Aside0.mk A30
 clear A30
 replace H := Option.bind_eq_some_iff.mp H
 obtain ⟨⟨t505, t506⟩, A40, H⟩ := H
 replace H : (if t505 = true then ((spec_l1Rd_below.f s0_0 t506 (t501.length : Int)).bind fun bt507 => ((spec_l1Rd_below.f s0_0 bt507.2 3).bind fun bt509 => (if bt509.1 = 0 then ((spec_l1Rd_off.f k s0_0 bt509.2 (-1) bt507.1).bind fun bt511 => (if 0 ≤ bt507.1 then (if bt507.1 < (t501.length : Int) then (some ((t501.set (bt507.1 : Int).toNat (⟨bt511.1, (rd_T39 t501 bt507.1).f1, (rd_T39 t501 bt507.1).f2, (rd_T39 t501 bt507.1).f3⟩ : S39)), bt511.2)) else (none)) else (none))) else (if bt509.1 = 1 then ((spec_l1Rd_text.f s0_0 bt509.2).bind fun bt514 => (if 0 ≤ bt507.1 then (if bt507.1 < (t501.length : Int) then (some ((t501.set (bt507.1 : Int).toNat (⟨(rd_T39 t501 bt507.1).f0, (rd_T39 t501 bt507.1).f1, bt514.1, (rd_T39 t501 bt507.1).f3⟩ : S39)), bt514.2)) else (none)) else (none))) else (if bt509.1 = 2 then ((spec_l1Rd_text.f s0_0 bt509.2).bind fun bt517 => (if 0 ≤ bt507.1 then (if bt507.1 < (t501.length : Int) then (some ((t501.set (bt507.1 : Int).toNat (⟨(rd_T39 t501 bt507.1).f0, bt517.1, (rd_T39 t501 bt507.1).f2, (rd_T39 t501 bt507.1).f3⟩ : S39)), bt517.2)) else (none)) else (none))) else (some (t501, bt509.2))))))) else (some (t501, t506))) = some (r1, r2) := H
 have A4 := Aside0.mk A40
 clear A40
 by_cases c5 : t505 = true
 rotate_left
 ·replace c5 := Bool.eq_false_iff.mpr c5
  subst c5
  have H1 : (some (t501, t506)) = some (r1, r2) := by rw [if_neg (show ¬ (false = true) by decide)] at H; exact H
  clear H
  have H := H1
  clear H1
  simp only [Option.some.injEq, Prod.mk.injEq] at H
  obtain ⟨rfl, rfl⟩ := H
  go_enter Tryd.func53, Tryd.ntmps53
  go_wp2_with (first | ((with_reducible refine gate_callee (f := 87) rfl ?_); refine goesL_ (some 7) rfl rfl Tryd.func87 dq30 rfl #[.pointer (some ⟨g, 0, none⟩)] rfl dq29 ?_; (with_reducible refine (spec_l1Rd_name.calls g s0_0 s0_1 t496 t497 w0 _ ?side1 ?side2 A2.out).mono ?_); (case side1 => exact dq7); (case side2 => exact dq8); rintro e w68 ⟨rfl, hi, hb, hk⟩; refine ⟨_, rfl, ?_⟩; have n0_ := Aside0.mk (KeepBut.trans dq97 hk (.inl rfl)); have n1_ := Aside0.mk (hb); have n2_ := Aside0.mk (hi); clear HK; clear HB; clear HI0; have HK := n0_; have HB := n1_; have HI0 := n2_; clear n0_ n1_ n2_; (try clear hb); (try clear hb2); (try clear hk); (try clear hi)) | ((with_reducible refine gate_dst (N := 9) rfl ?_); refine Kd.S_lit k39 _ 39 ?hg (N := 9) ?hd (xs := ([(⟨(-1), t496, (⟨#[]⟩ : ByteArray), ([] : List (S46))⟩ : S39)] : List (S39))) (inner := [.int .i64 (-1), .string t496, .string (⟨#[]⟩ : ByteArray), .slice none 0 0]) (ok := fun _ => True) (okp := fun _ => True) ?hr ?hp (fun _ hk => hk) trivial (Below.refl _ _) (Nat.le_refl _) dq28 ?_; (case hd => rfl); (case hg => rfl); (case hr => exact dq0); (case hp => exact (Reps.c4 (show Kd.M k39 _ _ _ (⟨(-1), t496, (⟨#[]⟩ : ByteArray), ([] : List (S46))⟩ : S39) [.int .i64 (-1), .string t496, .string (⟨#[]⟩ : ByteArray), .slice none 0 0] from (k39_mkM _ _ _ (⟨(-1), t496, (⟨#[]⟩ : ByteArray), ([] : List (S46))⟩ : S39) (Kd.R_nil _ _ _ _ _))) (Reps.none _ _))); intro v499 w69 ho70 hb hg_ hnew_; clear hg_ hnew_; (first | rw [← Ny498.out] at ho70 | (simp only [Int.reduceToNat] at ho70; rw [← Ny498.out] at ho70)); have n0_ := Aside0.mk (Kd.S_lower ho70 (keep_size (w := w) (g := g) (row := none) dq97)); have n1_ := Aside0.mk (IsS99.below dq99 hb); have n2_ := Aside0.mk (KeepBut.trans dq97 (KeepBut.of_below hb g none) (.inl rfl)); have n3_ := Aside0.mk (below_step dq98 hb); clear HI0; clear HK; clear HB; have HO500 := n0_; have HI0 := n1_; have HK := n2_; have HB := n3_; clear n0_ n1_ n2_ n3_; clear hb ho70; obtain ⟨Ao71, co71, eo71⟩ := Kd.S_slice HO500.out; subst eo71) | ((with_reducible refine gate_callee (f := 86) rfl ?_); refine goesL_ (some 10) rfl rfl Tryd.func86 dq30 rfl #[.pointer (some ⟨g, 0, none⟩), .slice Ao71 y498.length co71, .int .i64 0, .int .i64 2] rfl dq29 ?_; (with_reducible refine (spec_l1Rd_grow.calls k g s0_0 t497 (.slice Ao71 y498.length co71) (fun _ => True) y498 0 2 t501 t504 w0 w _ ?side1 ?side2 HL.out ?side4 ?side5 A3.out).mono ?_); (case side1 => exact dq7); (case side2 => exact dq8); (case side4 => exact dq15); (case side5 => exact dq16); rintro e w72 ⟨v502, rfl, ho0, hi, hb, hk⟩; refine ⟨_, rfl, ?_⟩; have n0_ := Aside0.mk ho0; have n1_ := Aside0.mk ho0; have n2_ := Aside0.mk hk; have n3_ := Aside0.mk (hb); have n4_ := Aside0.mk (hi); clear HO500; clear HK; clear HB; clear HI0; have HO500 := n0_; have HO503 := n1_; have HK := n2_; have HB := n3_; have HI0 := n4_; clear n0_ n1_ n2_ n3_ n4_; (try clear hb); (try clear hb2); (try clear hk); (try clear hi); (try clear ho0)) | ((with_reducible refine gate_callee (f := 52) rfl ?_); refine goesL_ (some 12) rfl rfl Tryd.func52 dq30 rfl #[.pointer (some ⟨g, 0, none⟩), .int .i64 24] rfl dq29 ?_; (with_reducible refine (spec_l1Rd_once.calls g s0_0 t504 24 false t506 w0 _ ?side1 ?side2 A4.out).mono ?_); (case side1 => exact dq7); (case side2 => exact dq8); rintro e w73 ⟨rfl, hi, hb, hk⟩; refine ⟨_, rfl, ?_⟩; have n0_ := Aside0.mk (Kd.S_mono (Kd.S_keep (IsS99.apartS (show IsS99 w0 _ g s0_0 t504 from by repeat (first | (with_reducible first | exact HI0.out | apply IsS99.alloc | apply IsS99.drewN | apply IsS99.drew | apply IsS99.set_1) | exact HI0.out)) dq133 dq37) hk (fun _ h => h.2)) (fun _ h => h.1)); have n1_ := Aside0.mk (Kd.S_mono (Kd.S_keep (IsS99.apartS (show IsS99 w0 _ g s0_0 t504 from by repeat (first | (with_reducible first | exact HI0.out | apply IsS99.alloc | apply IsS99.drewN | apply IsS99.drew | apply IsS99.set_1) | exact HI0.out)) dq132 dq37) hk (fun _ h => h.2)) (fun _ h => h.1)); have n2_ := Aside0.mk (KeepBut.trans dq97 hk (.inl rfl)); have n3_ := Aside0.mk (hb); have n4_ := Aside0.mk (hi); clear HO500; clear HO503; clear HK; clear HB; clear HI0; have HO500 := n0_; have HO503 := n1_; have HK := n2_; have HB := n3_; have HI0 := n4_; clear n0_ n1_ n2_ n3_ n4_; (try clear hb); (try clear hb2); (try clear hk); (try clear hi)))
  go_ret
  exact ⟨_, dq35, dq134, dq99, dq98, dq97⟩
 subst c5
 have H1 : ((spec_l1Rd_below.f s0_0 t506 (t501.length : Int)).bind fun bt507 => ((spec_l1Rd_below.f s0_0 bt507.2 3).bind fun bt509 => (if bt509.1 = 0 then ((spec_l1Rd_off.f k s0_0 bt509.2 (-1) bt507.1).bind fun bt511 => (if 0 ≤ bt507.1 then (if bt507.1 < (t501.length : Int) then (some ((t501.set (bt507.1 : Int).toNat (⟨bt511.1, (rd_T39 t501 bt507.1).f1, (rd_T39 t501 bt507.1).f2, (rd_T39 t501 bt507.1).f3⟩ : S39)), bt511.2)) else (none)) else (none))) else (if bt509.1 = 1 then ((spec_l1Rd_text.f s0_0 bt509.2).bind fun bt514 => (if 0 ≤ bt507.1 then (if bt507.1 < (t501.length : Int) then (some ((t501.set (bt507.1 : Int).toNat (⟨(rd_T39 t501 bt507.1).f0, (rd_T39 t501 bt507.1).f1, bt514.1, (rd_T39 t501 bt507.1).f3⟩ : S39)), bt514.2)) else (none)) else (none))) else (if bt509.1 = 2 then ((spec_l1Rd_text.f s0_0 bt509.2).bind fun bt517 => (if 0 ≤ bt507.1 then (if bt507.1 < (t501.length : Int) then (some ((t501.set (bt507.1 : Int).toNat (⟨(rd_T39 t501 bt507.1).f0, bt517.1, (rd_T39 t501 bt507.1).f2, (rd_T39 t501 bt507.1).f3⟩ : S39)), bt517.2)) else (none)) else (none))) else (some (t501, bt509.2))))))) = some (r1, r2) := by rw [if_pos rfl] at H; exact H
 clear H
 have H := H1
 clear H1
 replace H := Option.bind_eq_some_iff.mp H
 obtain ⟨⟨t507, t508⟩, A60, H⟩ := H
 replace H : ((spec_l1Rd_below.f s0_0 t508 3).bind fun bt509 => (if bt509.1 = 0 then ((spec_l1Rd_off.f k s0_0 bt509.2 (-1) t507).bind fun bt511 => (if 0 ≤ t507 then (if t507 < (t501.length : Int) then (some ((t501.set (t507 : Int).toNat (⟨bt511.1, (rd_T39 t501 t507).f1, (rd_T39 t501 t507).f2, (rd_T39 t501 t507).f3⟩ : S39)), bt511.2)) else (none)) else (none))) else (if bt509.1 = 1 then ((spec_l1Rd_text.f s0_0 bt509.2).bind fun bt514 => (if 0 ≤ t507 then (if t507 < (t501.length : Int) then (some ((t501.set (t507 : Int).toNat (⟨(rd_T39 t501 t507).f0, (rd_T39 t501 t507).f1, bt514.1, (rd_T39 t501 t507).f3⟩ : S39)), bt514.2)) else (none)) else (none))) else (if bt509.1 = 2 then ((spec_l1Rd_text.f s0_0 bt509.2).bind fun bt517 => (if 0 ≤ t507 then (if t507 < (t501.length : Int) then (some ((t501.set (t507 : Int).toNat (⟨(rd_T39 t501 t507).f0, bt517.1, (rd_T39 t501 t507).f2, (rd_T39 t501 t507).f3⟩ : S39)), bt517.2)) else (none)) else (none))) else (some (t501, bt509.2)))))) = some (r1, r2) := H
 have A6 := Aside0.mk A60
 clear A60
 replace H := Option.bind_eq_some_iff.mp H
 obtain ⟨⟨t509, t510⟩, A70, H⟩ := H
 replace H : (if t509 = 0 then ((spec_l1Rd_off.f k s0_0 t510 (-1) t507).bind fun bt511 => (if 0 ≤ t507 then (if t507 < (t501.length : Int) then (some ((t501.set (t507 : Int).toNat (⟨bt511.1, (rd_T39 t501 t507).f1, (rd_T39 t501 t507).f2, (rd_T39 t501 t507).f3⟩ : S39)), bt511.2)) else (none)) else (none))) else (if t509 = 1 then ((spec_l1Rd_text.f s0_0 t510).bind fun bt514 => (if 0 ≤ t507 then (if t507 < (t501.length : Int) then (some ((t501.set (t507 : Int).toNat (⟨(rd_T39 t501 t507).f0, (rd_T39 t501 t507).f1, bt514.1, (rd_T39 t501 t507).f3⟩ : S39)), bt514.2)) else (none)) else (none))) else (if t509 = 2 then ((spec_l1Rd_text.f s0_0 t510).bind fun bt517 => (if 0 ≤ t507 then (if t507 < (t501.length : Int) then (some ((t501.set (t507 : Int).toNat (⟨(rd_T39 t501 t507).f0, bt517.1, (rd_T39 t501 t507).f2, (rd_T39 t501 t507).f3⟩ : S39)), bt517.2)) else (none)) else (none))) else (some (t501, t510))))) = some (r1, r2) := H
 have A7 := Aside0.mk A70
 clear A70
 by_cases c8 : t509 = 0
 ·rw [if_pos c8] at H
  have c8b0 := beq_iff_eq.mpr c8
  have c8b1 := bne_eq_false_iff_eq.mpr c8
  clear c8
  replace H := Option.bind_eq_some_iff.mp H
  obtain ⟨⟨t511, t512⟩, A90, H⟩ := H
  replace H : (if 0 ≤ t507 then (if t507 < (t501.length : Int) then (some ((t501.set (t507 : Int).toNat (⟨t511, (rd_T39 t501 t507).f1, (rd_T39 t501 t507).f2, (rd_T39 t501 t507).f3⟩ : S39)), t512)) else (none)) else (none)) = some (r1, r2) := H
  have A9 := Aside0.mk A90
  clear A90
  by_cases c10 : 0 ≤ t507
  rotate_left
  ·rw [if_neg c10] at H
   exact absurd H dq28
  rw [if_pos c10] at H
  have c10b0 := decide_eq_true c10
  clear c10
  by_cases c11 : t507 < (t501.length : Int)
  rotate_left
  ·rw [if_neg c11] at H
   exact absurd H dq28
  rw [if_pos c11] at H
  have c11b0 := decide_eq_true c11
  clear c11
  obtain ⟨y513, hy513⟩ : ∃ y_ : List (S39), y_ = (t501.set (t507 : Int).toNat (⟨t511, (rd_T39 t501 t507).f1, (rd_T39 t501 t507).f2, (rd_T39 t501 t507).f3⟩ : S39)) := ⟨_, rfl⟩
  replace H : (some (y513, t512)) = some (r1, r2) := by first | (rw [hy513]; with_reducible exact H) | (have H2_ := (Option.bind_some _ _).symm.trans H; rw [hy513]; with_reducible exact H2_) | (have H2_ := (Option.bind_some _ _).symm.trans H; with_reducible exact H2_) | with_reducible exact H | (rw [hy513]; exact H) | exact H
  have Ny513 := Aside0.mk hy513
  clear hy513
  simp only [Option.some.injEq, Prod.mk.injEq] at H
  obtain ⟨rfl, rfl⟩ := H
  go_enter Tryd.func53, Tryd.ntmps53
  go_wp2_with (first | ((with_reducible refine gate_callee (f := 87) rfl ?_); refine goesL_ (some 7) rfl rfl Tryd.func87 dq30 rfl #[.pointer (some ⟨g, 0, none⟩)] rfl dq29 ?_; (with_reducible refine (spec_l1Rd_name.calls g s0_0 s0_1 t496 t497 w0 _ ?side1 ?side2 A2.out).mono ?_); (case side1 => exact dq7); (case side2 => exact dq8); rintro e w13 ⟨rfl, hi, hb, hk⟩; refine ⟨_, rfl, ?_⟩; have n0_ := Aside0.mk (KeepBut.trans dq97 hk (.inl rfl)); have n1_ := Aside0.mk (hb); have n2_ := Aside0.mk (hi); clear HK; clear HB; clear HI0; have HK := n0_; have HB := n1_; have HI0 := n2_; clear n0_ n1_ n2_; (try clear hb); (try clear hb2); (try clear hk); (try clear hi)) | ((with_reducible refine gate_dst (N := 9) rfl ?_); refine Kd.S_lit k39 _ 39 ?hg (N := 9) ?hd (xs := ([(⟨(-1), t496, (⟨#[]⟩ : ByteArray), ([] : List (S46))⟩ : S39)] : List (S39))) (inner := [.int .i64 (-1), .string t496, .string (⟨#[]⟩ : ByteArray), .slice none 0 0]) (ok := fun _ => True) (okp := fun _ => True) ?hr ?hp (fun _ hk => hk) trivial (Below.refl _ _) (Nat.le_refl _) dq28 ?_; (case hd => rfl); (case hg => rfl); (case hr => exact dq0); (case hp => exact (Reps.c4 (show Kd.M k39 _ _ _ (⟨(-1), t496, (⟨#[]⟩ : ByteArray), ([] : List (S46))⟩ : S39) [.int .i64 (-1), .string t496, .string (⟨#[]⟩ : ByteArray), .slice none 0 0] from (k39_mkM _ _ _ (⟨(-1), t496, (⟨#[]⟩ : ByteArray), ([] : List (S46))⟩ : S39) (Kd.R_nil _ _ _ _ _))) (Reps.none _ _))); intro v499 w14 ho15 hb hg_ hnew_; clear hg_ hnew_; (first | rw [← Ny498.out] at ho15 | (simp only [Int.reduceToNat] at ho15; rw [← Ny498.out] at ho15)); have n0_ := Aside0.mk (Kd.S_lower ho15 (keep_size (w := w) (g := g) (row := none) dq97)); have n1_ := Aside0.mk (IsS99.below dq99 hb); have n2_ := Aside0.mk (KeepBut.trans dq97 (KeepBut.of_below hb g none) (.inl rfl)); have n3_ := Aside0.mk (below_step dq98 hb); clear HI0; clear HK; clear HB; have HO500 := n0_; have HI0 := n1_; have HK := n2_; have HB := n3_; clear n0_ n1_ n2_ n3_; clear hb ho15; obtain ⟨Ao16, co16, eo16⟩ := Kd.S_slice HO500.out; subst eo16) | ((with_reducible refine gate_callee (f := 86) rfl ?_); refine goesL_ (some 10) rfl rfl Tryd.func86 dq30 rfl #[.pointer (some ⟨g, 0, none⟩), .slice Ao16 y498.length co16, .int .i64 0, .int .i64 2] rfl dq29 ?_; (with_reducible refine (spec_l1Rd_grow.calls k g s0_0 t497 (.slice Ao16 y498.length co16) (fun _ => True) y498 0 2 t501 t504 w0 w _ ?side1 ?side2 HL.out ?side4 ?side5 A3.out).mono ?_); (case side1 => exact dq7); (case side2 => exact dq8); (case side4 => exact dq15); (case side5 => exact dq16); rintro e w17 ⟨v502, rfl, ho0, hi, hb, hk⟩; refine ⟨_, rfl, ?_⟩; have n0_ := Aside0.mk ho0; have n1_ := Aside0.mk ho0; have n2_ := Aside0.mk hk; have n3_ := Aside0.mk (hb); have n4_ := Aside0.mk (hi); clear HO500; clear HK; clear HB; clear HI0; have HO500 := n0_; have HO503 := n1_; have HK := n2_; have HB := n3_; have HI0 := n4_; clear n0_ n1_ n2_ n3_ n4_; (try clear hb); (try clear hb2); (try clear hk); (try clear hi); (try clear ho0)) | ((with_reducible refine gate_callee (f := 52) rfl ?_); refine goesL_ (some 12) rfl rfl Tryd.func52 dq30 rfl #[.pointer (some ⟨g, 0, none⟩), .int .i64 24] rfl dq29 ?_; (with_reducible refine (spec_l1Rd_once.calls g s0_0 t504 24 true t506 w0 _ ?side1 ?side2 A4.out).mono ?_); (case side1 => exact dq7); (case side2 => exact dq8); rintro e w18 ⟨rfl, hi, hb, hk⟩; refine ⟨_, rfl, ?_⟩; have n0_ := Aside0.mk (Kd.S_mono (Kd.S_keep (IsS99.apartS (show IsS99 w0 _ g s0_0 t504 from by repeat (first | (with_reducible first | exact HI0.out | apply IsS99.alloc | apply IsS99.drewN | apply IsS99.drew | apply IsS99.set_1) | exact HI0.out)) dq133 dq37) hk (fun _ h => h.2)) (fun _ h => h.1)); have n1_ := Aside0.mk (Kd.S_mono (Kd.S_keep (IsS99.apartS (show IsS99 w0 _ g s0_0 t504 from by repeat (first | (with_reducible first | exact HI0.out | apply IsS99.alloc | apply IsS99.drewN | apply IsS99.drew | apply IsS99.set_1) | exact HI0.out)) dq132 dq37) hk (fun _ h => h.2)) (fun _ h => h.1)); have n2_ := Aside0.mk (KeepBut.trans dq97 hk (.inl rfl)); have n3_ := Aside0.mk (hb); have n4_ := Aside0.mk (hi); clear HO500; clear HO503; clear HK; clear HB; clear HI0; have HO500 := n0_; have HO503 := n1_; have HK := n2_; have HB := n3_; have HI0 := n4_; clear n0_ n1_ n2_ n3_ n4_; (try clear hb); (try clear hb2); (try clear hk); (try clear hi); obtain ⟨Ao19, co19, eo19⟩ := Kd.S_slice HO503.out; subst eo19) | ((with_reducible refine gate_callee (f := 63) rfl ?_); refine goesL_ (some 16) rfl rfl Tryd.func63 dq30 rfl #[.pointer (some ⟨g, 0, none⟩), .int .i64 (t501.length : Int)] rfl dq29 ?_; (with_reducible refine (spec_l1Rd_below.calls g s0_0 t506 (t501.length : Int) t507 t508 w0 _ ?side1 ?side2 A6.out).mono ?_); (case side1 => exact dq7); (case side2 => exact dq8); rintro e w20 ⟨rfl, hi, hb, hk⟩; refine ⟨_, rfl, ?_⟩; have n0_ := Aside0.mk (Kd.S_mono (Kd.S_keep (IsS99.apartS (show IsS99 w0 _ g s0_0 t506 from by repeat (first | (with_reducible first | exact HI0.out | apply IsS99.alloc | apply IsS99.drewN | apply IsS99.drew | apply IsS99.set_1) | exact HI0.out)) dq133 dq37) hk (fun _ h => h.2)) (fun _ h => h.1)); have n1_ := Aside0.mk (Kd.S_mono (Kd.S_keep (IsS99.apartS (show IsS99 w0 _ g s0_0 t506 from by repeat (first | (with_reducible first | exact HI0.out | apply IsS99.alloc | apply IsS99.drewN | apply IsS99.drew | apply IsS99.set_1) | exact HI0.out)) dq132 dq37) hk (fun _ h => h.2)) (fun _ h => h.1)); have n2_ := Aside0.mk (KeepBut.trans dq97 hk (.inl rfl)); have n3_ := Aside0.mk (hb); have n4_ := Aside0.mk (hi); clear HO500; clear HO503; clear HK; clear HB; clear HI0; have HO500 := n0_; have HO503 := n1_; have HK := n2_; have HB := n3_; have HI0 := n4_; clear n0_ n1_ n2_ n3_ n4_; (try clear hb); (try clear hb2); (try clear hk); (try clear hi)) | ((with_reducible refine gate_callee (f := 63) rfl ?_); refine goesL_ (some 18) rfl rfl Tryd.func63 dq30 rfl #[.pointer (some ⟨g, 0, none⟩), .int .i64 3] rfl dq29 ?_; (with_reducible refine (spec_l1Rd_below.calls g s0_0 t508 3 t509 t510 w0 _ ?side1 ?side2 A7.out).mono ?_); (case side1 => exact dq7); (case side2 => exact dq8); rintro e w21 ⟨rfl, hi, hb, hk⟩; refine ⟨_, rfl, ?_⟩; have n0_ := Aside0.mk (Kd.S_mono (Kd.S_keep (IsS99.apartS (show IsS99 w0 _ g s0_0 t508 from by repeat (first | (with_reducible first | exact HI0.out | apply IsS99.alloc | apply IsS99.drewN | apply IsS99.drew | apply IsS99.set_1) | exact HI0.out)) dq133 dq37) hk (fun _ h => h.2)) (fun _ h => h.1)); have n1_ := Aside0.mk (Kd.S_mono (Kd.S_keep (IsS99.apartS (show IsS99 w0 _ g s0_0 t508 from by repeat (first | (with_reducible first | exact HI0.out | apply IsS99.alloc | apply IsS99.drewN | apply IsS99.drew | apply IsS99.set_1) | exact HI0.out)) dq132 dq37) hk (fun _ h => h.2)) (fun _ h => h.1)); have n2_ := Aside0.mk (KeepBut.trans dq97 hk (.inl rfl)); have n3_ := Aside0.mk (hb); have n4_ := Aside0.mk (hi); clear HO500; clear HO503; clear HK; clear HB; clear HI0; have HO500 := n0_; have HO503 := n1_; have HK := n2_; have HB := n3_; have HI0 := n4_; clear n0_ n1_ n2_ n3_ n4_; (try clear hb); (try clear hb2); (try clear hk); (try clear hi)) | ((with_reducible refine gate_callee (f := 54) rfl ?_); refine goesL_ (some 25) rfl rfl Tryd.func54 dq30 rfl #[.pointer (some ⟨g, 0, none⟩), .int .i64 (-1), .int .i64 t507] rfl dq29 ?_; (with_reducible refine (spec_l1Rd_off.calls k g s0_0 t510 (-1) t507 t511 t512 w0 _ ?side1 ?side2 A9.out).mono ?_); (case side1 => exact dq7); (case side2 => exact dq8); rintro e w22 ⟨rfl, hi, hb, hk⟩; refine ⟨_, rfl, ?_⟩; have n0_ := Aside0.mk (Kd.S_mono (Kd.S_keep (IsS99.apartS (show IsS99 w0 _ g s0_0 t510 from by repeat (first | (with_reducible first | exact HI0.out | apply IsS99.alloc | apply IsS99.drewN | apply IsS99.drew | apply IsS99.set_1) | exact HI0.out)) dq133 dq37) hk (fun _ h => h.2)) (fun _ h => h.1)); have n1_ := Aside0.mk (Kd.S_mono (Kd.S_keep (IsS99.apartS (show IsS99 w0 _ g s0_0 t510 from by repeat (first | (with_reducible first | exact HI0.out | apply IsS99.alloc | apply IsS99.drewN | apply IsS99.drew | apply IsS99.set_1) | exact HI0.out)) dq132 dq37) hk (fun _ h => h.2)) (fun _ h => h.1)); have n2_ := Aside0.mk (KeepBut.trans dq97 hk (.inl rfl)); have n3_ := Aside0.mk (hb); have n4_ := Aside0.mk (hi); clear HO500; clear HO503; clear HK; clear HB; clear HI0; have HO500 := n0_; have HO503 := n1_; have HK := n2_; have HB := n3_; have HI0 := n4_; clear n0_ n1_ n2_ n3_ n4_; (try clear hb); (try clear hb2); (try clear hk); (try clear hi); have p12 : 0 ≤ (t507 : Int) := of_decide_eq_true dq26; have q12 : (t507 : Int) < ((t501.length : Int) : Int) := of_decide_eq_true dq26; obtain ⟨go12, co12, eo12, gb12, gl12, cl12, HG12⟩ := Kd.S_form HO503.out dq31; (first | cases eo12 | (injection eo12 with ea_ en_ ec_; (first | subst ea_ | (injection ea_ with ea_; subst ea_)); subst ec_; clear en_)); have GB12 := Aside0.mk gb12; have GG12 := Aside0.mk HG12; clear gb12 gl12 HG12; obtain ⟨_, ce12, hcl12, hM12, hcc12, hfr12, _, _⟩ := Kd.S_elem HO503.out z39 (t507 : Int) p12 q12; obtain ⟨ve12_3, rfl, ge12_3⟩ := k39_openM hM12; have hx12_0 : w22.cell? ⟨go12, (t507 : Int).toNat * 4, none⟩ = some (.int .i64 ((rd_T39 t501 t507).f0)) := hcc12 0 _ rfl; have hx12_1 : w22.cell? ⟨go12, (t507 : Int).toNat * 4 + 1, none⟩ = some (.string ((rd_T39 t501 t507).f1)) := hcc12 1 _ rfl; have hx12_2 : w22.cell? ⟨go12, (t507 : Int).toNat * 4 + 2, none⟩ = some (.string ((rd_T39 t501 t507).f2)) := hcc12 2 _ rfl; have hx12_3 : w22.cell? ⟨go12, (t507 : Int).toNat * 4 + 3, none⟩ = some (ve12_3) := hcc12 3 _ rfl; have hf12_0 : w22.frozen? ⟨go12, (t507 : Int).toNat * 4, none⟩ = false := hfr12 0; have hf12_1 : w22.frozen? ⟨go12, (t507 : Int).toNat * 4 + 1, none⟩ = false := hfr12 1; have hf12_2 : w22.frozen? ⟨go12, (t507 : Int).toNat * 4 + 2, none⟩ = false := hfr12 2; have hf12_3 : w22.frozen? ⟨go12, (t507 : Int).toNat * 4 + 3, none⟩ = false := hfr12 3; clear hcl12 hcc12 hfr12 hM12; replace p12 := eq_true p12; replace q12 := eq_true q12; have n_ := Aside0.mk (Kd.S_mono (ok' := (fun _ => True)) HO503.out (fun _ _ => trivial)); clear HO503; have HO503 := n_; clear n_; have HX23 := Aside0.mk (show Kd.S k39 39 w22 w.heap.size (fun k_ => ((fun _ => True)) k_ ∧ ¬ ((fun _ => False)) k_) (.slice (some ⟨go12, 0, none⟩) t501.length co19) t501 from dq131); obtain ⟨oki23, ce23, hcl23, hM23, hcc23, hfr23, hoki23, hH23⟩ := Kd.S_elem HX23.out z39 (t507 : Int) (of_decide_eq_true dq26) (by have h_ : (t507 : Int) < ((t501.length : Int) : Int) := of_decide_eq_true dq26; first | exact h_ | (have e_ := (Kd.S_reads' HO503.out).1; omega) | simpa using h_); obtain ⟨ve23_3, rfl, ge23_3⟩ := k39_openM hM23; have HP23 := Kd.S_seg hH23 (of_decide_eq_true dq26) (by have h_ : (t507 : Int) < ((t501.length : Int) : Int) := of_decide_eq_true dq26; first | exact h_ | (have e_ := (Kd.S_reads' HO503.out).1; omega) | simpa using h_) (seg := [.int .i64 t511]) (j := 0) (show 1 ≤ 4 from by decide) (x' := (⟨t511, (rd_T39 t501 t507).f1, (rd_T39 t501 t507).f2, (rd_T39 t501 t507).f3⟩ : S39)) (k39_mkM _ _ _ (⟨t511, (rd_T39 t501 t507).f1, (rd_T39 t501 t507).f2, (rd_T39 t501 t507).f3⟩ : S39) (Kd.R_mono ge23_3 (fun _ h_ => Or.inl h_))) (fun _ hk => hk) (fun k_ hk_ => hk_.elim); have hx23_0 := hcc23 0 _ rfl; (try simp only [show (k39).sz = 4 from rfl, Nat.mul_one, Nat.add_zero] at hx23_0); have hf23_0 := hfr23 0; (try simp only [show (k39).sz = 4 from rfl, Nat.mul_one, Nat.add_zero] at hf23_0); clear hcl23 hcc23 hfr23 hM23 hoki23 hH23) | ((with_reducible refine gate_store (t := 2) (p := 27) rfl ?_); refine store_event (t := 2) (p := 27) (v := ?vo_w24) (w1 := (w22.setCell ⟨go12, (t507 : Int).toNat * 4, none⟩ (.int .i64 t511))) ?hg ?ho ?hn ?hr ?_; (case ho => rfl); (case hg => rfl); (case hn => rfl); (case hr => exact dq0); intro w24 hw; have hg : w22.grownBy w24 (some go12) := (by rw [hw]; exact HP23.2); have hp_ : Kd.S k39 39 w24 w.heap.size (fun _ => True) (.slice (some ⟨go12, 0, none⟩) t501.length co19) y513 := (by rw [hw, Ny513.out]; exact HP23.1); clear HP23; have n0_ := Aside0.mk (IsS99.grown dq99 hg (IsS99.own_neS HI0.out HO503.out dq37)); have n1_ := Aside0.mk (hp_); have n2_ := Aside0.mk (hp_); have n3_ := Aside0.mk ((by rw [hw]; exact below_set (HB.out) (Nat.le_trans HL.out GB12.out) : Below w0.heap.size w0 w24)); have n4_ := Aside0.mk (KeepBut.trans dq97 (KeepBut.of_grown hg g) (Kd.S_base2 HO503.out)); clear HI0; clear HO500; clear HO503; clear HB; clear HK; have HI0 := n0_; have HO500 := n1_; have HO503 := n2_; have HB := n3_; have HK := n4_; clear n0_ n1_ n2_ n3_ n4_; clear hg hw hp_))
  go_ret
  exact ⟨_, dq35, dq134, dq99, dq98, dq97⟩
 rw [if_neg c8] at H
 have c8b0 := beq_eq_false_iff_ne.mpr c8
 have c8b1 := bne_iff_ne.mpr c8
 by_cases c25 : t509 = 1
 ·rw [if_pos c25] at H
  have c25b0 := beq_iff_eq.mpr c25
  have c25b1 := bne_eq_false_iff_eq.mpr c25
  clear c25
  replace H := Option.bind_eq_some_iff.mp H
  obtain ⟨⟨t514, t515⟩, A260, H⟩ := H
  replace H : (if 0 ≤ t507 then (if t507 < (t501.length : Int) then (some ((t501.set (t507 : Int).toNat (⟨(rd_T39 t501 t507).f0, (rd_T39 t501 t507).f1, t514, (rd_T39 t501 t507).f3⟩ : S39)), t515)) else (none)) else (none)) = some (r1, r2) := H
  have A26 := Aside0.mk A260
  clear A260
  by_cases c27 : 0 ≤ t507
  rotate_left
  ·rw [if_neg c27] at H
   exact absurd H dq28
  rw [if_pos c27] at H
  have c27b0 := decide_eq_true c27
  clear c27
  by_cases c28 : t507 < (t501.length : Int)
  rotate_left
  ·rw [if_neg c28] at H
   exact absurd H dq28
  rw [if_pos c28] at H
  have c28b0 := decide_eq_true c28
  clear c28
  obtain ⟨y516, hy516⟩ : ∃ y_ : List (S39), y_ = (t501.set (t507 : Int).toNat (⟨(rd_T39 t501 t507).f0, (rd_T39 t501 t507).f1, t514, (rd_T39 t501 t507).f3⟩ : S39)) := ⟨_, rfl⟩
  replace H : (some (y516, t515)) = some (r1, r2) := by first | (rw [hy516]; with_reducible exact H) | (have H2_ := (Option.bind_some _ _).symm.trans H; rw [hy516]; with_reducible exact H2_) | (have H2_ := (Option.bind_some _ _).symm.trans H; with_reducible exact H2_) | with_reducible exact H | (rw [hy516]; exact H) | exact H
  have Ny516 := Aside0.mk hy516
  clear hy516
  simp only [Option.some.injEq, Prod.mk.injEq] at H
  obtain ⟨rfl, rfl⟩ := H
  go_enter Tryd.func53, Tryd.ntmps53
  go_wp2_with (first | ((with_reducible refine gate_callee (f := 87) rfl ?_); refine goesL_ (some 7) rfl rfl Tryd.func87 dq30 rfl #[.pointer (some ⟨g, 0, none⟩)] rfl dq29 ?_; (with_reducible refine (spec_l1Rd_name.calls g s0_0 s0_1 t496 t497 w0 _ ?side1 ?side2 A2.out).mono ?_); (case side1 => exact dq7); (case side2 => exact dq8); rintro e w30 ⟨rfl, hi, hb, hk⟩; refine ⟨_, rfl, ?_⟩; have n0_ := Aside0.mk (KeepBut.trans dq97 hk (.inl rfl)); have n1_ := Aside0.mk (hb); have n2_ := Aside0.mk (hi); clear HK; clear HB; clear HI0; have HK := n0_; have HB := n1_; have HI0 := n2_; clear n0_ n1_ n2_; (try clear hb); (try clear hb2); (try clear hk); (try clear hi)) | ((with_reducible refine gate_dst (N := 9) rfl ?_); refine Kd.S_lit k39 _ 39 ?hg (N := 9) ?hd (xs := ([(⟨(-1), t496, (⟨#[]⟩ : ByteArray), ([] : List (S46))⟩ : S39)] : List (S39))) (inner := [.int .i64 (-1), .string t496, .string (⟨#[]⟩ : ByteArray), .slice none 0 0]) (ok := fun _ => True) (okp := fun _ => True) ?hr ?hp (fun _ hk => hk) trivial (Below.refl _ _) (Nat.le_refl _) dq28 ?_; (case hd => rfl); (case hg => rfl); (case hr => exact dq0); (case hp => exact (Reps.c4 (show Kd.M k39 _ _ _ (⟨(-1), t496, (⟨#[]⟩ : ByteArray), ([] : List (S46))⟩ : S39) [.int .i64 (-1), .string t496, .string (⟨#[]⟩ : ByteArray), .slice none 0 0] from (k39_mkM _ _ _ (⟨(-1), t496, (⟨#[]⟩ : ByteArray), ([] : List (S46))⟩ : S39) (Kd.R_nil _ _ _ _ _))) (Reps.none _ _))); intro v499 w31 ho32 hb hg_ hnew_; clear hg_ hnew_; (first | rw [← Ny498.out] at ho32 | (simp only [Int.reduceToNat] at ho32; rw [← Ny498.out] at ho32)); have n0_ := Aside0.mk (Kd.S_lower ho32 (keep_size (w := w) (g := g) (row := none) dq97)); have n1_ := Aside0.mk (IsS99.below dq99 hb); have n2_ := Aside0.mk (KeepBut.trans dq97 (KeepBut.of_below hb g none) (.inl rfl)); have n3_ := Aside0.mk (below_step dq98 hb); clear HI0; clear HK; clear HB; have HO500 := n0_; have HI0 := n1_; have HK := n2_; have HB := n3_; clear n0_ n1_ n2_ n3_; clear hb ho32; obtain ⟨Ao33, co33, eo33⟩ := Kd.S_slice HO500.out; subst eo33) | ((with_reducible refine gate_callee (f := 86) rfl ?_); refine goesL_ (some 10) rfl rfl Tryd.func86 dq30 rfl #[.pointer (some ⟨g, 0, none⟩), .slice Ao33 y498.length co33, .int .i64 0, .int .i64 2] rfl dq29 ?_; (with_reducible refine (spec_l1Rd_grow.calls k g s0_0 t497 (.slice Ao33 y498.length co33) (fun _ => True) y498 0 2 t501 t504 w0 w _ ?side1 ?side2 HL.out ?side4 ?side5 A3.out).mono ?_); (case side1 => exact dq7); (case side2 => exact dq8); (case side4 => exact dq15); (case side5 => exact dq16); rintro e w34 ⟨v502, rfl, ho0, hi, hb, hk⟩; refine ⟨_, rfl, ?_⟩; have n0_ := Aside0.mk ho0; have n1_ := Aside0.mk ho0; have n2_ := Aside0.mk hk; have n3_ := Aside0.mk (hb); have n4_ := Aside0.mk (hi); clear HO500; clear HK; clear HB; clear HI0; have HO500 := n0_; have HO503 := n1_; have HK := n2_; have HB := n3_; have HI0 := n4_; clear n0_ n1_ n2_ n3_ n4_; (try clear hb); (try clear hb2); (try clear hk); (try clear hi); (try clear ho0)) | ((with_reducible refine gate_callee (f := 52) rfl ?_); refine goesL_ (some 12) rfl rfl Tryd.func52 dq30 rfl #[.pointer (some ⟨g, 0, none⟩), .int .i64 24] rfl dq29 ?_; (with_reducible refine (spec_l1Rd_once.calls g s0_0 t504 24 true t506 w0 _ ?side1 ?side2 A4.out).mono ?_); (case side1 => exact dq7); (case side2 => exact dq8); rintro e w35 ⟨rfl, hi, hb, hk⟩; refine ⟨_, rfl, ?_⟩; have n0_ := Aside0.mk (Kd.S_mono (Kd.S_keep (IsS99.apartS (show IsS99 w0 _ g s0_0 t504 from by repeat (first | (with_reducible first | exact HI0.out | apply IsS99.alloc | apply IsS99.drewN | apply IsS99.drew | apply IsS99.set_1) | exact HI0.out)) dq133 dq37) hk (fun _ h => h.2)) (fun _ h => h.1)); have n1_ := Aside0.mk (Kd.S_mono (Kd.S_keep (IsS99.apartS (show IsS99 w0 _ g s0_0 t504 from by repeat (first | (with_reducible first | exact HI0.out | apply IsS99.alloc | apply IsS99.drewN | apply IsS99.drew | apply IsS99.set_1) | exact HI0.out)) dq132 dq37) hk (fun _ h => h.2)) (fun _ h => h.1)); have n2_ := Aside0.mk (KeepBut.trans dq97 hk (.inl rfl)); have n3_ := Aside0.mk (hb); have n4_ := Aside0.mk (hi); clear HO500; clear HO503; clear HK; clear HB; clear HI0; have HO500 := n0_; have HO503 := n1_; have HK := n2_; have HB := n3_; have HI0 := n4_; clear n0_ n1_ n2_ n3_ n4_; (try clear hb); (try clear hb2); (try clear hk); (try clear hi); obtain ⟨Ao36, co36, eo36⟩ := Kd.S_slice HO503.out; subst eo36) | ((with_reducible refine gate_callee (f := 63) rfl ?_); refine goesL_ (some 16) rfl rfl Tryd.func63 dq30 rfl #[.pointer (some ⟨g, 0, none⟩), .int .i64 (t501.length : Int)] rfl dq29 ?_; (with_reducible refine (spec_l1Rd_below.calls g s0_0 t506 (t501.length : Int) t507 t508 w0 _ ?side1 ?side2 A6.out).mono ?_); (case side1 => exact dq7); (case side2 => exact dq8); rintro e w37 ⟨rfl, hi, hb, hk⟩; refine ⟨_, rfl, ?_⟩; have n0_ := Aside0.mk (Kd.S_mono (Kd.S_keep (IsS99.apartS (show IsS99 w0 _ g s0_0 t506 from by repeat (first | (with_reducible first | exact HI0.out | apply IsS99.alloc | apply IsS99.drewN | apply IsS99.drew | apply IsS99.set_1) | exact HI0.out)) dq133 dq37) hk (fun _ h => h.2)) (fun _ h => h.1)); have n1_ := Aside0.mk (Kd.S_mono (Kd.S_keep (IsS99.apartS (show IsS99 w0 _ g s0_0 t506 from by repeat (first | (with_reducible first | exact HI0.out | apply IsS99.alloc | apply IsS99.drewN | apply IsS99.drew | apply IsS99.set_1) | exact HI0.out)) dq132 dq37) hk (fun _ h => h.2)) (fun _ h => h.1)); have n2_ := Aside0.mk (KeepBut.trans dq97 hk (.inl rfl)); have n3_ := Aside0.mk (hb); have n4_ := Aside0.mk (hi); clear HO500; clear HO503; clear HK; clear HB; clear HI0; have HO500 := n0_; have HO503 := n1_; have HK := n2_; have HB := n3_; have HI0 := n4_; clear n0_ n1_ n2_ n3_ n4_; (try clear hb); (try clear hb2); (try clear hk); (try clear hi)) | ((with_reducible refine gate_callee (f := 63) rfl ?_); refine goesL_ (some 18) rfl rfl Tryd.func63 dq30 rfl #[.pointer (some ⟨g, 0, none⟩), .int .i64 3] rfl dq29 ?_; (with_reducible refine (spec_l1Rd_below.calls g s0_0 t508 3 t509 t510 w0 _ ?side1 ?side2 A7.out).mono ?_); (case side1 => exact dq7); (case side2 => exact dq8); rintro e w38 ⟨rfl, hi, hb, hk⟩; refine ⟨_, rfl, ?_⟩; have n0_ := Aside0.mk (Kd.S_mono (Kd.S_keep (IsS99.apartS (show IsS99 w0 _ g s0_0 t508 from by repeat (first | (with_reducible first | exact HI0.out | apply IsS99.alloc | apply IsS99.drewN | apply IsS99.drew | apply IsS99.set_1) | exact HI0.out)) dq133 dq37) hk (fun _ h => h.2)) (fun _ h => h.1)); have n1_ := Aside0.mk (Kd.S_mono (Kd.S_keep (IsS99.apartS (show IsS99 w0 _ g s0_0 t508 from by repeat (first | (with_reducible first | exact HI0.out | apply IsS99.alloc | apply IsS99.drewN | apply IsS99.drew | apply IsS99.set_1) | exact HI0.out)) dq132 dq37) hk (fun _ h => h.2)) (fun _ h => h.1)); have n2_ := Aside0.mk (KeepBut.trans dq97 hk (.inl rfl)); have n3_ := Aside0.mk (hb); have n4_ := Aside0.mk (hi); clear HO500; clear HO503; clear HK; clear HB; clear HI0; have HO500 := n0_; have HO503 := n1_; have HK := n2_; have HB := n3_; have HI0 := n4_; clear n0_ n1_ n2_ n3_ n4_; (try clear hb); (try clear hb2); (try clear hk); (try clear hi)) | ((with_reducible refine gate_callee (f := 88) rfl ?_); refine goesL_ (some 33) rfl rfl Tryd.func88 dq30 rfl #[.pointer (some ⟨g, 0, none⟩)] rfl dq29 ?_; (with_reducible refine (spec_l1Rd_text.calls g s0_0 t510 t514 t515 w0 _ ?side1 ?side2 A26.out).mono ?_); (case side1 => exact dq7); (case side2 => exact dq8); rintro e w39 ⟨rfl, hi, hb, hk⟩; refine ⟨_, rfl, ?_⟩; have n0_ := Aside0.mk (Kd.S_mono (Kd.S_keep (IsS99.apartS (show IsS99 w0 _ g s0_0 t510 from by repeat (first | (with_reducible first | exact HI0.out | apply IsS99.alloc | apply IsS99.drewN | apply IsS99.drew | apply IsS99.set_1) | exact HI0.out)) dq133 dq37) hk (fun _ h => h.2)) (fun _ h => h.1)); have n1_ := Aside0.mk (Kd.S_mono (Kd.S_keep (IsS99.apartS (show IsS99 w0 _ g s0_0 t510 from by repeat (first | (with_reducible first | exact HI0.out | apply IsS99.alloc | apply IsS99.drewN | apply IsS99.drew | apply IsS99.set_1) | exact HI0.out)) dq132 dq37) hk (fun _ h => h.2)) (fun _ h => h.1)); have n2_ := Aside0.mk (KeepBut.trans dq97 hk (.inl rfl)); have n3_ := Aside0.mk (hb); have n4_ := Aside0.mk (hi); clear HO500; clear HO503; clear HK; clear HB; clear HI0; have HO500 := n0_; have HO503 := n1_; have HK := n2_; have HB := n3_; have HI0 := n4_; clear n0_ n1_ n2_ n3_ n4_; (try clear hb); (try clear hb2); (try clear hk); (try clear hi); have p29 : 0 ≤ (t507 : Int) := of_decide_eq_true dq26; have q29 : (t507 : Int) < ((t501.length : Int) : Int) := of_decide_eq_true dq26; obtain ⟨go29, co29, eo29, gb29, gl29, cl29, HG29⟩ := Kd.S_form HO503.out dq31; (first | cases eo29 | (injection eo29 with ea_ en_ ec_; (first | subst ea_ | (injection ea_ with ea_; subst ea_)); subst ec_; clear en_)); have GB29 := Aside0.mk gb29; have GG29 := Aside0.mk HG29; clear gb29 gl29 HG29; obtain ⟨_, ce29, hcl29, hM29, hcc29, hfr29, _, _⟩ := Kd.S_elem HO503.out z39 (t507 : Int) p29 q29; obtain ⟨ve29_3, rfl, ge29_3⟩ := k39_openM hM29; have hx29_0 : w39.cell? ⟨go29, (t507 : Int).toNat * 4, none⟩ = some (.int .i64 ((rd_T39 t501 t507).f0)) := hcc29 0 _ rfl; have hx29_1 : w39.cell? ⟨go29, (t507 : Int).toNat * 4 + 1, none⟩ = some (.string ((rd_T39 t501 t507).f1)) := hcc29 1 _ rfl; have hx29_2 : w39.cell? ⟨go29, (t507 : Int).toNat * 4 + 2, none⟩ = some (.string ((rd_T39 t501 t507).f2)) := hcc29 2 _ rfl; have hx29_3 : w39.cell? ⟨go29, (t507 : Int).toNat * 4 + 3, none⟩ = some (ve29_3) := hcc29 3 _ rfl; have hf29_0 : w39.frozen? ⟨go29, (t507 : Int).toNat * 4, none⟩ = false := hfr29 0; have hf29_1 : w39.frozen? ⟨go29, (t507 : Int).toNat * 4 + 1, none⟩ = false := hfr29 1; have hf29_2 : w39.frozen? ⟨go29, (t507 : Int).toNat * 4 + 2, none⟩ = false := hfr29 2; have hf29_3 : w39.frozen? ⟨go29, (t507 : Int).toNat * 4 + 3, none⟩ = false := hfr29 3; clear hcl29 hcc29 hfr29 hM29; replace p29 := eq_true p29; replace q29 := eq_true q29; have n_ := Aside0.mk (Kd.S_mono (ok' := (fun _ => True)) HO503.out (fun _ _ => trivial)); clear HO503; have HO503 := n_; clear n_; have HX40 := Aside0.mk (show Kd.S k39 39 w39 w.heap.size (fun k_ => ((fun _ => True)) k_ ∧ ¬ ((fun _ => False)) k_) (.slice (some ⟨go29, 0, none⟩) t501.length co36) t501 from dq131); obtain ⟨oki40, ce40, hcl40, hM40, hcc40, hfr40, hoki40, hH40⟩ := Kd.S_elem HX40.out z39 (t507 : Int) (of_decide_eq_true dq26) (by have h_ : (t507 : Int) < ((t501.length : Int) : Int) := of_decide_eq_true dq26; first | exact h_ | (have e_ := (Kd.S_reads' HO503.out).1; omega) | simpa using h_); obtain ⟨ve40_3, rfl, ge40_3⟩ := k39_openM hM40; have HP40 := Kd.S_seg hH40 (of_decide_eq_true dq26) (by have h_ : (t507 : Int) < ((t501.length : Int) : Int) := of_decide_eq_true dq26; first | exact h_ | (have e_ := (Kd.S_reads' HO503.out).1; omega) | simpa using h_) (seg := [.string t514]) (j := 2) (show 3 ≤ 4 from by decide) (x' := (⟨(rd_T39 t501 t507).f0, (rd_T39 t501 t507).f1, t514, (rd_T39 t501 t507).f3⟩ : S39)) (k39_mkM _ _ _ (⟨(rd_T39 t501 t507).f0, (rd_T39 t501 t507).f1, t514, (rd_T39 t501 t507).f3⟩ : S39) (Kd.R_mono ge40_3 (fun _ h_ => Or.inl h_))) (fun _ hk => hk) (fun k_ hk_ => hk_.elim); have hx40_2 := hcc40 2 _ rfl; (try simp only [show (k39).sz = 4 from rfl, Nat.mul_one, Nat.add_zero] at hx40_2); have hf40_2 := hfr40 2; (try simp only [show (k39).sz = 4 from rfl, Nat.mul_one, Nat.add_zero] at hf40_2); clear hcl40 hcc40 hfr40 hM40 hoki40 hH40) | ((with_reducible refine gate_store (t := 9) (p := 35) rfl ?_); refine store_event (t := 9) (p := 35) (v := ?vo_w41) (w1 := (w39.setCell ⟨go29, (t507 : Int).toNat * 4 + 2, none⟩ (.string t514))) ?hg ?ho ?hn ?hr ?_; (case ho => rfl); (case hg => rfl); (case hn => rfl); (case hr => exact dq0); intro w41 hw; have hg : w39.grownBy w41 (some go29) := (by rw [hw]; exact HP40.2); have hp_ : Kd.S k39 39 w41 w.heap.size (fun _ => True) (.slice (some ⟨go29, 0, none⟩) t501.length co36) y516 := (by rw [hw, Ny516.out]; exact HP40.1); clear HP40; have n0_ := Aside0.mk (IsS99.grown dq99 hg (IsS99.own_neS HI0.out HO503.out dq37)); have n1_ := Aside0.mk (hp_); have n2_ := Aside0.mk (hp_); have n3_ := Aside0.mk ((by rw [hw]; exact below_set (HB.out) (Nat.le_trans HL.out GB29.out) : Below w0.heap.size w0 w41)); have n4_ := Aside0.mk (KeepBut.trans dq97 (KeepBut.of_grown hg g) (Kd.S_base2 HO503.out)); clear HI0; clear HO500; clear HO503; clear HB; clear HK; have HI0 := n0_; have HO500 := n1_; have HO503 := n2_; have HB := n3_; have HK := n4_; clear n0_ n1_ n2_ n3_ n4_; clear hg hw hp_))
  go_ret
  exact ⟨_, dq35, dq134, dq99, dq98, dq97⟩
 rw [if_neg c25] at H
 have c25b0 := beq_eq_false_iff_ne.mpr c25
 have c25b1 := bne_iff_ne.mpr c25
 by_cases c42 : t509 = 2
 rotate_left
 ·rw [if_neg c42] at H
  have c42b0 := beq_eq_false_iff_ne.mpr c42
  have c42b1 := bne_iff_ne.mpr c42
  simp only [Option.some.injEq, Prod.mk.injEq] at H
  obtain ⟨rfl, rfl⟩ := H
  go_enter Tryd.func53, Tryd.ntmps53
  go_wp2_with (first | ((with_reducible refine gate_callee (f := 87) rfl ?_); refine goesL_ (some 7) rfl rfl Tryd.func87 dq30 rfl #[.pointer (some ⟨g, 0, none⟩)] rfl dq29 ?_; (with_reducible refine (spec_l1Rd_name.calls g s0_0 s0_1 t496 t497 w0 _ ?side1 ?side2 A2.out).mono ?_); (case side1 => exact dq7); (case side2 => exact dq8); rintro e w59 ⟨rfl, hi, hb, hk⟩; refine ⟨_, rfl, ?_⟩; have n0_ := Aside0.mk (KeepBut.trans dq97 hk (.inl rfl)); have n1_ := Aside0.mk (hb); have n2_ := Aside0.mk (hi); clear HK; clear HB; clear HI0; have HK := n0_; have HB := n1_; have HI0 := n2_; clear n0_ n1_ n2_; (try clear hb); (try clear hb2); (try clear hk); (try clear hi)) | ((with_reducible refine gate_dst (N := 9) rfl ?_); refine Kd.S_lit k39 _ 39 ?hg (N := 9) ?hd (xs := ([(⟨(-1), t496, (⟨#[]⟩ : ByteArray), ([] : List (S46))⟩ : S39)] : List (S39))) (inner := [.int .i64 (-1), .string t496, .string (⟨#[]⟩ : ByteArray), .slice none 0 0]) (ok := fun _ => True) (okp := fun _ => True) ?hr ?hp (fun _ hk => hk) trivial (Below.refl _ _) (Nat.le_refl _) dq28 ?_; (case hd => rfl); (case hg => rfl); (case hr => exact dq0); (case hp => exact (Reps.c4 (show Kd.M k39 _ _ _ (⟨(-1), t496, (⟨#[]⟩ : ByteArray), ([] : List (S46))⟩ : S39) [.int .i64 (-1), .string t496, .string (⟨#[]⟩ : ByteArray), .slice none 0 0] from (k39_mkM _ _ _ (⟨(-1), t496, (⟨#[]⟩ : ByteArray), ([] : List (S46))⟩ : S39) (Kd.R_nil _ _ _ _ _))) (Reps.none _ _))); intro v499 w60 ho61 hb hg_ hnew_; clear hg_ hnew_; (first | rw [← Ny498.out] at ho61 | (simp only [Int.reduceToNat] at ho61; rw [← Ny498.out] at ho61)); have n0_ := Aside0.mk (Kd.S_lower ho61 (keep_size (w := w) (g := g) (row := none) dq97)); have n1_ := Aside0.mk (IsS99.below dq99 hb); have n2_ := Aside0.mk (KeepBut.trans dq97 (KeepBut.of_below hb g none) (.inl rfl)); have n3_ := Aside0.mk (below_step dq98 hb); clear HI0; clear HK; clear HB; have HO500 := n0_; have HI0 := n1_; have HK := n2_; have HB := n3_; clear n0_ n1_ n2_ n3_; clear hb ho61; obtain ⟨Ao62, co62, eo62⟩ := Kd.S_slice HO500.out; subst eo62) | ((with_reducible refine gate_callee (f := 86) rfl ?_); refine goesL_ (some 10) rfl rfl Tryd.func86 dq30 rfl #[.pointer (some ⟨g, 0, none⟩), .slice Ao62 y498.length co62, .int .i64 0, .int .i64 2] rfl dq29 ?_; (with_reducible refine (spec_l1Rd_grow.calls k g s0_0 t497 (.slice Ao62 y498.length co62) (fun _ => True) y498 0 2 t501 t504 w0 w _ ?side1 ?side2 HL.out ?side4 ?side5 A3.out).mono ?_); (case side1 => exact dq7); (case side2 => exact dq8); (case side4 => exact dq15); (case side5 => exact dq16); rintro e w63 ⟨v502, rfl, ho0, hi, hb, hk⟩; refine ⟨_, rfl, ?_⟩; have n0_ := Aside0.mk ho0; have n1_ := Aside0.mk ho0; have n2_ := Aside0.mk hk; have n3_ := Aside0.mk (hb); have n4_ := Aside0.mk (hi); clear HO500; clear HK; clear HB; clear HI0; have HO500 := n0_; have HO503 := n1_; have HK := n2_; have HB := n3_; have HI0 := n4_; clear n0_ n1_ n2_ n3_ n4_; (try clear hb); (try clear hb2); (try clear hk); (try clear hi); (try clear ho0)) | ((with_reducible refine gate_callee (f := 52) rfl ?_); refine goesL_ (some 12) rfl rfl Tryd.func52 dq30 rfl #[.pointer (some ⟨g, 0, none⟩), .int .i64 24] rfl dq29 ?_; (with_reducible refine (spec_l1Rd_once.calls g s0_0 t504 24 true t506 w0 _ ?side1 ?side2 A4.out).mono ?_); (case side1 => exact dq7); (case side2 => exact dq8); rintro e w64 ⟨rfl, hi, hb, hk⟩; refine ⟨_, rfl, ?_⟩; have n0_ := Aside0.mk (Kd.S_mono (Kd.S_keep (IsS99.apartS (show IsS99 w0 _ g s0_0 t504 from by repeat (first | (with_reducible first | exact HI0.out | apply IsS99.alloc | apply IsS99.drewN | apply IsS99.drew | apply IsS99.set_1) | exact HI0.out)) dq133 dq37) hk (fun _ h => h.2)) (fun _ h => h.1)); have n1_ := Aside0.mk (Kd.S_mono (Kd.S_keep (IsS99.apartS (show IsS99 w0 _ g s0_0 t504 from by repeat (first | (with_reducible first | exact HI0.out | apply IsS99.alloc | apply IsS99.drewN | apply IsS99.drew | apply IsS99.set_1) | exact HI0.out)) dq132 dq37) hk (fun _ h => h.2)) (fun _ h => h.1)); have n2_ := Aside0.mk (KeepBut.trans dq97 hk (.inl rfl)); have n3_ := Aside0.mk (hb); have n4_ := Aside0.mk (hi); clear HO500; clear HO503; clear HK; clear HB; clear HI0; have HO500 := n0_; have HO503 := n1_; have HK := n2_; have HB := n3_; have HI0 := n4_; clear n0_ n1_ n2_ n3_ n4_; (try clear hb); (try clear hb2); (try clear hk); (try clear hi); obtain ⟨Ao65, co65, eo65⟩ := Kd.S_slice HO503.out; subst eo65) | ((with_reducible refine gate_callee (f := 63) rfl ?_); refine goesL_ (some 16) rfl rfl Tryd.func63 dq30 rfl #[.pointer (some ⟨g, 0, none⟩), .int .i64 (t501.length : Int)] rfl dq29 ?_; (with_reducible refine (spec_l1Rd_below.calls g s0_0 t506 (t501.length : Int) t507 t508 w0 _ ?side1 ?side2 A6.out).mono ?_); (case side1 => exact dq7); (case side2 => exact dq8); rintro e w66 ⟨rfl, hi, hb, hk⟩; refine ⟨_, rfl, ?_⟩; have n0_ := Aside0.mk (Kd.S_mono (Kd.S_keep (IsS99.apartS (show IsS99 w0 _ g s0_0 t506 from by repeat (first | (with_reducible first | exact HI0.out | apply IsS99.alloc | apply IsS99.drewN | apply IsS99.drew | apply IsS99.set_1) | exact HI0.out)) dq133 dq37) hk (fun _ h => h.2)) (fun _ h => h.1)); have n1_ := Aside0.mk (Kd.S_mono (Kd.S_keep (IsS99.apartS (show IsS99 w0 _ g s0_0 t506 from by repeat (first | (with_reducible first | exact HI0.out | apply IsS99.alloc | apply IsS99.drewN | apply IsS99.drew | apply IsS99.set_1) | exact HI0.out)) dq132 dq37) hk (fun _ h => h.2)) (fun _ h => h.1)); have n2_ := Aside0.mk (KeepBut.trans dq97 hk (.inl rfl)); have n3_ := Aside0.mk (hb); have n4_ := Aside0.mk (hi); clear HO500; clear HO503; clear HK; clear HB; clear HI0; have HO500 := n0_; have HO503 := n1_; have HK := n2_; have HB := n3_; have HI0 := n4_; clear n0_ n1_ n2_ n3_ n4_; (try clear hb); (try clear hb2); (try clear hk); (try clear hi)) | ((with_reducible refine gate_callee (f := 63) rfl ?_); refine goesL_ (some 18) rfl rfl Tryd.func63 dq30 rfl #[.pointer (some ⟨g, 0, none⟩), .int .i64 3] rfl dq29 ?_; (with_reducible refine (spec_l1Rd_below.calls g s0_0 t508 3 t509 t510 w0 _ ?side1 ?side2 A7.out).mono ?_); (case side1 => exact dq7); (case side2 => exact dq8); rintro e w67 ⟨rfl, hi, hb, hk⟩; refine ⟨_, rfl, ?_⟩; have n0_ := Aside0.mk (Kd.S_mono (Kd.S_keep (IsS99.apartS (show IsS99 w0 _ g s0_0 t508 from by repeat (first | (with_reducible first | exact HI0.out | apply IsS99.alloc | apply IsS99.drewN | apply IsS99.drew | apply IsS99.set_1) | exact HI0.out)) dq133 dq37) hk (fun _ h => h.2)) (fun _ h => h.1)); have n1_ := Aside0.mk (Kd.S_mono (Kd.S_keep (IsS99.apartS (show IsS99 w0 _ g s0_0 t508 from by repeat (first | (with_reducible first | exact HI0.out | apply IsS99.alloc | apply IsS99.drewN | apply IsS99.drew | apply IsS99.set_1) | exact HI0.out)) dq132 dq37) hk (fun _ h => h.2)) (fun _ h => h.1)); have n2_ := Aside0.mk (KeepBut.trans dq97 hk (.inl rfl)); have n3_ := Aside0.mk (hb); have n4_ := Aside0.mk (hi); clear HO500; clear HO503; clear HK; clear HB; clear HI0; have HO500 := n0_; have HO503 := n1_; have HK := n2_; have HB := n3_; have HI0 := n4_; clear n0_ n1_ n2_ n3_ n4_; (try clear hb); (try clear hb2); (try clear hk); (try clear hi)))
  go_ret
  exact ⟨_, dq35, dq134, dq99, dq98, dq97⟩
 rw [if_pos c42] at H
 have c42b0 := beq_iff_eq.mpr c42
 have c42b1 := bne_eq_false_iff_eq.mpr c42
 clear c42
 replace H := Option.bind_eq_some_iff.mp H
 obtain ⟨⟨t517, t518⟩, A430, H⟩ := H
 replace H : (if 0 ≤ t507 then (if t507 < (t501.length : Int) then (some ((t501.set (t507 : Int).toNat (⟨(rd_T39 t501 t507).f0, t517, (rd_T39 t501 t507).f2, (rd_T39 t501 t507).f3⟩ : S39)), t518)) else (none)) else (none)) = some (r1, r2) := H
 have A43 := Aside0.mk A430
 clear A430
 by_cases c44 : 0 ≤ t507
 rotate_left
 ·rw [if_neg c44] at H
  exact absurd H dq28
 rw [if_pos c44] at H
 have c44b0 := decide_eq_true c44
 clear c44
 by_cases c45 : t507 < (t501.length : Int)
 rotate_left
 ·rw [if_neg c45] at H
  exact absurd H dq28
 rw [if_pos c45] at H
 have c45b0 := decide_eq_true c45
 clear c45
 obtain ⟨y519, hy519⟩ : ∃ y_ : List (S39), y_ = (t501.set (t507 : Int).toNat (⟨(rd_T39 t501 t507).f0, t517, (rd_T39 t501 t507).f2, (rd_T39 t501 t507).f3⟩ : S39)) := ⟨_, rfl⟩
 replace H : (some (y519, t518)) = some (r1, r2) := by first | (rw [hy519]; with_reducible exact H) | (have H2_ := (Option.bind_some _ _).symm.trans H; rw [hy519]; with_reducible exact H2_) | (have H2_ := (Option.bind_some _ _).symm.trans H; with_reducible exact H2_) | with_reducible exact H | (rw [hy519]; exact H) | exact H
 have Ny519 := Aside0.mk hy519
 clear hy519
 simp only [Option.some.injEq, Prod.mk.injEq] at H
 obtain ⟨rfl, rfl⟩ := H
 go_enter Tryd.func53, Tryd.ntmps53
 go_wp2_with (first | ((with_reducible refine gate_callee (f := 87) rfl ?_); refine goesL_ (some 7) rfl rfl Tryd.func87 dq30 rfl #[.pointer (some ⟨g, 0, none⟩)] rfl dq29 ?_; (with_reducible refine (spec_l1Rd_name.calls g s0_0 s0_1 t496 t497 w0 _ ?side1 ?side2 A2.out).mono ?_); (case side1 => exact dq7); (case side2 => exact dq8); rintro e w47 ⟨rfl, hi, hb, hk⟩; refine ⟨_, rfl, ?_⟩; have n0_ := Aside0.mk (KeepBut.trans dq97 hk (.inl rfl)); have n1_ := Aside0.mk (hb); have n2_ := Aside0.mk (hi); clear HK; clear HB; clear HI0; have HK := n0_; have HB := n1_; have HI0 := n2_; clear n0_ n1_ n2_; (try clear hb); (try clear hb2); (try clear hk); (try clear hi)) | ((with_reducible refine gate_dst (N := 9) rfl ?_); refine Kd.S_lit k39 _ 39 ?hg (N := 9) ?hd (xs := ([(⟨(-1), t496, (⟨#[]⟩ : ByteArray), ([] : List (S46))⟩ : S39)] : List (S39))) (inner := [.int .i64 (-1), .string t496, .string (⟨#[]⟩ : ByteArray), .slice none 0 0]) (ok := fun _ => True) (okp := fun _ => True) ?hr ?hp (fun _ hk => hk) trivial (Below.refl _ _) (Nat.le_refl _) dq28 ?_; (case hd => rfl); (case hg => rfl); (case hr => exact dq0); (case hp => exact (Reps.c4 (show Kd.M k39 _ _ _ (⟨(-1), t496, (⟨#[]⟩ : ByteArray), ([] : List (S46))⟩ : S39) [.int .i64 (-1), .string t496, .string (⟨#[]⟩ : ByteArray), .slice none 0 0] from (k39_mkM _ _ _ (⟨(-1), t496, (⟨#[]⟩ : ByteArray), ([] : List (S46))⟩ : S39) (Kd.R_nil _ _ _ _ _))) (Reps.none _ _))); intro v499 w48 ho49 hb hg_ hnew_; clear hg_ hnew_; (first | rw [← Ny498.out] at ho49 | (simp only [Int.reduceToNat] at ho49; rw [← Ny498.out] at ho49)); have n0_ := Aside0.mk (Kd.S_lower ho49 (keep_size (w := w) (g := g) (row := none) dq97)); have n1_ := Aside0.mk (IsS99.below dq99 hb); have n2_ := Aside0.mk (KeepBut.trans dq97 (KeepBut.of_below hb g none) (.inl rfl)); have n3_ := Aside0.mk (below_step dq98 hb); clear HI0; clear HK; clear HB; have HO500 := n0_; have HI0 := n1_; have HK := n2_; have HB := n3_; clear n0_ n1_ n2_ n3_; clear hb ho49; obtain ⟨Ao50, co50, eo50⟩ := Kd.S_slice HO500.out; subst eo50) | ((with_reducible refine gate_callee (f := 86) rfl ?_); refine goesL_ (some 10) rfl rfl Tryd.func86 dq30 rfl #[.pointer (some ⟨g, 0, none⟩), .slice Ao50 y498.length co50, .int .i64 0, .int .i64 2] rfl dq29 ?_; (with_reducible refine (spec_l1Rd_grow.calls k g s0_0 t497 (.slice Ao50 y498.length co50) (fun _ => True) y498 0 2 t501 t504 w0 w _ ?side1 ?side2 HL.out ?side4 ?side5 A3.out).mono ?_); (case side1 => exact dq7); (case side2 => exact dq8); (case side4 => exact dq15); (case side5 => exact dq16); rintro e w51 ⟨v502, rfl, ho0, hi, hb, hk⟩; refine ⟨_, rfl, ?_⟩; have n0_ := Aside0.mk ho0; have n1_ := Aside0.mk ho0; have n2_ := Aside0.mk hk; have n3_ := Aside0.mk (hb); have n4_ := Aside0.mk (hi); clear HO500; clear HK; clear HB; clear HI0; have HO500 := n0_; have HO503 := n1_; have HK := n2_; have HB := n3_; have HI0 := n4_; clear n0_ n1_ n2_ n3_ n4_; (try clear hb); (try clear hb2); (try clear hk); (try clear hi); (try clear ho0)) | ((with_reducible refine gate_callee (f := 52) rfl ?_); refine goesL_ (some 12) rfl rfl Tryd.func52 dq30 rfl #[.pointer (some ⟨g, 0, none⟩), .int .i64 24] rfl dq29 ?_; (with_reducible refine (spec_l1Rd_once.calls g s0_0 t504 24 true t506 w0 _ ?side1 ?side2 A4.out).mono ?_); (case side1 => exact dq7); (case side2 => exact dq8); rintro e w52 ⟨rfl, hi, hb, hk⟩; refine ⟨_, rfl, ?_⟩; have n0_ := Aside0.mk (Kd.S_mono (Kd.S_keep (IsS99.apartS (show IsS99 w0 _ g s0_0 t504 from by repeat (first | (with_reducible first | exact HI0.out | apply IsS99.alloc | apply IsS99.drewN | apply IsS99.drew | apply IsS99.set_1) | exact HI0.out)) dq133 dq37) hk (fun _ h => h.2)) (fun _ h => h.1)); have n1_ := Aside0.mk (Kd.S_mono (Kd.S_keep (IsS99.apartS (show IsS99 w0 _ g s0_0 t504 from by repeat (first | (with_reducible first | exact HI0.out | apply IsS99.alloc | apply IsS99.drewN | apply IsS99.drew | apply IsS99.set_1) | exact HI0.out)) dq132 dq37) hk (fun _ h => h.2)) (fun _ h => h.1)); have n2_ := Aside0.mk (KeepBut.trans dq97 hk (.inl rfl)); have n3_ := Aside0.mk (hb); have n4_ := Aside0.mk (hi); clear HO500; clear HO503; clear HK; clear HB; clear HI0; have HO500 := n0_; have HO503 := n1_; have HK := n2_; have HB := n3_; have HI0 := n4_; clear n0_ n1_ n2_ n3_ n4_; (try clear hb); (try clear hb2); (try clear hk); (try clear hi); obtain ⟨Ao53, co53, eo53⟩ := Kd.S_slice HO503.out; subst eo53) | ((with_reducible refine gate_callee (f := 63) rfl ?_); refine goesL_ (some 16) rfl rfl Tryd.func63 dq30 rfl #[.pointer (some ⟨g, 0, none⟩), .int .i64 (t501.length : Int)] rfl dq29 ?_; (with_reducible refine (spec_l1Rd_below.calls g s0_0 t506 (t501.length : Int) t507 t508 w0 _ ?side1 ?side2 A6.out).mono ?_); (case side1 => exact dq7); (case side2 => exact dq8); rintro e w54 ⟨rfl, hi, hb, hk⟩; refine ⟨_, rfl, ?_⟩; have n0_ := Aside0.mk (Kd.S_mono (Kd.S_keep (IsS99.apartS (show IsS99 w0 _ g s0_0 t506 from by repeat (first | (with_reducible first | exact HI0.out | apply IsS99.alloc | apply IsS99.drewN | apply IsS99.drew | apply IsS99.set_1) | exact HI0.out)) dq133 dq37) hk (fun _ h => h.2)) (fun _ h => h.1)); have n1_ := Aside0.mk (Kd.S_mono (Kd.S_keep (IsS99.apartS (show IsS99 w0 _ g s0_0 t506 from by repeat (first | (with_reducible first | exact HI0.out | apply IsS99.alloc | apply IsS99.drewN | apply IsS99.drew | apply IsS99.set_1) | exact HI0.out)) dq132 dq37) hk (fun _ h => h.2)) (fun _ h => h.1)); have n2_ := Aside0.mk (KeepBut.trans dq97 hk (.inl rfl)); have n3_ := Aside0.mk (hb); have n4_ := Aside0.mk (hi); clear HO500; clear HO503; clear HK; clear HB; clear HI0; have HO500 := n0_; have HO503 := n1_; have HK := n2_; have HB := n3_; have HI0 := n4_; clear n0_ n1_ n2_ n3_ n4_; (try clear hb); (try clear hb2); (try clear hk); (try clear hi)) | ((with_reducible refine gate_callee (f := 63) rfl ?_); refine goesL_ (some 18) rfl rfl Tryd.func63 dq30 rfl #[.pointer (some ⟨g, 0, none⟩), .int .i64 3] rfl dq29 ?_; (with_reducible refine (spec_l1Rd_below.calls g s0_0 t508 3 t509 t510 w0 _ ?side1 ?side2 A7.out).mono ?_); (case side1 => exact dq7); (case side2 => exact dq8); rintro e w55 ⟨rfl, hi, hb, hk⟩; refine ⟨_, rfl, ?_⟩; have n0_ := Aside0.mk (Kd.S_mono (Kd.S_keep (IsS99.apartS (show IsS99 w0 _ g s0_0 t508 from by repeat (first | (with_reducible first | exact HI0.out | apply IsS99.alloc | apply IsS99.drewN | apply IsS99.drew | apply IsS99.set_1) | exact HI0.out)) dq133 dq37) hk (fun _ h => h.2)) (fun _ h => h.1)); have n1_ := Aside0.mk (Kd.S_mono (Kd.S_keep (IsS99.apartS (show IsS99 w0 _ g s0_0 t508 from by repeat (first | (with_reducible first | exact HI0.out | apply IsS99.alloc | apply IsS99.drewN | apply IsS99.drew | apply IsS99.set_1) | exact HI0.out)) dq132 dq37) hk (fun _ h => h.2)) (fun _ h => h.1)); have n2_ := Aside0.mk (KeepBut.trans dq97 hk (.inl rfl)); have n3_ := Aside0.mk (hb); have n4_ := Aside0.mk (hi); clear HO500; clear HO503; clear HK; clear HB; clear HI0; have HO500 := n0_; have HO503 := n1_; have HK := n2_; have HB := n3_; have HI0 := n4_; clear n0_ n1_ n2_ n3_ n4_; (try clear hb); (try clear hb2); (try clear hk); (try clear hi)) | ((with_reducible refine gate_callee (f := 88) rfl ?_); refine goesL_ (some 41) rfl rfl Tryd.func88 dq30 rfl #[.pointer (some ⟨g, 0, none⟩)] rfl dq29 ?_; (with_reducible refine (spec_l1Rd_text.calls g s0_0 t510 t517 t518 w0 _ ?side1 ?side2 A43.out).mono ?_); (case side1 => exact dq7); (case side2 => exact dq8); rintro e w56 ⟨rfl, hi, hb, hk⟩; refine ⟨_, rfl, ?_⟩; have n0_ := Aside0.mk (Kd.S_mono (Kd.S_keep (IsS99.apartS (show IsS99 w0 _ g s0_0 t510 from by repeat (first | (with_reducible first | exact HI0.out | apply IsS99.alloc | apply IsS99.drewN | apply IsS99.drew | apply IsS99.set_1) | exact HI0.out)) dq133 dq37) hk (fun _ h => h.2)) (fun _ h => h.1)); have n1_ := Aside0.mk (Kd.S_mono (Kd.S_keep (IsS99.apartS (show IsS99 w0 _ g s0_0 t510 from by repeat (first | (with_reducible first | exact HI0.out | apply IsS99.alloc | apply IsS99.drewN | apply IsS99.drew | apply IsS99.set_1) | exact HI0.out)) dq132 dq37) hk (fun _ h => h.2)) (fun _ h => h.1)); have n2_ := Aside0.mk (KeepBut.trans dq97 hk (.inl rfl)); have n3_ := Aside0.mk (hb); have n4_ := Aside0.mk (hi); clear HO500; clear HO503; clear HK; clear HB; clear HI0; have HO500 := n0_; have HO503 := n1_; have HK := n2_; have HB := n3_; have HI0 := n4_; clear n0_ n1_ n2_ n3_ n4_; (try clear hb); (try clear hb2); (try clear hk); (try clear hi); have p46 : 0 ≤ (t507 : Int) := of_decide_eq_true dq26; have q46 : (t507 : Int) < ((t501.length : Int) : Int) := of_decide_eq_true dq26; obtain ⟨go46, co46, eo46, gb46, gl46, cl46, HG46⟩ := Kd.S_form HO503.out dq31; (first | cases eo46 | (injection eo46 with ea_ en_ ec_; (first | subst ea_ | (injection ea_ with ea_; subst ea_)); subst ec_; clear en_)); have GB46 := Aside0.mk gb46; have GG46 := Aside0.mk HG46; clear gb46 gl46 HG46; obtain ⟨_, ce46, hcl46, hM46, hcc46, hfr46, _, _⟩ := Kd.S_elem HO503.out z39 (t507 : Int) p46 q46; obtain ⟨ve46_3, rfl, ge46_3⟩ := k39_openM hM46; have hx46_0 : w56.cell? ⟨go46, (t507 : Int).toNat * 4, none⟩ = some (.int .i64 ((rd_T39 t501 t507).f0)) := hcc46 0 _ rfl; have hx46_1 : w56.cell? ⟨go46, (t507 : Int).toNat * 4 + 1, none⟩ = some (.string ((rd_T39 t501 t507).f1)) := hcc46 1 _ rfl; have hx46_2 : w56.cell? ⟨go46, (t507 : Int).toNat * 4 + 2, none⟩ = some (.string ((rd_T39 t501 t507).f2)) := hcc46 2 _ rfl; have hx46_3 : w56.cell? ⟨go46, (t507 : Int).toNat * 4 + 3, none⟩ = some (ve46_3) := hcc46 3 _ rfl; have hf46_0 : w56.frozen? ⟨go46, (t507 : Int).toNat * 4, none⟩ = false := hfr46 0; have hf46_1 : w56.frozen? ⟨go46, (t507 : Int).toNat * 4 + 1, none⟩ = false := hfr46 1; have hf46_2 : w56.frozen? ⟨go46, (t507 : Int).toNat * 4 + 2, none⟩ = false := hfr46 2; have hf46_3 : w56.frozen? ⟨go46, (t507 : Int).toNat * 4 + 3, none⟩ = false := hfr46 3; clear hcl46 hcc46 hfr46 hM46; replace p46 := eq_true p46; replace q46 := eq_true q46; have n_ := Aside0.mk (Kd.S_mono (ok' := (fun _ => True)) HO503.out (fun _ _ => trivial)); clear HO503; have HO503 := n_; clear n_; have HX57 := Aside0.mk (show Kd.S k39 39 w56 w.heap.size (fun k_ => ((fun _ => True)) k_ ∧ ¬ ((fun _ => False)) k_) (.slice (some ⟨go46, 0, none⟩) t501.length co53) t501 from dq131); obtain ⟨oki57, ce57, hcl57, hM57, hcc57, hfr57, hoki57, hH57⟩ := Kd.S_elem HX57.out z39 (t507 : Int) (of_decide_eq_true dq26) (by have h_ : (t507 : Int) < ((t501.length : Int) : Int) := of_decide_eq_true dq26; first | exact h_ | (have e_ := (Kd.S_reads' HO503.out).1; omega) | simpa using h_); obtain ⟨ve57_3, rfl, ge57_3⟩ := k39_openM hM57; have HP57 := Kd.S_seg hH57 (of_decide_eq_true dq26) (by have h_ : (t507 : Int) < ((t501.length : Int) : Int) := of_decide_eq_true dq26; first | exact h_ | (have e_ := (Kd.S_reads' HO503.out).1; omega) | simpa using h_) (seg := [.string t517]) (j := 1) (show 2 ≤ 4 from by decide) (x' := (⟨(rd_T39 t501 t507).f0, t517, (rd_T39 t501 t507).f2, (rd_T39 t501 t507).f3⟩ : S39)) (k39_mkM _ _ _ (⟨(rd_T39 t501 t507).f0, t517, (rd_T39 t501 t507).f2, (rd_T39 t501 t507).f3⟩ : S39) (Kd.R_mono ge57_3 (fun _ h_ => Or.inl h_))) (fun _ hk => hk) (fun k_ hk_ => hk_.elim); have hx57_1 := hcc57 1 _ rfl; (try simp only [show (k39).sz = 4 from rfl, Nat.mul_one, Nat.add_zero] at hx57_1); have hf57_1 := hfr57 1; (try simp only [show (k39).sz = 4 from rfl, Nat.mul_one, Nat.add_zero] at hf57_1); clear hcl57 hcc57 hfr57 hM57 hoki57 hH57) | ((with_reducible refine gate_store (t := 9) (p := 43) rfl ?_); refine store_event (t := 9) (p := 43) (v := ?vo_w58) (w1 := (w56.setCell ⟨go46, (t507 : Int).toNat * 4 + 1, none⟩ (.string t517))) ?hg ?ho ?hn ?hr ?_; (case ho => rfl); (case hg => rfl); (case hn => rfl); (case hr => exact dq0); intro w58 hw; have hg : w56.grownBy w58 (some go46) := (by rw [hw]; exact HP57.2); have hp_ : Kd.S k39 39 w58 w.heap.size (fun _ => True) (.slice (some ⟨go46, 0, none⟩) t501.length co53) y519 := (by rw [hw, Ny519.out]; exact HP57.1); clear HP57; have n0_ := Aside0.mk (IsS99.grown dq99 hg (IsS99.own_neS HI0.out HO503.out dq37)); have n1_ := Aside0.mk (hp_); have n2_ := Aside0.mk (hp_); have n3_ := Aside0.mk ((by rw [hw]; exact below_set (HB.out) (Nat.le_trans HL.out GB46.out) : Below w0.heap.size w0 w58)); have n4_ := Aside0.mk (KeepBut.trans dq97 (KeepBut.of_grown hg g) (Kd.S_base2 HO503.out)); clear HI0; clear HO500; clear HO503; clear HB; clear HK; have HI0 := n0_; have HO500 := n1_; have HO503 := n2_; have HB := n3_; have HK := n4_; clear n0_ n1_ n2_ n3_ n4_; clear hg hw hp_))
 go_ret
 exact ⟨_, dq35, dq134, dq99, dq98, dq97⟩

/-! ### spec_l1Rd_path: function 55 -/
def spec_l1Rd_path.f (s0_0 : List Int) (s0_1 : Int) : Option (ByteArray × Int) := (some (([(⟨#[97]⟩ : ByteArray), (⟨#[98]⟩ : ByteArray), (⟨#[97, 47, 98]⟩ : ByteArray), (⟨#[47, 47, 97]⟩ : ByteArray), (⟨#[47, 47, 98]⟩ : ByteArray), (⟨#[47, 47, 97, 47, 98]⟩ : ByteArray), (⟨#[99, 47, 97]⟩ : ByteArray), (⟨#[97, 47]⟩ : ByteArray), (⟨#[]⟩ : ByteArray), (⟨#[47, 47]⟩ : ByteArray), (⟨#[47, 97]⟩ : ByteArray), (⟨#[65]⟩ : ByteArray)] : List ByteArray) : List ByteArray)).bind fun y520 => ((spec_l1Rd_below.f s0_0 s0_1 12).bind fun bt523 => (if 0 ≤ bt523.1 then (if bt523.1 < (y520.length : Int) then (some (rdOf ByteArray.empty y520 bt523.1, bt523.2)) else (none)) else (none)))
set_option maxHeartbeats 8000000 in
set_option maxRecDepth 100000 in
theorem spec_l1Rd_path.calls (g : Nat) (s0_0 : List Int) (s0_1 : Int) (r1 : ByteArray) (r2 : Int) (w0 w : World) (hI : IsS99 w0 w g s0_0 s0_1) (hB : Below w0.heap.size w0 w) (h : spec_l1Rd_path.f s0_0 s0_1 = some (r1, r2)) :
  Calls Tryd.prog 55 #[.pointer (some ⟨g, 0, none⟩)] w fun e w' => e = .returned (.string r1) ∧ IsS99 w0 w' g s0_0 r2 ∧ Below w0.heap.size w0 w' ∧ KeepBut w w' g none := by
 have HI0 := Aside0.mk hI
 have HK := Aside0.mk (KeepBut.refl w g none)
 have HL := Aside0.mk hB.size
 clear hI
 have HW0 := Aside0.mk hB.size
 have HB := Aside0.mk hB
 clear hB
 have H : ((some (([(⟨#[97]⟩ : ByteArray), (⟨#[98]⟩ : ByteArray), (⟨#[97, 47, 98]⟩ : ByteArray), (⟨#[47, 47, 97]⟩ : ByteArray), (⟨#[47, 47, 98]⟩ : ByteArray), (⟨#[47, 47, 97, 47, 98]⟩ : ByteArray), (⟨#[99, 47, 97]⟩ : ByteArray), (⟨#[97, 47]⟩ : ByteArray), (⟨#[]⟩ : ByteArray), (⟨#[47, 47]⟩ : ByteArray), (⟨#[47, 97]⟩ : ByteArray), (⟨#[65]⟩ : ByteArray)] : List ByteArray) : List ByteArray)).bind fun y520 => ((spec_l1Rd_below.f s0_0 s0_1 12).bind fun bt523 => (if 0 ≤ bt523.1 then (if bt523.1 < (y520.length : Int) then (some (rdOf ByteArray.empty y520 bt523.1, bt523.2)) else (none)) else (none)))) = some (r1, r2) := h
 clear h
 obtain ⟨y520, hy520⟩ : ∃ y_ : List ByteArray, y_ = (([(⟨#[97]⟩ : ByteArray), (⟨#[98]⟩ : ByteArray), (⟨#[97, 47, 98]⟩ : ByteArray), (⟨#[47, 47, 97]⟩ : ByteArray), (⟨#[47, 47, 98]⟩ : ByteArray), (⟨#[47, 47, 97, 47, 98]⟩ : ByteArray), (⟨#[99, 47, 97]⟩ : ByteArray), (⟨#[97, 47]⟩ : ByteArray), (⟨#[]⟩ : ByteArray), (⟨#[47, 47]⟩ : ByteArray), (⟨#[47, 97]⟩ : ByteArray), (⟨#[65]⟩ : ByteArray)] : List ByteArray)) := ⟨_, rfl⟩
 replace H : ((spec_l1Rd_below.f s0_0 s0_1 12).bind fun bt523 => (if 0 ≤ bt523.1 then (if bt523.1 < (y520.length : Int) then (some (rdOf ByteArray.empty y520 bt523.1, bt523.2)) else (none)) else (none))) = some (r1, r2) := by first | (rw [hy520]; with_reducible exact H) | (have H2_ := (Option.bind_some _ _).symm.trans H; rw [hy520]; with_reducible exact H2_) | (have H2_ := (Option.bind_some _ _).symm.trans H; with_reducible exact H2_) | with_reducible exact H | (rw [hy520]; exact H) | exact H
 have Ny520 := Aside0.mk hy520
 clear hy520
 replace H := Option.bind_eq_some_iff.mp H
 obtain ⟨⟨t523, t524⟩, A20, H⟩ := H
 replace H : (if 0 ≤ t523 then (if t523 < (y520.length : Int) then (some (rdOf ByteArray.empty y520 t523, t524)) else (none)) else (none)) = some (r1, r2) := H
 have A2 := Aside0.mk A20
 clear A20
 by_cases c3 : 0 ≤ t523
 rotate_left
 ·rw [if_neg c3] at H
  exact absurd H dq28
 rw [if_pos c3] at H
 have c3b0 := decide_eq_true c3
 clear c3
 by_cases c4 : t523 < (y520.length : Int)
 rotate_left
 ·rw [if_neg c4] at H
  exact absurd H dq28
 rw [if_pos c4] at H
 have c4b0 := decide_eq_true c4
 clear c4
 simp only [Option.some.injEq, Prod.mk.injEq] at H
 obtain ⟨rfl, rfl⟩ := H
 go_enter Tryd.func55, Tryd.ntmps55
 go_wp2_with (first | ((with_reducible refine gate_dst (N := 3) rfl ?_); refine Kd.R_lit Kd.string _ 9 ?hg (N := 3) ?hd (xs := ([(⟨#[97]⟩ : ByteArray), (⟨#[98]⟩ : ByteArray), (⟨#[97, 47, 98]⟩ : ByteArray), (⟨#[47, 47, 97]⟩ : ByteArray), (⟨#[47, 47, 98]⟩ : ByteArray), (⟨#[47, 47, 97, 47, 98]⟩ : ByteArray), (⟨#[99, 47, 97]⟩ : ByteArray), (⟨#[97, 47]⟩ : ByteArray), (⟨#[]⟩ : ByteArray), (⟨#[47, 47]⟩ : ByteArray), (⟨#[47, 97]⟩ : ByteArray), (⟨#[65]⟩ : ByteArray)] : List ByteArray)) (inner := [.string (⟨#[97]⟩ : ByteArray), .string (⟨#[98]⟩ : ByteArray), .string (⟨#[97, 47, 98]⟩ : ByteArray), .string (⟨#[47, 47, 97]⟩ : ByteArray), .string (⟨#[47, 47, 98]⟩ : ByteArray), .string (⟨#[47, 47, 97, 47, 98]⟩ : ByteArray), .string (⟨#[99, 47, 97]⟩ : ByteArray), .string (⟨#[97, 47]⟩ : ByteArray), .string (⟨#[]⟩ : ByteArray), .string (⟨#[47, 47]⟩ : ByteArray), .string (⟨#[47, 97]⟩ : ByteArray), .string (⟨#[65]⟩ : ByteArray)]) (ok := fun _ => True) (okp := fun _ => True) ?hr ?hp (fun _ hk => hk) trivial (Below.refl _ _) (Nat.le_refl _) dq28 ?_; (case hd => rfl); (case hg => rfl); (case hr => exact dq0); (case hp => exact (Reps.one (show Kd.M Kd.string _ _ _ (⟨#[97]⟩ : ByteArray) [.string (⟨#[97]⟩ : ByteArray)] from rfl) (Reps.one (show Kd.M Kd.string _ _ _ (⟨#[98]⟩ : ByteArray) [.string (⟨#[98]⟩ : ByteArray)] from rfl) (Reps.one (show Kd.M Kd.string _ _ _ (⟨#[97, 47, 98]⟩ : ByteArray) [.string (⟨#[97, 47, 98]⟩ : ByteArray)] from rfl) (Reps.one (show Kd.M Kd.string _ _ _ (⟨#[47, 47, 97]⟩ : ByteArray) [.string (⟨#[47, 47, 97]⟩ : ByteArray)] from rfl) (Reps.one (show Kd.M Kd.string _ _ _ (⟨#[47, 47, 98]⟩ : ByteArray) [.string (⟨#[47, 47, 98]⟩ : ByteArray)] from rfl) (Reps.one (show Kd.M Kd.string _ _ _ (⟨#[47, 47, 97, 47, 98]⟩ : ByteArray) [.string (⟨#[47, 47, 97, 47, 98]⟩ : ByteArray)] from rfl) (Reps.one (show Kd.M Kd.string _ _ _ (⟨#[99, 47, 97]⟩ : ByteArray) [.string (⟨#[99, 47, 97]⟩ : ByteArray)] from rfl) (Reps.one (show Kd.M Kd.string _ _ _ (⟨#[97, 47]⟩ : ByteArray) [.string (⟨#[97, 47]⟩ : ByteArray)] from rfl) (Reps.one (show Kd.M Kd.string _ _ _ (⟨#[]⟩ : ByteArray) [.string (⟨#[]⟩ : ByteArray)] from rfl) (Reps.one (show Kd.M Kd.string _ _ _ (⟨#[47, 47]⟩ : ByteArray) [.string (⟨#[47, 47]⟩ : ByteArray)] from rfl) (Reps.one (show Kd.M Kd.string _ _ _ (⟨#[47, 97]⟩ : ByteArray) [.string (⟨#[47, 97]⟩ : ByteArray)] from rfl) (Reps.one (show Kd.M Kd.string _ _ _ (⟨#[65]⟩ : ByteArray) [.string (⟨#[65]⟩ : ByteArray)] from rfl) (Reps.none _ _)))))))))))))); intro v521 w5 ho6 hb hg_ hnew_; clear hg_ hnew_; (first | rw [← Ny520.out] at ho6 | (simp only [Int.reduceToNat] at ho6; rw [← Ny520.out] at ho6)); have n0_ := Aside0.mk (Kd.R_lower ho6 (keep_size (w := w) (g := g) (row := none) dq97)); have n1_ := Aside0.mk (IsS99.below dq99 hb); have n2_ := Aside0.mk (KeepBut.trans dq97 (KeepBut.of_below hb g none) (.inl rfl)); have n3_ := Aside0.mk (below_step dq98 hb); clear HI0; clear HK; clear HB; have HO522 := n0_; have HI0 := n1_; have HK := n2_; have HB := n3_; clear n0_ n1_ n2_ n3_; clear hb ho6) | ((with_reducible refine gate_callee (f := 63) rfl ?_); refine goesL_ (some 5) rfl rfl Tryd.func63 dq30 rfl #[.pointer (some ⟨g, 0, none⟩), .int .i64 12] rfl dq29 ?_; (with_reducible refine (spec_l1Rd_below.calls g s0_0 s0_1 12 t523 t524 w0 _ ?side1 ?side2 A2.out).mono ?_); (case side1 => exact dq7); (case side2 => exact dq8); rintro e w7 ⟨rfl, hi, hb, hk⟩; refine ⟨_, rfl, ?_⟩; have n0_ := Aside0.mk (Kd.R_mono (Kd.R_keep (IsS99.apart (show IsS99 w0 _ g s0_0 s0_1 from by repeat (first | (with_reducible first | exact HI0.out | apply IsS99.alloc | apply IsS99.drewN | apply IsS99.drew | apply IsS99.set_1) | exact HI0.out)) (by (with_reducible repeat (first | apply Kd.R_alloc | apply Kd.R_drewN | apply Kd.R_drew)); exact HO522.out) dq37) hk (fun _ h => h.2)) (fun _ h => h.1)); have n1_ := Aside0.mk (KeepBut.trans dq97 hk (.inl rfl)); have n2_ := Aside0.mk (hb); have n3_ := Aside0.mk (hi); clear HO522; clear HK; clear HB; clear HI0; have HO522 := n0_; have HK := n1_; have HB := n2_; have HI0 := n3_; clear n0_ n1_ n2_ n3_; (try clear hb); (try clear hb2); (try clear hk); (try clear hi); obtain ⟨Ao8, co8, eo8⟩ := Kd.R_slice HO522.out; subst eo8; have p525 : 0 ≤ (t523 : Int) := of_decide_eq_true dq26; have q525 : t523 < (y520.length : Int) := of_decide_eq_true dq26; obtain ⟨ad525, e525, hx525_0⟩ := Kd.at_string (Kd.R_reads' HO522.out).2.2 t523 p525 q525; cases e525; replace p525 := eq_true p525; replace q525 := eq_true q525))
 go_ret
 exact ⟨dq35, dq99, dq98, dq97⟩

/-! ### spec_DrawSelect: function 19 -/
def spec_DrawSelect.j0 : Nat → List (S39) → List Int → Int → Option ((List (S39)) × Int × ByteArray)
 | 0, _, _, _ => none
 | k + 1, x6, x529000, x529001 => (spec_l1Rd_once.f x529000 x529001 3).bind fun bt539 => (if bt539.1 = true then ((spec_l1Rd_off.f k x529000 bt539.2 0 (wrap64 ((x6.length : Int) - 1))).bind fun bt541 => ((spec_l1Rd_path.f x529000 bt541.2).bind fun bt543 => (some (x6, bt541.1, bt543.1)))) else ((spec_l1Rd_path.f x529000 bt539.2).bind fun bt545 => (some (x6, 0, bt545.1))))
def spec_DrawSelect.f (k : Nat) (l0 : List Int) : Option ((List (S39)) × Int × ByteArray) := (spec_l1Open.f l0).bind fun bt526 => ((spec_l1Rd_flat.f k bt526.1 bt526.2).bind fun bt529 => ((spec_l1Rd_once.f bt526.1 bt529.2 3).bind fun bt533 => (if bt533.1 = true then ((spec_l1Rd_doc.f k bt526.1 bt533.2).bind fun bt535 => (spec_DrawSelect.j0 k bt535.1 bt526.1 bt535.2)) else (spec_DrawSelect.j0 k bt529.1 bt526.1 bt533.2))))
set_option maxHeartbeats 8000000 in
set_option maxRecDepth 100000 in
theorem spec_DrawSelect.calls (k : Nat) (A0 : Option Addr) (c0 : Nat) (l0 : List Int) (r1 : List (S39)) (r2 : Int) (r3 : ByteArray) (w : World) (hr0 : Kd.C (Kd.int .u8) w A0 l0.length l0) (hc0 : l0.length ≤ c0) (h : spec_DrawSelect.f k l0 = some (r1, r2, r3)) :
  Calls Tryd.prog 19 #[.slice A0 l0.length c0] w fun e w' => ∃ v0_ : Value, e = .returned (.tuple #[v0_, .int .i64 r2, .string r3]) ∧ Kd.S k39 39 w' w.heap.size (fun _ => True) v0_ r1 ∧ Below w.heap.size w w' := by
 have HR0 := Aside0.mk hr0
 have HC0 := Aside0.mk hc0
 clear hr0 hc0
 have HB := Aside0.mk (Below.refl w.heap.size w)
 have H : ((spec_l1Open.f l0).bind fun bt526 => ((spec_l1Rd_flat.f k bt526.1 bt526.2).bind fun bt529 => ((spec_l1Rd_once.f bt526.1 bt529.2 3).bind fun bt533 => (if bt533.1 = true then ((spec_l1Rd_doc.f k bt526.1 bt533.2).bind fun bt535 => (spec_DrawSelect.j0 k bt535.1 bt526.1 bt535.2)) else (spec_DrawSelect.j0 k bt529.1 bt526.1 bt533.2))))) = some (r1, r2, r3) := h
 clear h
 replace H := Option.bind_eq_some_iff.mp H
 obtain ⟨⟨t526, t527⟩, A20, H⟩ := H
 replace H : ((spec_l1Rd_flat.f k t526 t527).bind fun bt529 => ((spec_l1Rd_once.f t526 bt529.2 3).bind fun bt533 => (if bt533.1 = true then ((spec_l1Rd_doc.f k t526 bt533.2).bind fun bt535 => (spec_DrawSelect.j0 k bt535.1 t526 bt535.2)) else (spec_DrawSelect.j0 k bt529.1 t526 bt533.2)))) = some (r1, r2, r3) := H
 have A2 := Aside0.mk A20
 clear A20
 replace H := Option.bind_eq_some_iff.mp H
 obtain ⟨⟨t529, t532⟩, A30, H⟩ := H
 replace H : ((spec_l1Rd_once.f t526 t532 3).bind fun bt533 => (if bt533.1 = true then ((spec_l1Rd_doc.f k t526 bt533.2).bind fun bt535 => (spec_DrawSelect.j0 k bt535.1 t526 bt535.2)) else (spec_DrawSelect.j0 k t529 t526 bt533.2))) = some (r1, r2, r3) := H
 have A3 := Aside0.mk A30
 clear A30
 replace H := Option.bind_eq_some_iff.mp H
 obtain ⟨⟨t533, t534⟩, A40, H⟩ := H
 replace H : (if t533 = true then ((spec_l1Rd_doc.f k t526 t534).bind fun bt535 => (spec_DrawSelect.j0 k bt535.1 t526 bt535.2)) else (spec_DrawSelect.j0 k t529 t526 t534)) = some (r1, r2, r3) := H
 have A4 := Aside0.mk A40
 clear A40
 have HC5 := Aside0.mk H
 clear H
 go_enter Tryd.func19, Tryd.ntmps19
 go_upto_if 13 with (first | ((with_reducible refine gate_callee (f := 50) rfl ?_); refine goesL_ (some 9) rfl rfl Tryd.func50 dq30 rfl #[.slice A0 l0.length c0] rfl dq29 ?_; (with_reducible refine (spec_l1Open.calls _ _ l0 t526 t527 w _ ?side1 ?side2 ?side3 A2.out).mono ?_); (case side1 => repeat (first | (with_reducible first | exact HB.out | apply below_alloc | apply pw_below_drewN | apply below_drew1) | exact HB.out)); (case side2 => exact HR0.out); (case side3 => exact HC0.out); rintro e w6 ⟨g528, rfl, hi, hb, hb2⟩; refine ⟨_, rfl, ?_⟩; have n0_ := Aside0.mk (hb); have n1_ := Aside0.mk (hi); clear HB; have HB := n0_; have HI528 := n1_; clear n0_ n1_; (try clear hb); (try clear hb2); (try clear hk); (try clear hi)) | ((with_reducible refine gate_callee (f := 51) rfl ?_); refine goesL_ (some 11) rfl rfl Tryd.func51 dq30 rfl #[.pointer (some ⟨g528, 0, none⟩)] rfl dq29 ?_; (with_reducible refine (spec_l1Rd_flat.calls k g528 t526 t527 t529 t532 w _ ?side1 ?side2 A3.out).mono ?_); (case side1 => exact dq17); (case side2 => exact dq18); rintro e w7 ⟨v530, rfl, ho0, hi, hb, hk⟩; refine ⟨_, rfl, ?_⟩; have n0_ := Aside0.mk (Kd.S_lower ho0 (below_size dq136)); have n1_ := Aside0.mk (hb); have n2_ := Aside0.mk (hi); clear HB; clear HI528; have HO531 := n0_; have HB := n1_; have HI528 := n2_; clear n0_ n1_ n2_; (try clear hb); (try clear hb2); (try clear hk); (try clear hi); (try clear ho0)) | ((with_reducible refine gate_callee (f := 52) rfl ?_); refine goesL_ (some 13) rfl rfl Tryd.func52 dq30 rfl #[.pointer (some ⟨g528, 0, none⟩), .int .i64 3] rfl dq29 ?_; (with_reducible refine (spec_l1Rd_once.calls g528 t526 t532 3 t533 t534 w _ ?side1 ?side2 A4.out).mono ?_); (case side1 => exact dq17); (case side2 => exact dq18); rintro e w8 ⟨rfl, hi, hb, hk⟩; refine ⟨_, rfl, ?_⟩; have n0_ := Aside0.mk (Kd.S_mono (Kd.S_keep (IsS99.apartS (show IsS99 w _ g528 t526 t532 from by repeat (first | (with_reducible first | exact HI528.out | apply IsS99.alloc | apply IsS99.drewN | apply IsS99.drew | apply IsS99.set_1) | exact HI528.out)) dq135 dq37) hk (fun _ h => h.2)) (fun _ h => h.1)); have n1_ := Aside0.mk (hb); have n2_ := Aside0.mk (hi); clear HO531; clear HB; clear HI528; have HO531 := n0_; have HB := n1_; have HI528 := n2_; clear n0_ n1_ n2_; (try clear hb); (try clear hb2); (try clear hk); (try clear hi)))
 (try simp only [Act.put, List.setIfInBounds_toArray, List.set_cons_zero, List.set_cons_succ])
 go_cut [6] (fun v6 wc => ∃ (kq : Nat) (x6_4 : List (S39)) (x529001_4 : Int), Aside0 (spec_DrawSelect.j0 kq x6_4 t526 x529001_4 = some (r1, r2, r3)) ∧ Aside0 (kq ≤ k) ∧ Aside0 (Kd.S k39 39 wc w.heap.size (fun _ => True) v6 x6_4) ∧ Aside0 (IsS99 w wc g528 t526 x529001_4) ∧ Aside0 (Below w.heap.size w wc))
 case first =>
  have H := HC5.out
  clear HC5
  by_cases c9 : t533 = true
  rotate_left
  ·replace c9 := Bool.eq_false_iff.mpr c9
   subst c9
   have H1 : (spec_DrawSelect.j0 k t529 t526 t534) = some (r1, r2, r3) := by rw [if_neg (show ¬ (false = true) by decide)] at H; exact H
   clear H
   have H := H1
   clear H1
   have H' := Aside0.mk H
   clear H
   go_wp2
   go_meet
   case rel => exact ⟨_, (t529), (t534), H', ⟨dq32⟩, ⟨dq135⟩, ⟨dq137⟩, ⟨dq136⟩⟩
  subst c9
  have H1 : ((spec_l1Rd_doc.f k t526 t534).bind fun bt535 => (spec_DrawSelect.j0 k bt535.1 t526 bt535.2)) = some (r1, r2, r3) := by rw [if_pos rfl] at H; exact H
  clear H
  have H := H1
  clear H1
  replace H := Option.bind_eq_some_iff.mp H
  obtain ⟨⟨t535, t538⟩, A100, H⟩ := H
  replace H : (spec_DrawSelect.j0 k t535 t526 t538) = some (r1, r2, r3) := H
  have A10 := Aside0.mk A100
  clear A100
  have H' := Aside0.mk H
  clear H
  go_wp2_with (first | ((with_reducible refine gate_callee (f := 53) rfl ?_); refine goesL_ (some 15) rfl rfl Tryd.func53 dq30 rfl #[.pointer (some ⟨g528, 0, none⟩)] rfl dq29 ?_; (with_reducible refine (spec_l1Rd_doc.calls k g528 t526 t534 t535 t538 w _ ?side1 ?side2 A10.out).mono ?_); (case side1 => exact dq17); (case side2 => exact dq18); rintro e w11 ⟨v536, rfl, ho0, hi, hb, hk⟩; refine ⟨_, rfl, ?_⟩; have n0_ := Aside0.mk (Kd.S_mono (Kd.S_told (Kd.S_oldK (IsS99.apartS (show IsS99 w _ g528 t526 t534 from by repeat (first | (with_reducible first | exact HI528.out | apply IsS99.alloc | apply IsS99.drewN | apply IsS99.drew | apply IsS99.set_1) | exact HI528.out)) dq135 dq37) hk) (Kd.S_base ho0)) (fun _ h_ => h_.1)); have n1_ := Aside0.mk (Kd.S_lower (Kd.S_new' ho0 (Kd.S_lt dq135)) (below_size dq136)); have n2_ := Aside0.mk (hb); have n3_ := Aside0.mk (hi); clear HO531; clear HB; clear HI528; have HO531 := n0_; have HO537 := n1_; have HB := n2_; have HI528 := n3_; clear n0_ n1_ n2_ n3_; (try clear hb); (try clear hb2); (try clear hk); (try clear hi); (try clear ho0)))
  go_meet
  case rel => exact ⟨_, (t535), (t538), H', ⟨dq32⟩, ⟨by (with_reducible repeat (first | apply Kd.S_alloc | apply Kd.S_drewN | apply Kd.S_drew)); exact Kd.S_mono HO537.out (fun _ hk => trivial)⟩, ⟨dq137⟩, ⟨dq136⟩⟩
 clear HC5
 obtain ⟨kq, x6_4, x529001_4, HA, HJ4, HO_6, HI528, HB⟩ := hcut
 cases kq with
 | zero => exact absurd HA.out (by simp [spec_DrawSelect.j0])
 | succ kj4 =>
  have H := HA.out
  clear HA
  simp only [spec_DrawSelect.j0] at H
  replace H := Option.bind_eq_some_iff.mp H
  obtain ⟨⟨t539, t540⟩, A120, H⟩ := H
  replace H : (if t539 = true then ((spec_l1Rd_off.f kj4 t526 t540 0 (wrap64 ((x6_4.length : Int) - 1))).bind fun bt541 => ((spec_l1Rd_path.f t526 bt541.2).bind fun bt543 => (some (x6_4, bt541.1, bt543.1)))) else ((spec_l1Rd_path.f t526 t540).bind fun bt545 => (some (x6_4, 0, bt545.1)))) = some (r1, r2, r3) := H
  have A12 := Aside0.mk A120
  clear A120
  by_cases c13 : t539 = true
  rotate_left
  ·replace c13 := Bool.eq_false_iff.mpr c13
   subst c13
   have H1 : ((spec_l1Rd_path.f t526 t540).bind fun bt545 => (some (x6_4, 0, bt545.1))) = some (r1, r2, r3) := by rw [if_neg (show ¬ (false = true) by decide)] at H; exact H
   clear H
   have H := H1
   clear H1
   replace H := Option.bind_eq_some_iff.mp H
   obtain ⟨⟨t545, t546⟩, A200, H⟩ := H
   replace H : (some (x6_4, 0, t545)) = some (r1, r2, r3) := H
   have A20 := Aside0.mk A200
   clear A200
   simp only [Option.some.injEq, Prod.mk.injEq] at H
   obtain ⟨rfl, rfl, rfl⟩ := H
   go_wp2_with (first | ((with_reducible refine gate_callee (f := 52) rfl ?_); refine goesL_ (some 17) rfl rfl Tryd.func52 dq30 rfl #[.pointer (some ⟨g528, 0, none⟩), .int .i64 3] rfl dq29 ?_; (with_reducible refine (spec_l1Rd_once.calls g528 t526 x529001_4 3 false t540 w _ ?side1 ?side2 A12.out).mono ?_); (case side1 => exact dq17); (case side2 => exact dq18); rintro e w21 ⟨rfl, hi, hb, hk⟩; refine ⟨_, rfl, ?_⟩; have n0_ := Aside0.mk (Kd.S_mono (Kd.S_keep (IsS99.apartS (show IsS99 w _ g528 t526 x529001_4 from by repeat (first | (with_reducible first | exact HI528.out | apply IsS99.alloc | apply IsS99.drewN | apply IsS99.drew | apply IsS99.set_1) | exact HI528.out)) dq138 dq37) hk (fun _ h => h.2)) (fun _ h => h.1)); have n1_ := Aside0.mk (hb); have n2_ := Aside0.mk (hi); clear HO_6; clear HB; clear HI528; have HO_6 := n0_; have HB := n1_; have HI528 := n2_; clear n0_ n1_ n2_; (try clear hb); (try clear hb2); (try clear hk); (try clear hi)) | ((with_reducible refine gate_callee (f := 55) rfl ?_); refine goesL_ (some 26) rfl rfl Tryd.func55 dq30 rfl #[.pointer (some ⟨g528, 0, none⟩)] rfl dq29 ?_; (with_reducible refine (spec_l1Rd_path.calls g528 t526 t540 t545 t546 w _ ?side1 ?side2 A20.out).mono ?_); (case side1 => exact dq17); (case side2 => exact dq18); rintro e w22 ⟨rfl, hi, hb, hk⟩; refine ⟨_, rfl, ?_⟩; have n0_ := Aside0.mk (Kd.S_mono (Kd.S_keep (IsS99.apartS (show IsS99 w _ g528 t526 t540 from by repeat (first | (with_reducible first | exact HI528.out | apply IsS99.alloc | apply IsS99.drewN | apply IsS99.drew | apply IsS99.set_1) | exact HI528.out)) dq138 dq37) hk (fun _ h => h.2)) (fun _ h => h.1)); have n1_ := Aside0.mk (hb); have n2_ := Aside0.mk (hi); clear HO_6; clear HB; clear HI528; have HO_6 := n0_; have HB := n1_; have HI528 := n2_; clear n0_ n1_ n2_; (try clear hb); (try clear hb2); (try clear hk); (try clear hi)))
   go_ret3
   exact ⟨_, dq35, dq138, dq136⟩
  subst c13
  have H1 : ((spec_l1Rd_off.f kj4 t526 t540 0 (wrap64 ((x6_4.length : Int) - 1))).bind fun bt541 => ((spec_l1Rd_path.f t526 bt541.2).bind fun bt543 => (some (x6_4, bt541.1, bt543.1)))) = some (r1, r2, r3) := by rw [if_pos rfl] at H; exact H
  clear H
  have H := H1
  clear H1
  replace H := Option.bind_eq_some_iff.mp H
  obtain ⟨⟨t541, t542⟩, A140, H⟩ := H
  replace H : ((spec_l1Rd_path.f t526 t542).bind fun bt543 => (some (x6_4, t541, bt543.1))) = some (r1, r2, r3) := H
  have A14 := Aside0.mk A140
  clear A140
  replace H := Option.bind_eq_some_iff.mp H
  obtain ⟨⟨t543, t544⟩, A150, H⟩ := H
  replace H : (some (x6_4, t541, t543)) = some (r1, r2, r3) := H
  have A15 := Aside0.mk A150
  clear A150
  simp only [Option.some.injEq, Prod.mk.injEq] at H
  obtain ⟨rfl, rfl, rfl⟩ := H
  go_wp2_with (first | ((with_reducible refine gate_callee (f := 52) rfl ?_); refine goesL_ (some 17) rfl rfl Tryd.func52 dq30 rfl #[.pointer (some ⟨g528, 0, none⟩), .int .i64 3] rfl dq29 ?_; (with_reducible refine (spec_l1Rd_once.calls g528 t526 x529001_4 3 true t540 w _ ?side1 ?side2 A12.out).mono ?_); (case side1 => exact dq17); (case side2 => exact dq18); rintro e w16 ⟨rfl, hi, hb, hk⟩; refine ⟨_, rfl, ?_⟩; have n0_ := Aside0.mk (Kd.S_mono (Kd.S_keep (IsS99.apartS (show IsS99 w _ g528 t526 x529001_4 from by repeat (first | (with_reducible first | exact HI528.out | apply IsS99.alloc | apply IsS99.drewN | apply IsS99.drew | apply IsS99.set_1) | exact HI528.out)) dq138 dq37) hk (fun _ h => h.2)) (fun _ h => h.1)); have n1_ := Aside0.mk (hb); have n2_ := Aside0.mk (hi); clear HO_6; clear HB; clear HI528; have HO_6 := n0_; have HB := n1_; have HI528 := n2_; clear n0_ n1_ n2_; (try clear hb); (try clear hb2); (try clear hk); (try clear hi); obtain ⟨Ao17, co17, eo17⟩ := Kd.S_slice HO_6.out; subst eo17) | ((with_reducible refine gate_callee (f := 54) rfl ?_); refine goesL_ (some 22) rfl rfl Tryd.func54 dq30 rfl #[.pointer (some ⟨g528, 0, none⟩), .int .i64 0, .int .i64 (wrap64 ((x6_4.length : Int) - 1))] rfl dq29 ?_; (with_reducible refine (spec_l1Rd_off.calls kj4 g528 t526 t540 0 (wrap64 ((x6_4.length : Int) - 1)) t541 t542 w _ ?side1 ?side2 A14.out).mono ?_); (case side1 => exact dq17); (case side2 => exact dq18); rintro e w18 ⟨rfl, hi, hb, hk⟩; refine ⟨_, rfl, ?_⟩; have n0_ := Aside0.mk (Kd.S_mono (Kd.S_keep (IsS99.apartS (show IsS99 w _ g528 t526 t540 from by repeat (first | (with_reducible first | exact HI528.out | apply IsS99.alloc | apply IsS99.drewN | apply IsS99.drew | apply IsS99.set_1) | exact HI528.out)) dq138 dq37) hk (fun _ h => h.2)) (fun _ h => h.1)); have n1_ := Aside0.mk (hb); have n2_ := Aside0.mk (hi); clear HO_6; clear HB; clear HI528; have HO_6 := n0_; have HB := n1_; have HI528 := n2_; clear n0_ n1_ n2_; (try clear hb); (try clear hb2); (try clear hk); (try clear hi)) | ((with_reducible refine gate_callee (f := 55) rfl ?_); refine goesL_ (some 26) rfl rfl Tryd.func55 dq30 rfl #[.pointer (some ⟨g528, 0, none⟩)] rfl dq29 ?_; (with_reducible refine (spec_l1Rd_path.calls g528 t526 t542 t543 t544 w _ ?side1 ?side2 A15.out).mono ?_); (case side1 => exact dq17); (case side2 => exact dq18); rintro e w19 ⟨rfl, hi, hb, hk⟩; refine ⟨_, rfl, ?_⟩; have n0_ := Aside0.mk (Kd.S_mono (Kd.S_keep (IsS99.apartS (show IsS99 w _ g528 t526 t542 from by repeat (first | (with_reducible first | exact HI528.out | apply IsS99.alloc | apply IsS99.drewN | apply IsS99.drew | apply IsS99.set_1) | exact HI528.out)) dq138 dq37) hk (fun _ h => h.2)) (fun _ h => h.1)); have n1_ := Aside0.mk (hb); have n2_ := Aside0.mk (hi); clear HO_6; clear HB; clear HI528; have HO_6 := n0_; have HB := n1_; have HI528 := n2_; clear n0_ n1_ n2_; (try clear hb); (try clear hb2); (try clear hk); (try clear hi)))
  go_ret3
  exact ⟨_, dq35, dq138, dq136⟩

/-! ### laws_sameInts: function 20 -/
def laws_sameInts.l0 : Nat → List Int → List Int → Int → Option (Bool)
 | 0, _, _, _ => none
 | k + 1, x0, x1, x5 => if x5 < (x0.length : Int) then (if 0 ≤ x5 then (if x5 < (x1.length : Int) then (if (rd x0 x5) = (rd x1 x5) then (laws_sameInts.l0 k x0 x1 (wrap64 (x5 + 1))) else (some false)) else (none)) else (none)) else (some true)
def laws_sameInts.f (k : Nat) (l0 : List Int) (l1 : List Int) : Option (Bool) := if (l0.length : Int) = (l1.length : Int) then (laws_sameInts.l0 k l0 l1 0) else (some false)
set_option maxHeartbeats 8000000 in
set_option maxRecDepth 100000 in
theorem laws_sameInts.calls (k : Nat) (A0 : Option Addr) (c0 : Nat) (l0 : List Int) (A1 : Option Addr) (c1 : Nat) (l1 : List Int) (r : Bool) (w : World) (hr0 : Kd.C (Kd.int .i64) w A0 l0.length l0) (hc0 : l0.length ≤ c0) (hr1 : Kd.C (Kd.int .i64) w A1 l1.length l1) (hc1 : l1.length ≤ c1) (h : laws_sameInts.f k l0 l1 = some r) :
  Calls Tryd.prog 20 #[.slice A0 l0.length c0, .slice A1 l1.length c1] w fun e w' => e = .returned (.bool r) ∧ Drawn0 w w' := by
 have HR0 := Aside0.mk hr0
 have HC0 := Aside0.mk hc0
 clear hr0 hc0
 have HR1 := Aside0.mk hr1
 have HC1 := Aside0.mk hc1
 clear hr1 hc1
 have H : (if (l0.length : Int) = (l1.length : Int) then (laws_sameInts.l0 k l0 l1 0) else (some false)) = some r := h
 clear h
 by_cases c3 : (l0.length : Int) = (l1.length : Int)
 rotate_left
 ·rw [if_neg c3] at H
  have c3b0 := beq_eq_false_iff_ne.mpr c3
  have c3b1 := bne_iff_ne.mpr c3
  have c3b2 : (l0.length == l1.length) = false := by first | simpa using c3 | (simp at c3 ⊢; omega)
  obtain rfl := Option.some.inj H
  go_enter Tryd.func20, Tryd.ntmps20
  go_wp2
  repeat (go_quiet (fail); try go_wp2)
  go_ret
  exact ⟨dq25, dq24⟩
 rw [if_pos c3] at H
 have c3b0 := beq_iff_eq.mpr c3
 have c3b1 := bne_eq_false_iff_eq.mpr c3
 have c3b2 : (l0.length == l1.length) = true := by first | simpa using c3 | (simp at c3 ⊢; omega)
 clear c3
 have H' := Aside0.mk H
 clear H
 go_enter Tryd.func20, Tryd.ntmps20
 go_wp2
 repeat (go_quiet (fail); try go_wp2)
 go_loopg [5] k (fun kq v5 w' => ∃ (x5_1 : Int), v5 = .int .i64 x5_1 ∧ Aside0 (laws_sameInts.l0 kq l0 l1 x5_1 = some r) ∧ Aside0 (kq ≤ k) ∧ Drawn0 w w')
 case atStart => exact ⟨(0), dq25, H', ⟨Nat.le_refl _⟩, dq24⟩
 clear H'
 try clear c1
 try clear c2
 try clear p2
 try clear c3
 try clear c3b0
 try clear c3b1
 try clear c3b2
 obtain ⟨x5_1, rfl, HA, HK1, ⟨m1, rfl⟩⟩ := hrel
 cases gk with
 | zero => exact absurd HA.out (by simp [laws_sameInts.l0])
 | succ k1 =>
  have H := HA.out
  clear HA
  simp only [laws_sameInts.l0] at H
  by_cases c4 : x5_1 < (l0.length : Int)
  rotate_left
  ·rw [if_neg c4] at H
   have c4b0 := decide_eq_false c4
   clear c4
   obtain rfl := Option.some.inj H
   go_wp2
   repeat (go_quiet (fail); try go_wp2)
   go_ret
   exact ⟨dq25, dq24⟩
  rw [if_pos c4] at H
  have c4b0 := decide_eq_true c4
  clear c4
  by_cases c5 : 0 ≤ x5_1
  rotate_left
  ·rw [if_neg c5] at H
   exact absurd H dq28
  rw [if_pos c5] at H
  have c5b0 := decide_eq_true c5
  clear c5
  by_cases c6 : x5_1 < (l1.length : Int)
  rotate_left
  ·rw [if_neg c6] at H
   exact absurd H dq28
  rw [if_pos c6] at H
  have c6b0 := decide_eq_true c6
  clear c6
  by_cases c7 : (rd l0 x5_1) = (rd l1 x5_1)
  rotate_left
  ·rw [if_neg c7] at H
   have c7b0 := beq_eq_false_iff_ne.mpr c7
   have c7b1 := bne_iff_ne.mpr c7
   obtain rfl := Option.some.inj H
   have p547 : 0 ≤ (x5_1 : Int) := of_decide_eq_true dq26
   have q547 : x5_1 < (l0.length : Int) := of_decide_eq_true dq26
   obtain ⟨ad547, e547, hx547_0⟩ := Kd.at_int HR0.out x5_1 p547 q547
   cases e547
   replace p547 := eq_true p547
   replace q547 := eq_true q547
   have p548 : 0 ≤ (x5_1 : Int) := of_decide_eq_true dq26
   have q548 : x5_1 < (l1.length : Int) := of_decide_eq_true dq26
   obtain ⟨ad548, e548, hx548_0⟩ := Kd.at_int HR1.out x5_1 p548 q548
   cases e548
   replace p548 := eq_true p548
   replace q548 := eq_true q548
   go_wp2
   repeat (go_quiet (fail); try go_wp2)
   go_ret
   exact ⟨dq25, dq24⟩
  rw [if_pos c7] at H
  have c7b0 := beq_iff_eq.mpr c7
  have c7b1 := bne_eq_false_iff_eq.mpr c7
  clear c7
  have H' := Aside0.mk H
  clear H
  have p547 : 0 ≤ (x5_1 : Int) := of_decide_eq_true dq26
  have q547 : x5_1 < (l0.length : Int) := of_decide_eq_true dq26
  obtain ⟨ad547, e547, hx547_0⟩ := Kd.at_int HR0.out x5_1 p547 q547
  cases e547
  replace p547 := eq_true p547
  replace q547 := eq_true q547
  have p548 : 0 ≤ (x5_1 : Int) := of_decide_eq_true dq26
  have q548 : x5_1 < (l1.length : Int) := of_decide_eq_true dq26
  obtain ⟨ad548, e548, hx548_0⟩ := Kd.at_int HR1.out x5_1 p548 q548
  cases e548
  replace p548 := eq_true p548
  replace q548 := eq_true q548
  go_wp2
  repeat (go_quiet (fail); try go_wp2)
  go_roundg k1
  case measure => have := HK1.out; omega
  case rel => exact ⟨(wrap64 (x5_1 + 1)), dq25, H', ⟨dq27⟩, dq24⟩

/-! ### laws_has: function 25 -/
def laws_has.l0 : Nat → List Int → Int → Int → Option (Bool)
 | 0, _, _, _ => none
 | k + 1, x0, x1, x5 => if x5 < (x0.length : Int) then (if 0 ≤ x5 then (if (rd x0 x5) = x1 then (some true) else (laws_has.l0 k x0 x1 (wrap64 (x5 + 1)))) else (none)) else (some false)
def laws_has.f (k : Nat) (l0 : List Int) (a1 : Int) : Option (Bool) := laws_has.l0 k l0 a1 0
set_option maxHeartbeats 8000000 in
set_option maxRecDepth 100000 in
theorem laws_has.calls (k : Nat) (A0 : Option Addr) (c0 : Nat) (l0 : List Int) (a1 : Int) (r : Bool) (w : World) (hr0 : Kd.C (Kd.int .i64) w A0 l0.length l0) (hc0 : l0.length ≤ c0) (h : laws_has.f k l0 a1 = some r) :
  Calls Tryd.prog 25 #[.slice A0 l0.length c0, .int .i64 a1] w fun e w' => e = .returned (.bool r) ∧ Drawn0 w w' := by
 have HR0 := Aside0.mk hr0
 have HC0 := Aside0.mk hc0
 clear hr0 hc0
 have H : (laws_has.l0 k l0 a1 0) = some r := h
 clear h
 have H' := Aside0.mk H
 clear H
 go_enter Tryd.func25, Tryd.ntmps25
 go_wp2
 go_loopg [5] k (fun kq v5 w' => ∃ (x5_1 : Int), v5 = .int .i64 x5_1 ∧ Aside0 (laws_has.l0 kq l0 a1 x5_1 = some r) ∧ Aside0 (kq ≤ k) ∧ Drawn0 w w')
 case atStart => exact ⟨(0), dq25, H', ⟨Nat.le_refl _⟩, dq24⟩
 clear H'
 try clear c2
 try clear p2
 obtain ⟨x5_1, rfl, HA, HK1, ⟨m1, rfl⟩⟩ := hrel
 cases gk with
 | zero => exact absurd HA.out (by simp [laws_has.l0])
 | succ k1 =>
  have H := HA.out
  clear HA
  simp only [laws_has.l0] at H
  by_cases c3 : x5_1 < (l0.length : Int)
  rotate_left
  ·rw [if_neg c3] at H
   have c3b0 := decide_eq_false c3
   clear c3
   obtain rfl := Option.some.inj H
   go_wp2
   go_ret
   exact ⟨dq25, dq24⟩
  rw [if_pos c3] at H
  have c3b0 := decide_eq_true c3
  clear c3
  by_cases c4 : 0 ≤ x5_1
  rotate_left
  ·rw [if_neg c4] at H
   exact absurd H dq28
  rw [if_pos c4] at H
  have c4b0 := decide_eq_true c4
  clear c4
  by_cases c5 : (rd l0 x5_1) = a1
  ·rw [if_pos c5] at H
   have c5b0 := beq_iff_eq.mpr c5
   have c5b1 := bne_eq_false_iff_eq.mpr c5
   clear c5
   obtain rfl := Option.some.inj H
   have p580 : 0 ≤ (x5_1 : Int) := of_decide_eq_true dq26
   have q580 : x5_1 < (l0.length : Int) := of_decide_eq_true dq26
   obtain ⟨ad580, e580, hx580_0⟩ := Kd.at_int HR0.out x5_1 p580 q580
   cases e580
   replace p580 := eq_true p580
   replace q580 := eq_true q580
   go_wp2
   go_ret
   exact ⟨dq25, dq24⟩
  rw [if_neg c5] at H
  have c5b0 := beq_eq_false_iff_ne.mpr c5
  have c5b1 := bne_iff_ne.mpr c5
  have H' := Aside0.mk H
  clear H
  have p580 : 0 ≤ (x5_1 : Int) := of_decide_eq_true dq26
  have q580 : x5_1 < (l0.length : Int) := of_decide_eq_true dq26
  obtain ⟨ad580, e580, hx580_0⟩ := Kd.at_int HR0.out x5_1 p580 q580
  cases e580
  replace p580 := eq_true p580
  replace q580 := eq_true q580
  go_wp2
  go_roundg k1
  case measure => have := HK1.out; omega
  case rel => exact ⟨(wrap64 (x5_1 + 1)), dq25, H', ⟨dq27⟩, dq24⟩

end Go.Proofs.YtpmjpbaeecnpiaaDoor.L
