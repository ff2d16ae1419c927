/- Words and contracts for the row RowFnKids: what the Go functions answer that it calls; printed by programs of the kit and of this session, and merged. -/
import Derived.Test.YtpmjpbaeecnpiaaDoorQk5
import Derived.Shelf.Strings.BuilderK
import Derived.Lib.Hide
import Derived.Outline
import Derived.Test.YtpmjpbaeecnpiaaDoorProg
namespace Go.Proofs.YtpmjpbaeecnpiaaDoor.L
open Go.RowKit Go.Proofs.YtpmjpbaeecnpiaaDoorW.PrintWords Go.Proofs.YtpmjpbaeecnpiaaDoorW.PrintLast Go.Proofs.YtpmjpbaeecnpiaaDoorW.PrintMore
attribute [local go_sem] max2_int min2_int max_two min_two max_three min_three max_four min_four
set_option linter.unusedVariables false
set_option linter.unusedSimpArgs false

/-! ### spec_l1Rd_doc: function 53 -/
def spec_l1Rd_doc.f (k : Nat) (s0_0 : List Int) (s0_1 : Int) : Option ((List (S39)) × Int) := (spec_l1Rd_name.f s0_0 s0_1).bind fun bt496 => ((spec_l1Rd_grow.f k s0_0 bt496.2 (([(⟨(-1), bt496.1, (⟨#[]⟩ : ByteArray), ([] : List (S46))⟩ : S39)] : List (S39))) 0 2).bind fun bt501 => ((spec_l1Rd_once.f s0_0 bt501.2 24).bind fun bt505 => (if bt505.1 = true then ((spec_l1Rd_below.f s0_0 bt505.2 (bt501.1.length : Int)).bind fun bt507 => ((spec_l1Rd_below.f s0_0 bt507.2 3).bind fun bt509 => (if bt509.1 = 0 then ((spec_l1Rd_off.f k s0_0 bt509.2 (-1) bt507.1).bind fun bt511 => (if 0 ≤ bt507.1 then (if bt507.1 < (bt501.1.length : Int) then (some ((bt501.1.set (bt507.1 : Int).toNat (⟨bt511.1, (rd_T39 bt501.1 bt507.1).f1, (rd_T39 bt501.1 bt507.1).f2, (rd_T39 bt501.1 bt507.1).f3⟩ : S39)), bt511.2)) else (none)) else (none))) else (if bt509.1 = 1 then ((spec_l1Rd_text.f s0_0 bt509.2).bind fun bt514 => (if 0 ≤ bt507.1 then (if bt507.1 < (bt501.1.length : Int) then (some ((bt501.1.set (bt507.1 : Int).toNat (⟨(rd_T39 bt501.1 bt507.1).f0, (rd_T39 bt501.1 bt507.1).f1, bt514.1, (rd_T39 bt501.1 bt507.1).f3⟩ : S39)), bt514.2)) else (none)) else (none))) else (if bt509.1 = 2 then ((spec_l1Rd_text.f s0_0 bt509.2).bind fun bt517 => (if 0 ≤ bt507.1 then (if bt507.1 < (bt501.1.length : Int) then (some ((bt501.1.set (bt507.1 : Int).toNat (⟨(rd_T39 bt501.1 bt507.1).f0, bt517.1, (rd_T39 bt501.1 bt507.1).f2, (rd_T39 bt501.1 bt507.1).f3⟩ : S39)), bt517.2)) else (none)) else (none))) else (some (bt501.1, bt509.2))))))) else (some (bt501.1, bt505.2)))))
set_option maxHeartbeats 8000000 in
set_option maxRecDepth 100000 in
theorem spec_l1Rd_doc.calls (k : Nat) (g : Nat) (s0_0 : List Int) (s0_1 : Int) (r1 : List (S39)) (r2 : Int) (w0 w : World) (hI : IsS99 w0 w g s0_0 s0_1) (hB : Below w0.heap.size w0 w) (h : spec_l1Rd_doc.f k s0_0 s0_1 = some (r1, r2)) :
  Calls Tryd.prog 53 #[.pointer (some ⟨g, 0, none⟩)] w fun e w' => ∃ v0_ : Value, e = .returned (v0_) ∧ Kd.S k39 39 w' w.heap.size (fun _ => True) v0_ r1 ∧ IsS99 w0 w' g s0_0 r2 ∧ Below w0.heap.size w0 w' ∧ KeepBut w w' g none := by
 have hu39 := Tryd.underlying39
 have HI0 := Aside0.mk hI
 have HK := Aside0.mk (KeepBut.refl w g none)
 have HL := Aside0.mk hB.size
 clear hI
 have HW0 := Aside0.mk hB.size
 have HB := Aside0.mk hB
 clear hB
 have H : ((spec_l1Rd_name.f s0_0 s0_1).bind fun bt496 => ((spec_l1Rd_grow.f k s0_0 bt496.2 (([(⟨(-1), bt496.1, (⟨#[]⟩ : ByteArray), ([] : List (S46))⟩ : S39)] : List (S39))) 0 2).bind fun bt501 => ((spec_l1Rd_once.f s0_0 bt501.2 24).bind fun bt505 => (if bt505.1 = true then ((spec_l1Rd_below.f s0_0 bt505.2 (bt501.1.length : Int)).bind fun bt507 => ((spec_l1Rd_below.f s0_0 bt507.2 3).bind fun bt509 => (if bt509.1 = 0 then ((spec_l1Rd_off.f k s0_0 bt509.2 (-1) bt507.1).bind fun bt511 => (if 0 ≤ bt507.1 then (if bt507.1 < (bt501.1.length : Int) then (some ((bt501.1.set (bt507.1 : Int).toNat (⟨bt511.1, (rd_T39 bt501.1 bt507.1).f1, (rd_T39 bt501.1 bt507.1).f2, (rd_T39 bt501.1 bt507.1).f3⟩ : S39)), bt511.2)) else (none)) else (none))) else (if bt509.1 = 1 then ((spec_l1Rd_text.f s0_0 bt509.2).bind fun bt514 => (if 0 ≤ bt507.1 then (if bt507.1 < (bt501.1.length : Int) then (some ((bt501.1.set (bt507.1 : Int).toNat (⟨(rd_T39 bt501.1 bt507.1).f0, (rd_T39 bt501.1 bt507.1).f1, bt514.1, (rd_T39 bt501.1 bt507.1).f3⟩ : S39)), bt514.2)) else (none)) else (none))) else (if bt509.1 = 2 then ((spec_l1Rd_text.f s0_0 bt509.2).bind fun bt517 => (if 0 ≤ bt507.1 then (if bt507.1 < (bt501.1.length : Int) then (some ((bt501.1.set (bt507.1 : Int).toNat (⟨(rd_T39 bt501.1 bt507.1).f0, bt517.1, (rd_T39 bt501.1 bt507.1).f2, (rd_T39 bt501.1 bt507.1).f3⟩ : S39)), bt517.2)) else (none)) else (none))) else (some (bt501.1, bt509.2))))))) else (some (bt501.1, bt505.2)))))) = some (r1, r2) := h
 clear h
 replace H := Option.bind_eq_some_iff.mp H
 obtain ⟨⟨t496, t497⟩, A20, H⟩ := H
 replace H : ((spec_l1Rd_grow.f k s0_0 t497 (([(⟨(-1), t496, (⟨#[]⟩ : ByteArray), ([] : List (S46))⟩ : S39)] : List (S39))) 0 2).bind fun bt501 => ((spec_l1Rd_once.f s0_0 bt501.2 24).bind fun bt505 => (if bt505.1 = true then ((spec_l1Rd_below.f s0_0 bt505.2 (bt501.1.length : Int)).bind fun bt507 => ((spec_l1Rd_below.f s0_0 bt507.2 3).bind fun bt509 => (if bt509.1 = 0 then ((spec_l1Rd_off.f k s0_0 bt509.2 (-1) bt507.1).bind fun bt511 => (if 0 ≤ bt507.1 then (if bt507.1 < (bt501.1.length : Int) then (some ((bt501.1.set (bt507.1 : Int).toNat (⟨bt511.1, (rd_T39 bt501.1 bt507.1).f1, (rd_T39 bt501.1 bt507.1).f2, (rd_T39 bt501.1 bt507.1).f3⟩ : S39)), bt511.2)) else (none)) else (none))) else (if bt509.1 = 1 then ((spec_l1Rd_text.f s0_0 bt509.2).bind fun bt514 => (if 0 ≤ bt507.1 then (if bt507.1 < (bt501.1.length : Int) then (some ((bt501.1.set (bt507.1 : Int).toNat (⟨(rd_T39 bt501.1 bt507.1).f0, (rd_T39 bt501.1 bt507.1).f1, bt514.1, (rd_T39 bt501.1 bt507.1).f3⟩ : S39)), bt514.2)) else (none)) else (none))) else (if bt509.1 = 2 then ((spec_l1Rd_text.f s0_0 bt509.2).bind fun bt517 => (if 0 ≤ bt507.1 then (if bt507.1 < (bt501.1.length : Int) then (some ((bt501.1.set (bt507.1 : Int).toNat (⟨(rd_T39 bt501.1 bt507.1).f0, bt517.1, (rd_T39 bt501.1 bt507.1).f2, (rd_T39 bt501.1 bt507.1).f3⟩ : S39)), bt517.2)) else (none)) else (none))) else (some (bt501.1, bt509.2))))))) else (some (bt501.1, bt505.2))))) = some (r1, r2) := H
 have A2 := Aside0.mk A20
 clear A20
 obtain ⟨y498, hy498⟩ : ∃ y_ : List (S39), y_ = (([(⟨(-1), t496, (⟨#[]⟩ : ByteArray), ([] : List (S46))⟩ : S39)] : List (S39))) := ⟨_, rfl⟩
 replace H : ((spec_l1Rd_grow.f k s0_0 t497 y498 0 2).bind fun bt501 => ((spec_l1Rd_once.f s0_0 bt501.2 24).bind fun bt505 => (if bt505.1 = true then ((spec_l1Rd_below.f s0_0 bt505.2 (bt501.1.length : Int)).bind fun bt507 => ((spec_l1Rd_below.f s0_0 bt507.2 3).bind fun bt509 => (if bt509.1 = 0 then ((spec_l1Rd_off.f k s0_0 bt509.2 (-1) bt507.1).bind fun bt511 => (if 0 ≤ bt507.1 then (if bt507.1 < (bt501.1.length : Int) then (some ((bt501.1.set (bt507.1 : Int).toNat (⟨bt511.1, (rd_T39 bt501.1 bt507.1).f1, (rd_T39 bt501.1 bt507.1).f2, (rd_T39 bt501.1 bt507.1).f3⟩ : S39)), bt511.2)) else (none)) else (none))) else (if bt509.1 = 1 then ((spec_l1Rd_text.f s0_0 bt509.2).bind fun bt514 => (if 0 ≤ bt507.1 then (if bt507.1 < (bt501.1.length : Int) then (some ((bt501.1.set (bt507.1 : Int).toNat (⟨(rd_T39 bt501.1 bt507.1).f0, (rd_T39 bt501.1 bt507.1).f1, bt514.1, (rd_T39 bt501.1 bt507.1).f3⟩ : S39)), bt514.2)) else (none)) else (none))) else (if bt509.1 = 2 then ((spec_l1Rd_text.f s0_0 bt509.2).bind fun bt517 => (if 0 ≤ bt507.1 then (if bt507.1 < (bt501.1.length : Int) then (some ((bt501.1.set (bt507.1 : Int).toNat (⟨(rd_T39 bt501.1 bt507.1).f0, bt517.1, (rd_T39 bt501.1 bt507.1).f2, (rd_T39 bt501.1 bt507.1).f3⟩ : S39)), bt517.2)) else (none)) else (none))) else (some (bt501.1, bt509.2))))))) else (some (bt501.1, bt505.2))))) = some (r1, r2) := by first | (rw [hy498]; with_reducible exact H) | (have H2_ := (Option.bind_some _ _).symm.trans H; rw [hy498]; with_reducible exact H2_) | (have H2_ := (Option.bind_some _ _).symm.trans H; with_reducible exact H2_) | with_reducible exact H | (rw [hy498]; exact H) | exact H
 have Ny498 := Aside0.mk hy498
 clear hy498
 replace H := Option.bind_eq_some_iff.mp H
 obtain ⟨⟨t501, t504⟩, A30, H⟩ := H
 replace H : ((spec_l1Rd_once.f s0_0 t504 24).bind fun bt505 => (if bt505.1 = true then ((spec_l1Rd_below.f s0_0 bt505.2 (t501.length : Int)).bind fun bt507 => ((spec_l1Rd_below.f s0_0 bt507.2 3).bind fun bt509 => (if bt509.1 = 0 then ((spec_l1Rd_off.f k s0_0 bt509.2 (-1) bt507.1).bind fun bt511 => (if 0 ≤ bt507.1 then (if bt507.1 < (t501.length : Int) then (some ((t501.set (bt507.1 : Int).toNat (⟨bt511.1, (rd_T39 t501 bt507.1).f1, (rd_T39 t501 bt507.1).f2, (rd_T39 t501 bt507.1).f3⟩ : S39)), bt511.2)) else (none)) else (none))) else (if bt509.1 = 1 then ((spec_l1Rd_text.f s0_0 bt509.2).bind fun bt514 => (if 0 ≤ bt507.1 then (if bt507.1 < (t501.length : Int) then (some ((t501.set (bt507.1 : Int).toNat (⟨(rd_T39 t501 bt507.1).f0, (rd_T39 t501 bt507.1).f1, bt514.1, (rd_T39 t501 bt507.1).f3⟩ : S39)), bt514.2)) else (none)) else (none))) else (if bt509.1 = 2 then ((spec_l1Rd_text.f s0_0 bt509.2).bind fun bt517 => (if 0 ≤ bt507.1 then (if bt507.1 < (t501.length : Int) then (some ((t501.set (bt507.1 : Int).toNat (⟨(rd_T39 t501 bt507.1).f0, bt517.1, (rd_T39 t501 bt507.1).f2, (rd_T39 t501 bt507.1).f3⟩ : S39)), bt517.2)) else (none)) else (none))) else (some (t501, bt509.2))))))) else (some (t501, bt505.2)))) = some (r1, r2) := H
 have A3 := Aside0.mk A30
 clear A30
 replace H := Option.bind_eq_some_iff.mp H
 obtain ⟨⟨t505, t506⟩, A40, H⟩ := H
 replace H : (if t505 = true then ((spec_l1Rd_below.f s0_0 t506 (t501.length : Int)).bind fun bt507 => ((spec_l1Rd_below.f s0_0 bt507.2 3).bind fun bt509 => (if bt509.1 = 0 then ((spec_l1Rd_off.f k s0_0 bt509.2 (-1) bt507.1).bind fun bt511 => (if 0 ≤ bt507.1 then (if bt507.1 < (t501.length : Int) then (some ((t501.set (bt507.1 : Int).toNat (⟨bt511.1, (rd_T39 t501 bt507.1).f1, (rd_T39 t501 bt507.1).f2, (rd_T39 t501 bt507.1).f3⟩ : S39)), bt511.2)) else (none)) else (none))) else (if bt509.1 = 1 then ((spec_l1Rd_text.f s0_0 bt509.2).bind fun bt514 => (if 0 ≤ bt507.1 then (if bt507.1 < (t501.length : Int) then (some ((t501.set (bt507.1 : Int).toNat (⟨(rd_T39 t501 bt507.1).f0, (rd_T39 t501 bt507.1).f1, bt514.1, (rd_T39 t501 bt507.1).f3⟩ : S39)), bt514.2)) else (none)) else (none))) else (if bt509.1 = 2 then ((spec_l1Rd_text.f s0_0 bt509.2).bind fun bt517 => (if 0 ≤ bt507.1 then (if bt507.1 < (t501.length : Int) then (some ((t501.set (bt507.1 : Int).toNat (⟨(rd_T39 t501 bt507.1).f0, bt517.1, (rd_T39 t501 bt507.1).f2, (rd_T39 t501 bt507.1).f3⟩ : S39)), bt517.2)) else (none)) else (none))) else (some (t501, bt509.2))))))) else (some (t501, t506))) = some (r1, r2) := H
 have A4 := Aside0.mk A40
 clear A40
 by_cases c5 : t505 = true
 rotate_left
 ·replace c5 := Bool.eq_false_iff.mpr c5
  subst c5
  have H1 : (some (t501, t506)) = some (r1, r2) := by rw [if_neg (show ¬ (false = true) by decide)] at H; exact H
  clear H
  have H := H1
  clear H1
  simp only [Option.some.injEq, Prod.mk.injEq] at H
  obtain ⟨rfl, rfl⟩ := H
  go_enter Tryd.func53, Tryd.ntmps53
  go_wp2_with (first | ((with_reducible refine gate_callee (f := 87) rfl ?_); refine goesL_ (some 7) rfl rfl Tryd.func87 dq29 rfl #[.pointer (some ⟨g, 0, none⟩)] rfl dq28 ?_; (with_reducible refine (spec_l1Rd_name.calls g s0_0 s0_1 t496 t497 w0 _ ?side1 ?side2 A2.out).mono ?_); (case side1 => exact dq6); (case side2 => exact dq7); rintro e w68 ⟨rfl, hi, hb, hk⟩; refine ⟨_, rfl, ?_⟩; have n0_ := Aside0.mk (KeepBut.trans dq62 hk (.inl rfl)); have n1_ := Aside0.mk (hb); have n2_ := Aside0.mk (hi); clear HK; clear HB; clear HI0; have HK := n0_; have HB := n1_; have HI0 := n2_; clear n0_ n1_ n2_; (try clear hb); (try clear hb2); (try clear hk); (try clear hi)) | ((with_reducible refine gate_dst (N := 9) rfl ?_); refine Kd.S_lit k39 _ 39 ?hg (N := 9) ?hd (xs := ([(⟨(-1), t496, (⟨#[]⟩ : ByteArray), ([] : List (S46))⟩ : S39)] : List (S39))) (inner := [.int .i64 (-1), .string t496, .string (⟨#[]⟩ : ByteArray), .slice none 0 0]) (ok := fun _ => True) (okp := fun _ => True) ?hr ?hp (fun _ hk => hk) trivial (Below.refl _ _) (Nat.le_refl _) dq32 ?_; (case hd => rfl); (case hg => rfl); (case hr => exact dq1); (case hp => exact (Reps.c4 (show Kd.M k39 _ _ _ (⟨(-1), t496, (⟨#[]⟩ : ByteArray), ([] : List (S46))⟩ : S39) [.int .i64 (-1), .string t496, .string (⟨#[]⟩ : ByteArray), .slice none 0 0] from (k39_mkM _ _ _ (⟨(-1), t496, (⟨#[]⟩ : ByteArray), ([] : List (S46))⟩ : S39) (Kd.R_nil _ _ _ _ _))) (Reps.none _ _))); intro v499 w69 ho70 hb hg_ hnew_; clear hg_ hnew_; (first | rw [← Ny498.out] at ho70 | (simp only [Int.reduceToNat] at ho70; rw [← Ny498.out] at ho70)); have n0_ := Aside0.mk (Kd.S_lower ho70 (keep_size (w := w) (g := g) (row := none) dq62)); have n1_ := Aside0.mk (IsS99.below dq64 hb); have n2_ := Aside0.mk (KeepBut.trans dq62 (KeepBut.of_below hb g none) (.inl rfl)); have n3_ := Aside0.mk (below_step dq63 hb); clear HI0; clear HK; clear HB; have HO500 := n0_; have HI0 := n1_; have HK := n2_; have HB := n3_; clear n0_ n1_ n2_ n3_; clear hb ho70; obtain ⟨Ao71, co71, eo71⟩ := Kd.S_slice HO500.out; subst eo71) | ((with_reducible refine gate_callee (f := 86) rfl ?_); refine goesL_ (some 10) rfl rfl Tryd.func86 dq29 rfl #[.pointer (some ⟨g, 0, none⟩), .slice Ao71 y498.length co71, .int .i64 0, .int .i64 2] rfl dq28 ?_; (with_reducible refine (spec_l1Rd_grow.calls k g s0_0 t497 (.slice Ao71 y498.length co71) (fun _ => True) y498 0 2 t501 t504 w0 w _ ?side1 ?side2 HL.out ?side4 ?side5 A3.out).mono ?_); (case side1 => exact dq6); (case side2 => exact dq7); (case side4 => exact dq12); (case side5 => exact dq13); rintro e w72 ⟨v502, rfl, ho0, hi, hb, hk⟩; refine ⟨_, rfl, ?_⟩; have n0_ := Aside0.mk ho0; have n1_ := Aside0.mk ho0; have n2_ := Aside0.mk hk; have n3_ := Aside0.mk (hb); have n4_ := Aside0.mk (hi); clear HO500; clear HK; clear HB; clear HI0; have HO500 := n0_; have HO503 := n1_; have HK := n2_; have HB := n3_; have HI0 := n4_; clear n0_ n1_ n2_ n3_ n4_; (try clear hb); (try clear hb2); (try clear hk); (try clear hi); (try clear ho0)) | ((with_reducible refine gate_callee (f := 52) rfl ?_); refine goesL_ (some 12) rfl rfl Tryd.func52 dq29 rfl #[.pointer (some ⟨g, 0, none⟩), .int .i64 24] rfl dq28 ?_; (with_reducible refine (spec_l1Rd_once.calls g s0_0 t504 24 false t506 w0 _ ?side1 ?side2 A4.out).mono ?_); (case side1 => exact dq6); (case side2 => exact dq7); rintro e w73 ⟨rfl, hi, hb, hk⟩; refine ⟨_, rfl, ?_⟩; have n0_ := Aside0.mk (Kd.S_mono (Kd.S_keep (IsS99.apartS (show IsS99 w0 _ g s0_0 t504 from by repeat (first | (with_reducible first | exact HI0.out | apply IsS99.alloc | apply IsS99.drewN | apply IsS99.drew | apply IsS99.set_1) | exact HI0.out)) dq88 dq60) hk (fun _ h => h.2)) (fun _ h => h.1)); have n1_ := Aside0.mk (Kd.S_mono (Kd.S_keep (IsS99.apartS (show IsS99 w0 _ g s0_0 t504 from by repeat (first | (with_reducible first | exact HI0.out | apply IsS99.alloc | apply IsS99.drewN | apply IsS99.drew | apply IsS99.set_1) | exact HI0.out)) dq87 dq60) hk (fun _ h => h.2)) (fun _ h => h.1)); have n2_ := Aside0.mk (KeepBut.trans dq62 hk (.inl rfl)); have n3_ := Aside0.mk (hb); have n4_ := Aside0.mk (hi); clear HO500; clear HO503; clear HK; clear HB; clear HI0; have HO500 := n0_; have HO503 := n1_; have HK := n2_; have HB := n3_; have HI0 := n4_; clear n0_ n1_ n2_ n3_ n4_; (try clear hb); (try clear hb2); (try clear hk); (try clear hi)))
  go_ret
  exact ⟨_, dq33, dq89, dq64, dq63, dq62⟩
 subst c5
 have H1 : ((spec_l1Rd_below.f s0_0 t506 (t501.length : Int)).bind fun bt507 => ((spec_l1Rd_below.f s0_0 bt507.2 3).bind fun bt509 => (if bt509.1 = 0 then ((spec_l1Rd_off.f k s0_0 bt509.2 (-1) bt507.1).bind fun bt511 => (if 0 ≤ bt507.1 then (if bt507.1 < (t501.length : Int) then (some ((t501.set (bt507.1 : Int).toNat (⟨bt511.1, (rd_T39 t501 bt507.1).f1, (rd_T39 t501 bt507.1).f2, (rd_T39 t501 bt507.1).f3⟩ : S39)), bt511.2)) else (none)) else (none))) else (if bt509.1 = 1 then ((spec_l1Rd_text.f s0_0 bt509.2).bind fun bt514 => (if 0 ≤ bt507.1 then (if bt507.1 < (t501.length : Int) then (some ((t501.set (bt507.1 : Int).toNat (⟨(rd_T39 t501 bt507.1).f0, (rd_T39 t501 bt507.1).f1, bt514.1, (rd_T39 t501 bt507.1).f3⟩ : S39)), bt514.2)) else (none)) else (none))) else (if bt509.1 = 2 then ((spec_l1Rd_text.f s0_0 bt509.2).bind fun bt517 => (if 0 ≤ bt507.1 then (if bt507.1 < (t501.length : Int) then (some ((t501.set (bt507.1 : Int).toNat (⟨(rd_T39 t501 bt507.1).f0, bt517.1, (rd_T39 t501 bt507.1).f2, (rd_T39 t501 bt507.1).f3⟩ : S39)), bt517.2)) else (none)) else (none))) else (some (t501, bt509.2))))))) = some (r1, r2) := by rw [if_pos rfl] at H; exact H
 clear H
 have H := H1
 clear H1
 replace H := Option.bind_eq_some_iff.mp H
 obtain ⟨⟨t507, t508⟩, A60, H⟩ := H
 replace H : ((spec_l1Rd_below.f s0_0 t508 3).bind fun bt509 => (if bt509.1 = 0 then ((spec_l1Rd_off.f k s0_0 bt509.2 (-1) t507).bind fun bt511 => (if 0 ≤ t507 then (if t507 < (t501.length : Int) then (some ((t501.set (t507 : Int).toNat (⟨bt511.1, (rd_T39 t501 t507).f1, (rd_T39 t501 t507).f2, (rd_T39 t501 t507).f3⟩ : S39)), bt511.2)) else (none)) else (none))) else (if bt509.1 = 1 then ((spec_l1Rd_text.f s0_0 bt509.2).bind fun bt514 => (if 0 ≤ t507 then (if t507 < (t501.length : Int) then (some ((t501.set (t507 : Int).toNat (⟨(rd_T39 t501 t507).f0, (rd_T39 t501 t507).f1, bt514.1, (rd_T39 t501 t507).f3⟩ : S39)), bt514.2)) else (none)) else (none))) else (if bt509.1 = 2 then ((spec_l1Rd_text.f s0_0 bt509.2).bind fun bt517 => (if 0 ≤ t507 then (if t507 < (t501.length : Int) then (some ((t501.set (t507 : Int).toNat (⟨(rd_T39 t501 t507).f0, bt517.1, (rd_T39 t501 t507).f2, (rd_T39 t501 t507).f3⟩ : S39)), bt517.2)) else (none)) else (none))) else (some (t501, bt509.2)))))) = some (r1, r2) := H
 have A6 := Aside0.mk A60
 clear A60
 replace H := Option.bind_eq_some_iff.mp H
 obtain ⟨⟨t509, t510⟩, A70, H⟩ := H
 replace H : (if t509 = 0 then ((spec_l1Rd_off.f k s0_0 t510 (-1) t507).bind fun bt511 => (if 0 ≤ t507 then (if t507 < (t501.length : Int) then (some ((t501.set (t507 : Int).toNat (⟨bt511.1, (rd_T39 t501 t507).f1, (rd_T39 t501 t507).f2, (rd_T39 t501 t507).f3⟩ : S39)), bt511.2)) else (none)) else (none))) else (if t509 = 1 then ((spec_l1Rd_text.f s0_0 t510).bind fun bt514 => (if 0 ≤ t507 then (if t507 < (t501.length : Int) then (some ((t501.set (t507 : Int).toNat (⟨(rd_T39 t501 t507).f0, (rd_T39 t501 t507).f1, bt514.1, (rd_T39 t501 t507).f3⟩ : S39)), bt514.2)) else (none)) else (none))) else (if t509 = 2 then ((spec_l1Rd_text.f s0_0 t510).bind fun bt517 => (if 0 ≤ t507 then (if t507 < (t501.length : Int) then (some ((t501.set (t507 : Int).toNat (⟨(rd_T39 t501 t507).f0, bt517.1, (rd_T39 t501 t507).f2, (rd_T39 t501 t507).f3⟩ : S39)), bt517.2)) else (none)) else (none))) else (some (t501, t510))))) = some (r1, r2) := H
 have A7 := Aside0.mk A70
 clear A70
 by_cases c8 : t509 = 0
 ·rw [if_pos c8] at H
  have c8b0 := beq_iff_eq.mpr c8
  have c8b1 := bne_eq_false_iff_eq.mpr c8
  clear c8
  replace H := Option.bind_eq_some_iff.mp H
  obtain ⟨⟨t511, t512⟩, A90, H⟩ := H
  replace H : (if 0 ≤ t507 then (if t507 < (t501.length : Int) then (some ((t501.set (t507 : Int).toNat (⟨t511, (rd_T39 t501 t507).f1, (rd_T39 t501 t507).f2, (rd_T39 t501 t507).f3⟩ : S39)), t512)) else (none)) else (none)) = some (r1, r2) := H
  have A9 := Aside0.mk A90
  clear A90
  by_cases c10 : 0 ≤ t507
  rotate_left
  ·rw [if_neg c10] at H
   exact absurd H dq32
  rw [if_pos c10] at H
  have c10b0 := decide_eq_true c10
  clear c10
  by_cases c11 : t507 < (t501.length : Int)
  rotate_left
  ·rw [if_neg c11] at H
   exact absurd H dq32
  rw [if_pos c11] at H
  have c11b0 := decide_eq_true c11
  clear c11
  obtain ⟨y513, hy513⟩ : ∃ y_ : List (S39), y_ = (t501.set (t507 : Int).toNat (⟨t511, (rd_T39 t501 t507).f1, (rd_T39 t501 t507).f2, (rd_T39 t501 t507).f3⟩ : S39)) := ⟨_, rfl⟩
  replace H : (some (y513, t512)) = some (r1, r2) := by first | (rw [hy513]; with_reducible exact H) | (have H2_ := (Option.bind_some _ _).symm.trans H; rw [hy513]; with_reducible exact H2_) | (have H2_ := (Option.bind_some _ _).symm.trans H; with_reducible exact H2_) | with_reducible exact H | (rw [hy513]; exact H) | exact H
  have Ny513 := Aside0.mk hy513
  clear hy513
  simp only [Option.some.injEq, Prod.mk.injEq] at H
  obtain ⟨rfl, rfl⟩ := H
  go_enter Tryd.func53, Tryd.ntmps53
  go_wp2_with (first | ((with_reducible refine gate_callee (f := 87) rfl ?_); refine goesL_ (some 7) rfl rfl Tryd.func87 dq29 rfl #[.pointer (some ⟨g, 0, none⟩)] rfl dq28 ?_; (with_reducible refine (spec_l1Rd_name.calls g s0_0 s0_1 t496 t497 w0 _ ?side1 ?side2 A2.out).mono ?_); (case side1 => exact dq6); (case side2 => exact dq7); rintro e w13 ⟨rfl, hi, hb, hk⟩; refine ⟨_, rfl, ?_⟩; have n0_ := Aside0.mk (KeepBut.trans dq62 hk (.inl rfl)); have n1_ := Aside0.mk (hb); have n2_ := Aside0.mk (hi); clear HK; clear HB; clear HI0; have HK := n0_; have HB := n1_; have HI0 := n2_; clear n0_ n1_ n2_; (try clear hb); (try clear hb2); (try clear hk); (try clear hi)) | ((with_reducible refine gate_dst (N := 9) rfl ?_); refine Kd.S_lit k39 _ 39 ?hg (N := 9) ?hd (xs := ([(⟨(-1), t496, (⟨#[]⟩ : ByteArray), ([] : List (S46))⟩ : S39)] : List (S39))) (inner := [.int .i64 (-1), .string t496, .string (⟨#[]⟩ : ByteArray), .slice none 0 0]) (ok := fun _ => True) (okp := fun _ => True) ?hr ?hp (fun _ hk => hk) trivial (Below.refl _ _) (Nat.le_refl _) dq32 ?_; (case hd => rfl); (case hg => rfl); (case hr => exact dq1); (case hp => exact (Reps.c4 (show Kd.M k39 _ _ _ (⟨(-1), t496, (⟨#[]⟩ : ByteArray), ([] : List (S46))⟩ : S39) [.int .i64 (-1), .string t496, .string (⟨#[]⟩ : ByteArray), .slice none 0 0] from (k39_mkM _ _ _ (⟨(-1), t496, (⟨#[]⟩ : ByteArray), ([] : List (S46))⟩ : S39) (Kd.R_nil _ _ _ _ _))) (Reps.none _ _))); intro v499 w14 ho15 hb hg_ hnew_; clear hg_ hnew_; (first | rw [← Ny498.out] at ho15 | (simp only [Int.reduceToNat] at ho15; rw [← Ny498.out] at ho15)); have n0_ := Aside0.mk (Kd.S_lower ho15 (keep_size (w := w) (g := g) (row := none) dq62)); have n1_ := Aside0.mk (IsS99.below dq64 hb); have n2_ := Aside0.mk (KeepBut.trans dq62 (KeepBut.of_below hb g none) (.inl rfl)); have n3_ := Aside0.mk (below_step dq63 hb); clear HI0; clear HK; clear HB; have HO500 := n0_; have HI0 := n1_; have HK := n2_; have HB := n3_; clear n0_ n1_ n2_ n3_; clear hb ho15; obtain ⟨Ao16, co16, eo16⟩ := Kd.S_slice HO500.out; subst eo16) | ((with_reducible refine gate_callee (f := 86) rfl ?_); refine goesL_ (some 10) rfl rfl Tryd.func86 dq29 rfl #[.pointer (some ⟨g, 0, none⟩), .slice Ao16 y498.length co16, .int .i64 0, .int .i64 2] rfl dq28 ?_; (with_reducible refine (spec_l1Rd_grow.calls k g s0_0 t497 (.slice Ao16 y498.length co16) (fun _ => True) y498 0 2 t501 t504 w0 w _ ?side1 ?side2 HL.out ?side4 ?side5 A3.out).mono ?_); (case side1 => exact dq6); (case side2 => exact dq7); (case side4 => exact dq12); (case side5 => exact dq13); rintro e w17 ⟨v502, rfl, ho0, hi, hb, hk⟩; refine ⟨_, rfl, ?_⟩; have n0_ := Aside0.mk ho0; have n1_ := Aside0.mk ho0; have n2_ := Aside0.mk hk; have n3_ := Aside0.mk (hb); have n4_ := Aside0.mk (hi); clear HO500; clear HK; clear HB; clear HI0; have HO500 := n0_; have HO503 := n1_; have HK := n2_; have HB := n3_; have HI0 := n4_; clear n0_ n1_ n2_ n3_ n4_; (try clear hb); (try clear hb2); (try clear hk); (try clear hi); (try clear ho0)) | ((with_reducible refine gate_callee (f := 52) rfl ?_); refine goesL_ (some 12) rfl rfl Tryd.func52 dq29 rfl #[.pointer (some ⟨g, 0, none⟩), .int .i64 24] rfl dq28 ?_; (with_reducible refine (spec_l1Rd_once.calls g s0_0 t504 24 true t506 w0 _ ?side1 ?side2 A4.out).mono ?_); (case side1 => exact dq6); (case side2 => exact dq7); rintro e w18 ⟨rfl, hi, hb, hk⟩; refine ⟨_, rfl, ?_⟩; have n0_ := Aside0.mk (Kd.S_mono (Kd.S_keep (IsS99.apartS (show IsS99 w0 _ g s0_0 t504 from by repeat (first | (with_reducible first | exact HI0.out | apply IsS99.alloc | apply IsS99.drewN | apply IsS99.drew | apply IsS99.set_1) | exact HI0.out)) dq88 dq60) hk (fun _ h => h.2)) (fun _ h => h.1)); have n1_ := Aside0.mk (Kd.S_mono (Kd.S_keep (IsS99.apartS (show IsS99 w0 _ g s0_0 t504 from by repeat (first | (with_reducible first | exact HI0.out | apply IsS99.alloc | apply IsS99.drewN | apply IsS99.drew | apply IsS99.set_1) | exact HI0.out)) dq87 dq60) hk (fun _ h => h.2)) (fun _ h => h.1)); have n2_ := Aside0.mk (KeepBut.trans dq62 hk (.inl rfl)); have n3_ := Aside0.mk (hb); have n4_ := Aside0.mk (hi); clear HO500; clear HO503; clear HK; clear HB; clear HI0; have HO500 := n0_; have HO503 := n1_; have HK := n2_; have HB := n3_; have HI0 := n4_; clear n0_ n1_ n2_ n3_ n4_; (try clear hb); (try clear hb2); (try clear hk); (try clear hi); obtain ⟨Ao19, co19, eo19⟩ := Kd.S_slice HO503.out; subst eo19) | ((with_reducible refine gate_callee (f := 63) rfl ?_); refine goesL_ (some 16) rfl rfl Tryd.func63 dq29 rfl #[.pointer (some ⟨g, 0, none⟩), .int .i64 (t501.length : Int)] rfl dq28 ?_; (with_reducible refine (spec_l1Rd_below.calls g s0_0 t506 (t501.length : Int) t507 t508 w0 _ ?side1 ?side2 A6.out).mono ?_); (case side1 => exact dq6); (case side2 => exact dq7); rintro e w20 ⟨rfl, hi, hb, hk⟩; refine ⟨_, rfl, ?_⟩; have n0_ := Aside0.mk (Kd.S_mono (Kd.S_keep (IsS99.apartS (show IsS99 w0 _ g s0_0 t506 from by repeat (first | (with_reducible first | exact HI0.out | apply IsS99.alloc | apply IsS99.drewN | apply IsS99.drew | apply IsS99.set_1) | exact HI0.out)) dq88 dq60) hk (fun _ h => h.2)) (fun _ h => h.1)); have n1_ := Aside0.mk (Kd.S_mono (Kd.S_keep (IsS99.apartS (show IsS99 w0 _ g s0_0 t506 from by repeat (first | (with_reducible first | exact HI0.out | apply IsS99.alloc | apply IsS99.drewN | apply IsS99.drew | apply IsS99.set_1) | exact HI0.out)) dq87 dq60) hk (fun _ h => h.2)) (fun _ h => h.1)); have n2_ := Aside0.mk (KeepBut.trans dq62 hk (.inl rfl)); have n3_ := Aside0.mk (hb); have n4_ := Aside0.mk (hi); clear HO500; clear HO503; clear HK; clear HB; clear HI0; have HO500 := n0_; have HO503 := n1_; have HK := n2_; have HB := n3_; have HI0 := n4_; clear n0_ n1_ n2_ n3_ n4_; (try clear hb); (try clear hb2); (try clear hk); (try clear hi)) | ((with_reducible refine gate_callee (f := 63) rfl ?_); refine goesL_ (some 18) rfl rfl Tryd.func63 dq29 rfl #[.pointer (some ⟨g, 0, none⟩), .int .i64 3] rfl dq28 ?_; (with_reducible refine (spec_l1Rd_below.calls g s0_0 t508 3 t509 t510 w0 _ ?side1 ?side2 A7.out).mono ?_); (case side1 => exact dq6); (case side2 => exact dq7); rintro e w21 ⟨rfl, hi, hb, hk⟩; refine ⟨_, rfl, ?_⟩; have n0_ := Aside0.mk (Kd.S_mono (Kd.S_keep (IsS99.apartS (show IsS99 w0 _ g s0_0 t508 from by repeat (first | (with_reducible first | exact HI0.out | apply IsS99.alloc | apply IsS99.drewN | apply IsS99.drew | apply IsS99.set_1) | exact HI0.out)) dq88 dq60) hk (fun _ h => h.2)) (fun _ h => h.1)); have n1_ := Aside0.mk (Kd.S_mono (Kd.S_keep (IsS99.apartS (show IsS99 w0 _ g s0_0 t508 from by repeat (first | (with_reducible first | exact HI0.out | apply IsS99.alloc | apply IsS99.drewN | apply IsS99.drew | apply IsS99.set_1) | exact HI0.out)) dq87 dq60) hk (fun _ h => h.2)) (fun _ h => h.1)); have n2_ := Aside0.mk (KeepBut.trans dq62 hk (.inl rfl)); have n3_ := Aside0.mk (hb); have n4_ := Aside0.mk (hi); clear HO500; clear HO503; clear HK; clear HB; clear HI0; have HO500 := n0_; have HO503 := n1_; have HK := n2_; have HB := n3_; have HI0 := n4_; clear n0_ n1_ n2_ n3_ n4_; (try clear hb); (try clear hb2); (try clear hk); (try clear hi)) | ((with_reducible refine gate_callee (f := 54) rfl ?_); refine goesL_ (some 25) rfl rfl Tryd.func54 dq29 rfl #[.pointer (some ⟨g, 0, none⟩), .int .i64 (-1), .int .i64 t507] rfl dq28 ?_; (with_reducible refine (spec_l1Rd_off.calls k g s0_0 t510 (-1) t507 t511 t512 w0 _ ?side1 ?side2 A9.out).mono ?_); (case side1 => exact dq6); (case side2 => exact dq7); rintro e w22 ⟨rfl, hi, hb, hk⟩; refine ⟨_, rfl, ?_⟩; have n0_ := Aside0.mk (Kd.S_mono (Kd.S_keep (IsS99.apartS (show IsS99 w0 _ g s0_0 t510 from by repeat (first | (with_reducible first | exact HI0.out | apply IsS99.alloc | apply IsS99.drewN | apply IsS99.drew | apply IsS99.set_1) | exact HI0.out)) dq88 dq60) hk (fun _ h => h.2)) (fun _ h => h.1)); have n1_ := Aside0.mk (Kd.S_mono (Kd.S_keep (IsS99.apartS (show IsS99 w0 _ g s0_0 t510 from by repeat (first | (with_reducible first | exact HI0.out | apply IsS99.alloc | apply IsS99.drewN | apply IsS99.drew | apply IsS99.set_1) | exact HI0.out)) dq87 dq60) hk (fun _ h => h.2)) (fun _ h => h.1)); have n2_ := Aside0.mk (KeepBut.trans dq62 hk (.inl rfl)); have n3_ := Aside0.mk (hb); have n4_ := Aside0.mk (hi); clear HO500; clear HO503; clear HK; clear HB; clear HI0; have HO500 := n0_; have HO503 := n1_; have HK := n2_; have HB := n3_; have HI0 := n4_; clear n0_ n1_ n2_ n3_ n4_; (try clear hb); (try clear hb2); (try clear hk); (try clear hi); have p12 : 0 ≤ (t507 : Int) := of_decide_eq_true dq30; have q12 : (t507 : Int) < ((t501.length : Int) : Int) := of_decide_eq_true dq30; obtain ⟨go12, co12, eo12, gb12, gl12, cl12, HG12⟩ := Kd.S_form HO503.out dq45; (first | cases eo12 | (injection eo12 with ea_ en_ ec_; (first | subst ea_ | (injection ea_ with ea_; subst ea_)); subst ec_; clear en_)); have GB12 := Aside0.mk gb12; have GG12 := Aside0.mk HG12; clear gb12 gl12 HG12; obtain ⟨_, ce12, hcl12, hM12, hcc12, hfr12, _, _⟩ := Kd.S_elem HO503.out z39 (t507 : Int) p12 q12; obtain ⟨ve12_3, rfl, ge12_3⟩ := k39_openM hM12; have hx12_0 : w22.cell? ⟨go12, (t507 : Int).toNat * 4, none⟩ = some (.int .i64 ((rd_T39 t501 t507).f0)) := hcc12 0 _ rfl; have hx12_1 : w22.cell? ⟨go12, (t507 : Int).toNat * 4 + 1, none⟩ = some (.string ((rd_T39 t501 t507).f1)) := hcc12 1 _ rfl; have hx12_2 : w22.cell? ⟨go12, (t507 : Int).toNat * 4 + 2, none⟩ = some (.string ((rd_T39 t501 t507).f2)) := hcc12 2 _ rfl; have hx12_3 : w22.cell? ⟨go12, (t507 : Int).toNat * 4 + 3, none⟩ = some (ve12_3) := hcc12 3 _ rfl; have hf12_0 : w22.frozen? ⟨go12, (t507 : Int).toNat * 4, none⟩ = false := hfr12 0; have hf12_1 : w22.frozen? ⟨go12, (t507 : Int).toNat * 4 + 1, none⟩ = false := hfr12 1; have hf12_2 : w22.frozen? ⟨go12, (t507 : Int).toNat * 4 + 2, none⟩ = false := hfr12 2; have hf12_3 : w22.frozen? ⟨go12, (t507 : Int).toNat * 4 + 3, none⟩ = false := hfr12 3; clear hcl12 hcc12 hfr12 hM12; replace p12 := eq_true p12; replace q12 := eq_true q12; have n_ := Aside0.mk (Kd.S_mono (ok' := (fun _ => True)) HO503.out (fun _ _ => trivial)); clear HO503; have HO503 := n_; clear n_; have HX23 := Aside0.mk (show Kd.S k39 39 w22 w.heap.size (fun k_ => ((fun _ => True)) k_ ∧ ¬ ((fun _ => False)) k_) (.slice (some ⟨go12, 0, none⟩) t501.length co19) t501 from dq86); obtain ⟨oki23, ce23, hcl23, hM23, hcc23, hfr23, hoki23, hH23⟩ := Kd.S_elem HX23.out z39 (t507 : Int) (of_decide_eq_true dq30) (by have h_ : (t507 : Int) < ((t501.length : Int) : Int) := of_decide_eq_true dq30; first | exact h_ | (have e_ := (Kd.S_reads' HO503.out).1; omega) | simpa using h_); obtain ⟨ve23_3, rfl, ge23_3⟩ := k39_openM hM23; have HP23 := Kd.S_seg hH23 (of_decide_eq_true dq30) (by have h_ : (t507 : Int) < ((t501.length : Int) : Int) := of_decide_eq_true dq30; first | exact h_ | (have e_ := (Kd.S_reads' HO503.out).1; omega) | simpa using h_) (seg := [.int .i64 t511]) (j := 0) (show 1 ≤ 4 from by decide) (x' := (⟨t511, (rd_T39 t501 t507).f1, (rd_T39 t501 t507).f2, (rd_T39 t501 t507).f3⟩ : S39)) (k39_mkM _ _ _ (⟨t511, (rd_T39 t501 t507).f1, (rd_T39 t501 t507).f2, (rd_T39 t501 t507).f3⟩ : S39) (Kd.R_mono ge23_3 (fun _ h_ => Or.inl h_))) (fun _ hk => hk) (fun k_ hk_ => hk_.elim); have hx23_0 := hcc23 0 _ rfl; (try simp only [show (k39).sz = 4 from rfl, Nat.mul_one, Nat.add_zero] at hx23_0); have hf23_0 := hfr23 0; (try simp only [show (k39).sz = 4 from rfl, Nat.mul_one, Nat.add_zero] at hf23_0); clear hcl23 hcc23 hfr23 hM23 hoki23 hH23) | ((with_reducible refine gate_store (t := 2) (p := 27) rfl ?_); refine store_event (t := 2) (p := 27) (v := ?vo_w24) (w1 := (w22.setCell ⟨go12, (t507 : Int).toNat * 4, none⟩ (.int .i64 t511))) ?hg ?ho ?hn ?hr ?_; (case ho => rfl); (case hg => rfl); (case hn => rfl); (case hr => exact dq1); intro w24 hw; have hg : w22.grownBy w24 (some go12) := (by rw [hw]; exact HP23.2); have hp_ : Kd.S k39 39 w24 w.heap.size (fun _ => True) (.slice (some ⟨go12, 0, none⟩) t501.length co19) y513 := (by rw [hw, Ny513.out]; exact HP23.1); clear HP23; have n0_ := Aside0.mk (IsS99.grown dq64 hg (IsS99.own_neS HI0.out HO503.out dq60)); have n1_ := Aside0.mk (hp_); have n2_ := Aside0.mk (hp_); have n3_ := Aside0.mk ((by rw [hw]; exact below_set (HB.out) (Nat.le_trans HL.out GB12.out) : Below w0.heap.size w0 w24)); have n4_ := Aside0.mk (KeepBut.trans dq62 (KeepBut.of_grown hg g) (Kd.S_base2 HO503.out)); clear HI0; clear HO500; clear HO503; clear HB; clear HK; have HI0 := n0_; have HO500 := n1_; have HO503 := n2_; have HB := n3_; have HK := n4_; clear n0_ n1_ n2_ n3_ n4_; clear hg hw hp_))
  go_ret
  exact ⟨_, dq33, dq89, dq64, dq63, dq62⟩
 rw [if_neg c8] at H
 have c8b0 := beq_eq_false_iff_ne.mpr c8
 have c8b1 := bne_iff_ne.mpr c8
 by_cases c25 : t509 = 1
 ·rw [if_pos c25] at H
  have c25b0 := beq_iff_eq.mpr c25
  have c25b1 := bne_eq_false_iff_eq.mpr c25
  clear c25
  replace H := Option.bind_eq_some_iff.mp H
  obtain ⟨⟨t514, t515⟩, A260, H⟩ := H
  replace H : (if 0 ≤ t507 then (if t507 < (t501.length : Int) then (some ((t501.set (t507 : Int).toNat (⟨(rd_T39 t501 t507).f0, (rd_T39 t501 t507).f1, t514, (rd_T39 t501 t507).f3⟩ : S39)), t515)) else (none)) else (none)) = some (r1, r2) := H
  have A26 := Aside0.mk A260
  clear A260
  by_cases c27 : 0 ≤ t507
  rotate_left
  ·rw [if_neg c27] at H
   exact absurd H dq32
  rw [if_pos c27] at H
  have c27b0 := decide_eq_true c27
  clear c27
  by_cases c28 : t507 < (t501.length : Int)
  rotate_left
  ·rw [if_neg c28] at H
   exact absurd H dq32
  rw [if_pos c28] at H
  have c28b0 := decide_eq_true c28
  clear c28
  obtain ⟨y516, hy516⟩ : ∃ y_ : List (S39), y_ = (t501.set (t507 : Int).toNat (⟨(rd_T39 t501 t507).f0, (rd_T39 t501 t507).f1, t514, (rd_T39 t501 t507).f3⟩ : S39)) := ⟨_, rfl⟩
  replace H : (some (y516, t515)) = some (r1, r2) := by first | (rw [hy516]; with_reducible exact H) | (have H2_ := (Option.bind_some _ _).symm.trans H; rw [hy516]; with_reducible exact H2_) | (have H2_ := (Option.bind_some _ _).symm.trans H; with_reducible exact H2_) | with_reducible exact H | (rw [hy516]; exact H) | exact H
  have Ny516 := Aside0.mk hy516
  clear hy516
  simp only [Option.some.injEq, Prod.mk.injEq] at H
  obtain ⟨rfl, rfl⟩ := H
  go_enter Tryd.func53, Tryd.ntmps53
  go_wp2_with (first | ((with_reducible refine gate_callee (f := 87) rfl ?_); refine goesL_ (some 7) rfl rfl Tryd.func87 dq29 rfl #[.pointer (some ⟨g, 0, none⟩)] rfl dq28 ?_; (with_reducible refine (spec_l1Rd_name.calls g s0_0 s0_1 t496 t497 w0 _ ?side1 ?side2 A2.out).mono ?_); (case side1 => exact dq6); (case side2 => exact dq7); rintro e w30 ⟨rfl, hi, hb, hk⟩; refine ⟨_, rfl, ?_⟩; have n0_ := Aside0.mk (KeepBut.trans dq62 hk (.inl rfl)); have n1_ := Aside0.mk (hb); have n2_ := Aside0.mk (hi); clear HK; clear HB; clear HI0; have HK := n0_; have HB := n1_; have HI0 := n2_; clear n0_ n1_ n2_; (try clear hb); (try clear hb2); (try clear hk); (try clear hi)) | ((with_reducible refine gate_dst (N := 9) rfl ?_); refine Kd.S_lit k39 _ 39 ?hg (N := 9) ?hd (xs := ([(⟨(-1), t496, (⟨#[]⟩ : ByteArray), ([] : List (S46))⟩ : S39)] : List (S39))) (inner := [.int .i64 (-1), .string t496, .string (⟨#[]⟩ : ByteArray), .slice none 0 0]) (ok := fun _ => True) (okp := fun _ => True) ?hr ?hp (fun _ hk => hk) trivial (Below.refl _ _) (Nat.le_refl _) dq32 ?_; (case hd => rfl); (case hg => rfl); (case hr => exact dq1); (case hp => exact (Reps.c4 (show Kd.M k39 _ _ _ (⟨(-1), t496, (⟨#[]⟩ : ByteArray), ([] : List (S46))⟩ : S39) [.int .i64 (-1), .string t496, .string (⟨#[]⟩ : ByteArray), .slice none 0 0] from (k39_mkM _ _ _ (⟨(-1), t496, (⟨#[]⟩ : ByteArray), ([] : List (S46))⟩ : S39) (Kd.R_nil _ _ _ _ _))) (Reps.none _ _))); intro v499 w31 ho32 hb hg_ hnew_; clear hg_ hnew_; (first | rw [← Ny498.out] at ho32 | (simp only [Int.reduceToNat] at ho32; rw [← Ny498.out] at ho32)); have n0_ := Aside0.mk (Kd.S_lower ho32 (keep_size (w := w) (g := g) (row := none) dq62)); have n1_ := Aside0.mk (IsS99.below dq64 hb); have n2_ := Aside0.mk (KeepBut.trans dq62 (KeepBut.of_below hb g none) (.inl rfl)); have n3_ := Aside0.mk (below_step dq63 hb); clear HI0; clear HK; clear HB; have HO500 := n0_; have HI0 := n1_; have HK := n2_; have HB := n3_; clear n0_ n1_ n2_ n3_; clear hb ho32; obtain ⟨Ao33, co33, eo33⟩ := Kd.S_slice HO500.out; subst eo33) | ((with_reducible refine gate_callee (f := 86) rfl ?_); refine goesL_ (some 10) rfl rfl Tryd.func86 dq29 rfl #[.pointer (some ⟨g, 0, none⟩), .slice Ao33 y498.length co33, .int .i64 0, .int .i64 2] rfl dq28 ?_; (with_reducible refine (spec_l1Rd_grow.calls k g s0_0 t497 (.slice Ao33 y498.length co33) (fun _ => True) y498 0 2 t501 t504 w0 w _ ?side1 ?side2 HL.out ?side4 ?side5 A3.out).mono ?_); (case side1 => exact dq6); (case side2 => exact dq7); (case side4 => exact dq12); (case side5 => exact dq13); rintro e w34 ⟨v502, rfl, ho0, hi, hb, hk⟩; refine ⟨_, rfl, ?_⟩; have n0_ := Aside0.mk ho0; have n1_ := Aside0.mk ho0; have n2_ := Aside0.mk hk; have n3_ := Aside0.mk (hb); have n4_ := Aside0.mk (hi); clear HO500; clear HK; clear HB; clear HI0; have HO500 := n0_; have HO503 := n1_; have HK := n2_; have HB := n3_; have HI0 := n4_; clear n0_ n1_ n2_ n3_ n4_; (try clear hb); (try clear hb2); (try clear hk); (try clear hi); (try clear ho0)) | ((with_reducible refine gate_callee (f := 52) rfl ?_); refine goesL_ (some 12) rfl rfl Tryd.func52 dq29 rfl #[.pointer (some ⟨g, 0, none⟩), .int .i64 24] rfl dq28 ?_; (with_reducible refine (spec_l1Rd_once.calls g s0_0 t504 24 true t506 w0 _ ?side1 ?side2 A4.out).mono ?_); (case side1 => exact dq6); (case side2 => exact dq7); rintro e w35 ⟨rfl, hi, hb, hk⟩; refine ⟨_, rfl, ?_⟩; have n0_ := Aside0.mk (Kd.S_mono (Kd.S_keep (IsS99.apartS (show IsS99 w0 _ g s0_0 t504 from by repeat (first | (with_reducible first | exact HI0.out | apply IsS99.alloc | apply IsS99.drewN | apply IsS99.drew | apply IsS99.set_1) | exact HI0.out)) dq88 dq60) hk (fun _ h => h.2)) (fun _ h => h.1)); have n1_ := Aside0.mk (Kd.S_mono (Kd.S_keep (IsS99.apartS (show IsS99 w0 _ g s0_0 t504 from by repeat (first | (with_reducible first | exact HI0.out | apply IsS99.alloc | apply IsS99.drewN | apply IsS99.drew | apply IsS99.set_1) | exact HI0.out)) dq87 dq60) hk (fun _ h => h.2)) (fun _ h => h.1)); have n2_ := Aside0.mk (KeepBut.trans dq62 hk (.inl rfl)); have n3_ := Aside0.mk (hb); have n4_ := Aside0.mk (hi); clear HO500; clear HO503; clear HK; clear HB; clear HI0; have HO500 := n0_; have HO503 := n1_; have HK := n2_; have HB := n3_; have HI0 := n4_; clear n0_ n1_ n2_ n3_ n4_; (try clear hb); (try clear hb2); (try clear hk); (try clear hi); obtain ⟨Ao36, co36, eo36⟩ := Kd.S_slice HO503.out; subst eo36) | ((with_reducible refine gate_callee (f := 63) rfl ?_); refine goesL_ (some 16) rfl rfl Tryd.func63 dq29 rfl #[.pointer (some ⟨g, 0, none⟩), .int .i64 (t501.length : Int)] rfl dq28 ?_; (with_reducible refine (spec_l1Rd_below.calls g s0_0 t506 (t501.length : Int) t507 t508 w0 _ ?side1 ?side2 A6.out).mono ?_); (case side1 => exact dq6); (case side2 => exact dq7); rintro e w37 ⟨rfl, hi, hb, hk⟩; refine ⟨_, rfl, ?_⟩; have n0_ := Aside0.mk (Kd.S_mono (Kd.S_keep (IsS99.apartS (show IsS99 w0 _ g s0_0 t506 from by repeat (first | (with_reducible first | exact HI0.out | apply IsS99.alloc | apply IsS99.drewN | apply IsS99.drew | apply IsS99.set_1) | exact HI0.out)) dq88 dq60) hk (fun _ h => h.2)) (fun _ h => h.1)); have n1_ := Aside0.mk (Kd.S_mono (Kd.S_keep (IsS99.apartS (show IsS99 w0 _ g s0_0 t506 from by repeat (first | (with_reducible first | exact HI0.out | apply IsS99.alloc | apply IsS99.drewN | apply IsS99.drew | apply IsS99.set_1) | exact HI0.out)) dq87 dq60) hk (fun _ h => h.2)) (fun _ h => h.1)); have n2_ := Aside0.mk (KeepBut.trans dq62 hk (.inl rfl)); have n3_ := Aside0.mk (hb); have n4_ := Aside0.mk (hi); clear HO500; clear HO503; clear HK; clear HB; clear HI0; have HO500 := n0_; have HO503 := n1_; have HK := n2_; have HB := n3_; have HI0 := n4_; clear n0_ n1_ n2_ n3_ n4_; (try clear hb); (try clear hb2); (try clear hk); (try clear hi)) | ((with_reducible refine gate_callee (f := 63) rfl ?_); refine goesL_ (some 18) rfl rfl Tryd.func63 dq29 rfl #[.pointer (some ⟨g, 0, none⟩), .int .i64 3] rfl dq28 ?_; (with_reducible refine (spec_l1Rd_below.calls g s0_0 t508 3 t509 t510 w0 _ ?side1 ?side2 A7.out).mono ?_); (case side1 => exact dq6); (case side2 => exact dq7); rintro e w38 ⟨rfl, hi, hb, hk⟩; refine ⟨_, rfl, ?_⟩; have n0_ := Aside0.mk (Kd.S_mono (Kd.S_keep (IsS99.apartS (show IsS99 w0 _ g s0_0 t508 from by repeat (first | (with_reducible first | exact HI0.out | apply IsS99.alloc | apply IsS99.drewN | apply IsS99.drew | apply IsS99.set_1) | exact HI0.out)) dq88 dq60) hk (fun _ h => h.2)) (fun _ h => h.1)); have n1_ := Aside0.mk (Kd.S_mono (Kd.S_keep (IsS99.apartS (show IsS99 w0 _ g s0_0 t508 from by repeat (first | (with_reducible first | exact HI0.out | apply IsS99.alloc | apply IsS99.drewN | apply IsS99.drew | apply IsS99.set_1) | exact HI0.out)) dq87 dq60) hk (fun _ h => h.2)) (fun _ h => h.1)); have n2_ := Aside0.mk (KeepBut.trans dq62 hk (.inl rfl)); have n3_ := Aside0.mk (hb); have n4_ := Aside0.mk (hi); clear HO500; clear HO503; clear HK; clear HB; clear HI0; have HO500 := n0_; have HO503 := n1_; have HK := n2_; have HB := n3_; have HI0 := n4_; clear n0_ n1_ n2_ n3_ n4_; (try clear hb); (try clear hb2); (try clear hk); (try clear hi)) | ((with_reducible refine gate_callee (f := 88) rfl ?_); refine goesL_ (some 33) rfl rfl Tryd.func88 dq29 rfl #[.pointer (some ⟨g, 0, none⟩)] rfl dq28 ?_; (with_reducible refine (spec_l1Rd_text.calls g s0_0 t510 t514 t515 w0 _ ?side1 ?side2 A26.out).mono ?_); (case side1 => exact dq6); (case side2 => exact dq7); rintro e w39 ⟨rfl, hi, hb, hk⟩; refine ⟨_, rfl, ?_⟩; have n0_ := Aside0.mk (Kd.S_mono (Kd.S_keep (IsS99.apartS (show IsS99 w0 _ g s0_0 t510 from by repeat (first | (with_reducible first | exact HI0.out | apply IsS99.alloc | apply IsS99.drewN | apply IsS99.drew | apply IsS99.set_1) | exact HI0.out)) dq88 dq60) hk (fun _ h => h.2)) (fun _ h => h.1)); have n1_ := Aside0.mk (Kd.S_mono (Kd.S_keep (IsS99.apartS (show IsS99 w0 _ g s0_0 t510 from by repeat (first | (with_reducible first | exact HI0.out | apply IsS99.alloc | apply IsS99.drewN | apply IsS99.drew | apply IsS99.set_1) | exact HI0.out)) dq87 dq60) hk (fun _ h => h.2)) (fun _ h => h.1)); have n2_ := Aside0.mk (KeepBut.trans dq62 hk (.inl rfl)); have n3_ := Aside0.mk (hb); have n4_ := Aside0.mk (hi); clear HO500; clear HO503; clear HK; clear HB; clear HI0; have HO500 := n0_; have HO503 := n1_; have HK := n2_; have HB := n3_; have HI0 := n4_; clear n0_ n1_ n2_ n3_ n4_; (try clear hb); (try clear hb2); (try clear hk); (try clear hi); have p29 : 0 ≤ (t507 : Int) := of_decide_eq_true dq30; have q29 : (t507 : Int) < ((t501.length : Int) : Int) := of_decide_eq_true dq30; obtain ⟨go29, co29, eo29, gb29, gl29, cl29, HG29⟩ := Kd.S_form HO503.out dq45; (first | cases eo29 | (injection eo29 with ea_ en_ ec_; (first | subst ea_ | (injection ea_ with ea_; subst ea_)); subst ec_; clear en_)); have GB29 := Aside0.mk gb29; have GG29 := Aside0.mk HG29; clear gb29 gl29 HG29; obtain ⟨_, ce29, hcl29, hM29, hcc29, hfr29, _, _⟩ := Kd.S_elem HO503.out z39 (t507 : Int) p29 q29; obtain ⟨ve29_3, rfl, ge29_3⟩ := k39_openM hM29; have hx29_0 : w39.cell? ⟨go29, (t507 : Int).toNat * 4, none⟩ = some (.int .i64 ((rd_T39 t501 t507).f0)) := hcc29 0 _ rfl; have hx29_1 : w39.cell? ⟨go29, (t507 : Int).toNat * 4 + 1, none⟩ = some (.string ((rd_T39 t501 t507).f1)) := hcc29 1 _ rfl; have hx29_2 : w39.cell? ⟨go29, (t507 : Int).toNat * 4 + 2, none⟩ = some (.string ((rd_T39 t501 t507).f2)) := hcc29 2 _ rfl; have hx29_3 : w39.cell? ⟨go29, (t507 : Int).toNat * 4 + 3, none⟩ = some (ve29_3) := hcc29 3 _ rfl; have hf29_0 : w39.frozen? ⟨go29, (t507 : Int).toNat * 4, none⟩ = false := hfr29 0; have hf29_1 : w39.frozen? ⟨go29, (t507 : Int).toNat * 4 + 1, none⟩ = false := hfr29 1; have hf29_2 : w39.frozen? ⟨go29, (t507 : Int).toNat * 4 + 2, none⟩ = false := hfr29 2; have hf29_3 : w39.frozen? ⟨go29, (t507 : Int).toNat * 4 + 3, none⟩ = false := hfr29 3; clear hcl29 hcc29 hfr29 hM29; replace p29 := eq_true p29; replace q29 := eq_true q29; have n_ := Aside0.mk (Kd.S_mono (ok' := (fun _ => True)) HO503.out (fun _ _ => trivial)); clear HO503; have HO503 := n_; clear n_; have HX40 := Aside0.mk (show Kd.S k39 39 w39 w.heap.size (fun k_ => ((fun _ => True)) k_ ∧ ¬ ((fun _ => False)) k_) (.slice (some ⟨go29, 0, none⟩) t501.length co36) t501 from dq86); obtain ⟨oki40, ce40, hcl40, hM40, hcc40, hfr40, hoki40, hH40⟩ := Kd.S_elem HX40.out z39 (t507 : Int) (of_decide_eq_true dq30) (by have h_ : (t507 : Int) < ((t501.length : Int) : Int) := of_decide_eq_true dq30; first | exact h_ | (have e_ := (Kd.S_reads' HO503.out).1; omega) | simpa using h_); obtain ⟨ve40_3, rfl, ge40_3⟩ := k39_openM hM40; have HP40 := Kd.S_seg hH40 (of_decide_eq_true dq30) (by have h_ : (t507 : Int) < ((t501.length : Int) : Int) := of_decide_eq_true dq30; first | exact h_ | (have e_ := (Kd.S_reads' HO503.out).1; omega) | simpa using h_) (seg := [.string t514]) (j := 2) (show 3 ≤ 4 from by decide) (x' := (⟨(rd_T39 t501 t507).f0, (rd_T39 t501 t507).f1, t514, (rd_T39 t501 t507).f3⟩ : S39)) (k39_mkM _ _ _ (⟨(rd_T39 t501 t507).f0, (rd_T39 t501 t507).f1, t514, (rd_T39 t501 t507).f3⟩ : S39) (Kd.R_mono ge40_3 (fun _ h_ => Or.inl h_))) (fun _ hk => hk) (fun k_ hk_ => hk_.elim); have hx40_2 := hcc40 2 _ rfl; (try simp only [show (k39).sz = 4 from rfl, Nat.mul_one, Nat.add_zero] at hx40_2); have hf40_2 := hfr40 2; (try simp only [show (k39).sz = 4 from rfl, Nat.mul_one, Nat.add_zero] at hf40_2); clear hcl40 hcc40 hfr40 hM40 hoki40 hH40) | ((with_reducible refine gate_store (t := 9) (p := 35) rfl ?_); refine store_event (t := 9) (p := 35) (v := ?vo_w41) (w1 := (w39.setCell ⟨go29, (t507 : Int).toNat * 4 + 2, none⟩ (.string t514))) ?hg ?ho ?hn ?hr ?_; (case ho => rfl); (case hg => rfl); (case hn => rfl); (case hr => exact dq1); intro w41 hw; have hg : w39.grownBy w41 (some go29) := (by rw [hw]; exact HP40.2); have hp_ : Kd.S k39 39 w41 w.heap.size (fun _ => True) (.slice (some ⟨go29, 0, none⟩) t501.length co36) y516 := (by rw [hw, Ny516.out]; exact HP40.1); clear HP40; have n0_ := Aside0.mk (IsS99.grown dq64 hg (IsS99.own_neS HI0.out HO503.out dq60)); have n1_ := Aside0.mk (hp_); have n2_ := Aside0.mk (hp_); have n3_ := Aside0.mk ((by rw [hw]; exact below_set (HB.out) (Nat.le_trans HL.out GB29.out) : Below w0.heap.size w0 w41)); have n4_ := Aside0.mk (KeepBut.trans dq62 (KeepBut.of_grown hg g) (Kd.S_base2 HO503.out)); clear HI0; clear HO500; clear HO503; clear HB; clear HK; have HI0 := n0_; have HO500 := n1_; have HO503 := n2_; have HB := n3_; have HK := n4_; clear n0_ n1_ n2_ n3_ n4_; clear hg hw hp_))
  go_ret
  exact ⟨_, dq33, dq89, dq64, dq63, dq62⟩
 rw [if_neg c25] at H
 have c25b0 := beq_eq_false_iff_ne.mpr c25
 have c25b1 := bne_iff_ne.mpr c25
 by_cases c42 : t509 = 2
 rotate_left
 ·rw [if_neg c42] at H
  have c42b0 := beq_eq_false_iff_ne.mpr c42
  have c42b1 := bne_iff_ne.mpr c42
  simp only [Option.some.injEq, Prod.mk.injEq] at H
  obtain ⟨rfl, rfl⟩ := H
  go_enter Tryd.func53, Tryd.ntmps53
  go_wp2_with (first | ((with_reducible refine gate_callee (f := 87) rfl ?_); refine goesL_ (some 7) rfl rfl Tryd.func87 dq29 rfl #[.pointer (some ⟨g, 0, none⟩)] rfl dq28 ?_; (with_reducible refine (spec_l1Rd_name.calls g s0_0 s0_1 t496 t497 w0 _ ?side1 ?side2 A2.out).mono ?_); (case side1 => exact dq6); (case side2 => exact dq7); rintro e w59 ⟨rfl, hi, hb, hk⟩; refine ⟨_, rfl, ?_⟩; have n0_ := Aside0.mk (KeepBut.trans dq62 hk (.inl rfl)); have n1_ := Aside0.mk (hb); have n2_ := Aside0.mk (hi); clear HK; clear HB; clear HI0; have HK := n0_; have HB := n1_; have HI0 := n2_; clear n0_ n1_ n2_; (try clear hb); (try clear hb2); (try clear hk); (try clear hi)) | ((with_reducible refine gate_dst (N := 9) rfl ?_); refine Kd.S_lit k39 _ 39 ?hg (N := 9) ?hd (xs := ([(⟨(-1), t496, (⟨#[]⟩ : ByteArray), ([] : List (S46))⟩ : S39)] : List (S39))) (inner := [.int .i64 (-1), .string t496, .string (⟨#[]⟩ : ByteArray), .slice none 0 0]) (ok := fun _ => True) (okp := fun _ => True) ?hr ?hp (fun _ hk => hk) trivial (Below.refl _ _) (Nat.le_refl _) dq32 ?_; (case hd => rfl); (case hg => rfl); (case hr => exact dq1); (case hp => exact (Reps.c4 (show Kd.M k39 _ _ _ (⟨(-1), t496, (⟨#[]⟩ : ByteArray), ([] : List (S46))⟩ : S39) [.int .i64 (-1), .string t496, .string (⟨#[]⟩ : ByteArray), .slice none 0 0] from (k39_mkM _ _ _ (⟨(-1), t496, (⟨#[]⟩ : ByteArray), ([] : List (S46))⟩ : S39) (Kd.R_nil _ _ _ _ _))) (Reps.none _ _))); intro v499 w60 ho61 hb hg_ hnew_; clear hg_ hnew_; (first | rw [← Ny498.out] at ho61 | (simp only [Int.reduceToNat] at ho61; rw [← Ny498.out] at ho61)); have n0_ := Aside0.mk (Kd.S_lower ho61 (keep_size (w := w) (g := g) (row := none) dq62)); have n1_ := Aside0.mk (IsS99.below dq64 hb); have n2_ := Aside0.mk (KeepBut.trans dq62 (KeepBut.of_below hb g none) (.inl rfl)); have n3_ := Aside0.mk (below_step dq63 hb); clear HI0; clear HK; clear HB; have HO500 := n0_; have HI0 := n1_; have HK := n2_; have HB := n3_; clear n0_ n1_ n2_ n3_; clear hb ho61; obtain ⟨Ao62, co62, eo62⟩ := Kd.S_slice HO500.out; subst eo62) | ((with_reducible refine gate_callee (f := 86) rfl ?_); refine goesL_ (some 10) rfl rfl Tryd.func86 dq29 rfl #[.pointer (some ⟨g, 0, none⟩), .slice Ao62 y498.length co62, .int .i64 0, .int .i64 2] rfl dq28 ?_; (with_reducible refine (spec_l1Rd_grow.calls k g s0_0 t497 (.slice Ao62 y498.length co62) (fun _ => True) y498 0 2 t501 t504 w0 w _ ?side1 ?side2 HL.out ?side4 ?side5 A3.out).mono ?_); (case side1 => exact dq6); (case side2 => exact dq7); (case side4 => exact dq12); (case side5 => exact dq13); rintro e w63 ⟨v502, rfl, ho0, hi, hb, hk⟩; refine ⟨_, rfl, ?_⟩; have n0_ := Aside0.mk ho0; have n1_ := Aside0.mk ho0; have n2_ := Aside0.mk hk; have n3_ := Aside0.mk (hb); have n4_ := Aside0.mk (hi); clear HO500; clear HK; clear HB; clear HI0; have HO500 := n0_; have HO503 := n1_; have HK := n2_; have HB := n3_; have HI0 := n4_; clear n0_ n1_ n2_ n3_ n4_; (try clear hb); (try clear hb2); (try clear hk); (try clear hi); (try clear ho0)) | ((with_reducible refine gate_callee (f := 52) rfl ?_); refine goesL_ (some 12) rfl rfl Tryd.func52 dq29 rfl #[.pointer (some ⟨g, 0, none⟩), .int .i64 24] rfl dq28 ?_; (with_reducible refine (spec_l1Rd_once.calls g s0_0 t504 24 true t506 w0 _ ?side1 ?side2 A4.out).mono ?_); (case side1 => exact dq6); (case side2 => exact dq7); rintro e w64 ⟨rfl, hi, hb, hk⟩; refine ⟨_, rfl, ?_⟩; have n0_ := Aside0.mk (Kd.S_mono (Kd.S_keep (IsS99.apartS (show IsS99 w0 _ g s0_0 t504 from by repeat (first | (with_reducible first | exact HI0.out | apply IsS99.alloc | apply IsS99.drewN | apply IsS99.drew | apply IsS99.set_1) | exact HI0.out)) dq88 dq60) hk (fun _ h => h.2)) (fun _ h => h.1)); have n1_ := Aside0.mk (Kd.S_mono (Kd.S_keep (IsS99.apartS (show IsS99 w0 _ g s0_0 t504 from by repeat (first | (with_reducible first | exact HI0.out | apply IsS99.alloc | apply IsS99.drewN | apply IsS99.drew | apply IsS99.set_1) | exact HI0.out)) dq87 dq60) hk (fun _ h => h.2)) (fun _ h => h.1)); have n2_ := Aside0.mk (KeepBut.trans dq62 hk (.inl rfl)); have n3_ := Aside0.mk (hb); have n4_ := Aside0.mk (hi); clear HO500; clear HO503; clear HK; clear HB; clear HI0; have HO500 := n0_; have HO503 := n1_; have HK := n2_; have HB := n3_; have HI0 := n4_; clear n0_ n1_ n2_ n3_ n4_; (try clear hb); (try clear hb2); (try clear hk); (try clear hi); obtain ⟨Ao65, co65, eo65⟩ := Kd.S_slice HO503.out; subst eo65) | ((with_reducible refine gate_callee (f := 63) rfl ?_); refine goesL_ (some 16) rfl rfl Tryd.func63 dq29 rfl #[.pointer (some ⟨g, 0, none⟩), .int .i64 (t501.length : Int)] rfl dq28 ?_; (with_reducible refine (spec_l1Rd_below.calls g s0_0 t506 (t501.length : Int) t507 t508 w0 _ ?side1 ?side2 A6.out).mono ?_); (case side1 => exact dq6); (case side2 => exact dq7); rintro e w66 ⟨rfl, hi, hb, hk⟩; refine ⟨_, rfl, ?_⟩; have n0_ := Aside0.mk (Kd.S_mono (Kd.S_keep (IsS99.apartS (show IsS99 w0 _ g s0_0 t506 from by repeat (first | (with_reducible first | exact HI0.out | apply IsS99.alloc | apply IsS99.drewN | apply IsS99.drew | apply IsS99.set_1) | exact HI0.out)) dq88 dq60) hk (fun _ h => h.2)) (fun _ h => h.1)); have n1_ := Aside0.mk (Kd.S_mono (Kd.S_keep (IsS99.apartS (show IsS99 w0 _ g s0_0 t506 from by repeat (first | (with_reducible first | exact HI0.out | apply IsS99.alloc | apply IsS99.drewN | apply IsS99.drew | apply IsS99.set_1) | exact HI0.out)) dq87 dq60) hk (fun _ h => h.2)) (fun _ h => h.1)); have n2_ := Aside0.mk (KeepBut.trans dq62 hk (.inl rfl)); have n3_ := Aside0.mk (hb); have n4_ := Aside0.mk (hi); clear HO500; clear HO503; clear HK; clear HB; clear HI0; have HO500 := n0_; have HO503 := n1_; have HK := n2_; have HB := n3_; have HI0 := n4_; clear n0_ n1_ n2_ n3_ n4_; (try clear hb); (try clear hb2); (try clear hk); (try clear hi)) | ((with_reducible refine gate_callee (f := 63) rfl ?_); refine goesL_ (some 18) rfl rfl Tryd.func63 dq29 rfl #[.pointer (some ⟨g, 0, none⟩), .int .i64 3] rfl dq28 ?_; (with_reducible refine (spec_l1Rd_below.calls g s0_0 t508 3 t509 t510 w0 _ ?side1 ?side2 A7.out).mono ?_); (case side1 => exact dq6); (case side2 => exact dq7); rintro e w67 ⟨rfl, hi, hb, hk⟩; refine ⟨_, rfl, ?_⟩; have n0_ := Aside0.mk (Kd.S_mono (Kd.S_keep (IsS99.apartS (show IsS99 w0 _ g s0_0 t508 from by repeat (first | (with_reducible first | exact HI0.out | apply IsS99.alloc | apply IsS99.drewN | apply IsS99.drew | apply IsS99.set_1) | exact HI0.out)) dq88 dq60) hk (fun _ h => h.2)) (fun _ h => h.1)); have n1_ := Aside0.mk (Kd.S_mono (Kd.S_keep (IsS99.apartS (show IsS99 w0 _ g s0_0 t508 from by repeat (first | (with_reducible first | exact HI0.out | apply IsS99.alloc | apply IsS99.drewN | apply IsS99.drew | apply IsS99.set_1) | exact HI0.out)) dq87 dq60) hk (fun _ h => h.2)) (fun _ h => h.1)); have n2_ := Aside0.mk (KeepBut.trans dq62 hk (.inl rfl)); have n3_ := Aside0.mk (hb); have n4_ := Aside0.mk (hi); clear HO500; clear HO503; clear HK; clear HB; clear HI0; have HO500 := n0_; have HO503 := n1_; have HK := n2_; have HB := n3_; have HI0 := n4_; clear n0_ n1_ n2_ n3_ n4_; (try clear hb); (try clear hb2); (try clear hk); (try clear hi)))
  go_ret
  exact ⟨_, dq33, dq89, dq64, dq63, dq62⟩
 rw [if_pos c42] at H
 have c42b0 := beq_iff_eq.mpr c42
 have c42b1 := bne_eq_false_iff_eq.mpr c42
 clear c42
 replace H := Option.bind_eq_some_iff.mp H
 obtain ⟨⟨t517, t518⟩, A430, H⟩ := H
 replace H : (if 0 ≤ t507 then (if t507 < (t501.length : Int) then (some ((t501.set (t507 : Int).toNat (⟨(rd_T39 t501 t507).f0, t517, (rd_T39 t501 t507).f2, (rd_T39 t501 t507).f3⟩ : S39)), t518)) else (none)) else (none)) = some (r1, r2) := H
 have A43 := Aside0.mk A430
 clear A430
 by_cases c44 : 0 ≤ t507
 rotate_left
 ·rw [if_neg c44] at H
  exact absurd H dq32
 rw [if_pos c44] at H
 have c44b0 := decide_eq_true c44
 clear c44
 by_cases c45 : t507 < (t501.length : Int)
 rotate_left
 ·rw [if_neg c45] at H
  exact absurd H dq32
 rw [if_pos c45] at H
 have c45b0 := decide_eq_true c45
 clear c45
 obtain ⟨y519, hy519⟩ : ∃ y_ : List (S39), y_ = (t501.set (t507 : Int).toNat (⟨(rd_T39 t501 t507).f0, t517, (rd_T39 t501 t507).f2, (rd_T39 t501 t507).f3⟩ : S39)) := ⟨_, rfl⟩
 replace H : (some (y519, t518)) = some (r1, r2) := by first | (rw [hy519]; with_reducible exact H) | (have H2_ := (Option.bind_some _ _).symm.trans H; rw [hy519]; with_reducible exact H2_) | (have H2_ := (Option.bind_some _ _).symm.trans H; with_reducible exact H2_) | with_reducible exact H | (rw [hy519]; exact H) | exact H
 have Ny519 := Aside0.mk hy519
 clear hy519
 simp only [Option.some.injEq, Prod.mk.injEq] at H
 obtain ⟨rfl, rfl⟩ := H
 go_enter Tryd.func53, Tryd.ntmps53
 go_wp2_with (first | ((with_reducible refine gate_callee (f := 87) rfl ?_); refine goesL_ (some 7) rfl rfl Tryd.func87 dq29 rfl #[.pointer (some ⟨g, 0, none⟩)] rfl dq28 ?_; (with_reducible refine (spec_l1Rd_name.calls g s0_0 s0_1 t496 t497 w0 _ ?side1 ?side2 A2.out).mono ?_); (case side1 => exact dq6); (case side2 => exact dq7); rintro e w47 ⟨rfl, hi, hb, hk⟩; refine ⟨_, rfl, ?_⟩; have n0_ := Aside0.mk (KeepBut.trans dq62 hk (.inl rfl)); have n1_ := Aside0.mk (hb); have n2_ := Aside0.mk (hi); clear HK; clear HB; clear HI0; have HK := n0_; have HB := n1_; have HI0 := n2_; clear n0_ n1_ n2_; (try clear hb); (try clear hb2); (try clear hk); (try clear hi)) | ((with_reducible refine gate_dst (N := 9) rfl ?_); refine Kd.S_lit k39 _ 39 ?hg (N := 9) ?hd (xs := ([(⟨(-1), t496, (⟨#[]⟩ : ByteArray), ([] : List (S46))⟩ : S39)] : List (S39))) (inner := [.int .i64 (-1), .string t496, .string (⟨#[]⟩ : ByteArray), .slice none 0 0]) (ok := fun _ => True) (okp := fun _ => True) ?hr ?hp (fun _ hk => hk) trivial (Below.refl _ _) (Nat.le_refl _) dq32 ?_; (case hd => rfl); (case hg => rfl); (case hr => exact dq1); (case hp => exact (Reps.c4 (show Kd.M k39 _ _ _ (⟨(-1), t496, (⟨#[]⟩ : ByteArray), ([] : List (S46))⟩ : S39) [.int .i64 (-1), .string t496, .string (⟨#[]⟩ : ByteArray), .slice none 0 0] from (k39_mkM _ _ _ (⟨(-1), t496, (⟨#[]⟩ : ByteArray), ([] : List (S46))⟩ : S39) (Kd.R_nil _ _ _ _ _))) (Reps.none _ _))); intro v499 w48 ho49 hb hg_ hnew_; clear hg_ hnew_; (first | rw [← Ny498.out] at ho49 | (simp only [Int.reduceToNat] at ho49; rw [← Ny498.out] at ho49)); have n0_ := Aside0.mk (Kd.S_lower ho49 (keep_size (w := w) (g := g) (row := none) dq62)); have n1_ := Aside0.mk (IsS99.below dq64 hb); have n2_ := Aside0.mk (KeepBut.trans dq62 (KeepBut.of_below hb g none) (.inl rfl)); have n3_ := Aside0.mk (below_step dq63 hb); clear HI0; clear HK; clear HB; have HO500 := n0_; have HI0 := n1_; have HK := n2_; have HB := n3_; clear n0_ n1_ n2_ n3_; clear hb ho49; obtain ⟨Ao50, co50, eo50⟩ := Kd.S_slice HO500.out; subst eo50) | ((with_reducible refine gate_callee (f := 86) rfl ?_); refine goesL_ (some 10) rfl rfl Tryd.func86 dq29 rfl #[.pointer (some ⟨g, 0, none⟩), .slice Ao50 y498.length co50, .int .i64 0, .int .i64 2] rfl dq28 ?_; (with_reducible refine (spec_l1Rd_grow.calls k g s0_0 t497 (.slice Ao50 y498.length co50) (fun _ => True) y498 0 2 t501 t504 w0 w _ ?side1 ?side2 HL.out ?side4 ?side5 A3.out).mono ?_); (case side1 => exact dq6); (case side2 => exact dq7); (case side4 => exact dq12); (case side5 => exact dq13); rintro e w51 ⟨v502, rfl, ho0, hi, hb, hk⟩; refine ⟨_, rfl, ?_⟩; have n0_ := Aside0.mk ho0; have n1_ := Aside0.mk ho0; have n2_ := Aside0.mk hk; have n3_ := Aside0.mk (hb); have n4_ := Aside0.mk (hi); clear HO500; clear HK; clear HB; clear HI0; have HO500 := n0_; have HO503 := n1_; have HK := n2_; have HB := n3_; have HI0 := n4_; clear n0_ n1_ n2_ n3_ n4_; (try clear hb); (try clear hb2); (try clear hk); (try clear hi); (try clear ho0)) | ((with_reducible refine gate_callee (f := 52) rfl ?_); refine goesL_ (some 12) rfl rfl Tryd.func52 dq29 rfl #[.pointer (some ⟨g, 0, none⟩), .int .i64 24] rfl dq28 ?_; (with_reducible refine (spec_l1Rd_once.calls g s0_0 t504 24 true t506 w0 _ ?side1 ?side2 A4.out).mono ?_); (case side1 => exact dq6); (case side2 => exact dq7); rintro e w52 ⟨rfl, hi, hb, hk⟩; refine ⟨_, rfl, ?_⟩; have n0_ := Aside0.mk (Kd.S_mono (Kd.S_keep (IsS99.apartS (show IsS99 w0 _ g s0_0 t504 from by repeat (first | (with_reducible first | exact HI0.out | apply IsS99.alloc | apply IsS99.drewN | apply IsS99.drew | apply IsS99.set_1) | exact HI0.out)) dq88 dq60) hk (fun _ h => h.2)) (fun _ h => h.1)); have n1_ := Aside0.mk (Kd.S_mono (Kd.S_keep (IsS99.apartS (show IsS99 w0 _ g s0_0 t504 from by repeat (first | (with_reducible first | exact HI0.out | apply IsS99.alloc | apply IsS99.drewN | apply IsS99.drew | apply IsS99.set_1) | exact HI0.out)) dq87 dq60) hk (fun _ h => h.2)) (fun _ h => h.1)); have n2_ := Aside0.mk (KeepBut.trans dq62 hk (.inl rfl)); have n3_ := Aside0.mk (hb); have n4_ := Aside0.mk (hi); clear HO500; clear HO503; clear HK; clear HB; clear HI0; have HO500 := n0_; have HO503 := n1_; have HK := n2_; have HB := n3_; have HI0 := n4_; clear n0_ n1_ n2_ n3_ n4_; (try clear hb); (try clear hb2); (try clear hk); (try clear hi); obtain ⟨Ao53, co53, eo53⟩ := Kd.S_slice HO503.out; subst eo53) | ((with_reducible refine gate_callee (f := 63) rfl ?_); refine goesL_ (some 16) rfl rfl Tryd.func63 dq29 rfl #[.pointer (some ⟨g, 0, none⟩), .int .i64 (t501.length : Int)] rfl dq28 ?_; (with_reducible refine (spec_l1Rd_below.calls g s0_0 t506 (t501.length : Int) t507 t508 w0 _ ?side1 ?side2 A6.out).mono ?_); (case side1 => exact dq6); (case side2 => exact dq7); rintro e w54 ⟨rfl, hi, hb, hk⟩; refine ⟨_, rfl, ?_⟩; have n0_ := Aside0.mk (Kd.S_mono (Kd.S_keep (IsS99.apartS (show IsS99 w0 _ g s0_0 t506 from by repeat (first | (with_reducible first | exact HI0.out | apply IsS99.alloc | apply IsS99.drewN | apply IsS99.drew | apply IsS99.set_1) | exact HI0.out)) dq88 dq60) hk (fun _ h => h.2)) (fun _ h => h.1)); have n1_ := Aside0.mk (Kd.S_mono (Kd.S_keep (IsS99.apartS (show IsS99 w0 _ g s0_0 t506 from by repeat (first | (with_reducible first | exact HI0.out | apply IsS99.alloc | apply IsS99.drewN | apply IsS99.drew | apply IsS99.set_1) | exact HI0.out)) dq87 dq60) hk (fun _ h => h.2)) (fun _ h => h.1)); have n2_ := Aside0.mk (KeepBut.trans dq62 hk (.inl rfl)); have n3_ := Aside0.mk (hb); have n4_ := Aside0.mk (hi); clear HO500; clear HO503; clear HK; clear HB; clear HI0; have HO500 := n0_; have HO503 := n1_; have HK := n2_; have HB := n3_; have HI0 := n4_; clear n0_ n1_ n2_ n3_ n4_; (try clear hb); (try clear hb2); (try clear hk); (try clear hi)) | ((with_reducible refine gate_callee (f := 63) rfl ?_); refine goesL_ (some 18) rfl rfl Tryd.func63 dq29 rfl #[.pointer (some ⟨g, 0, none⟩), .int .i64 3] rfl dq28 ?_; (with_reducible refine (spec_l1Rd_below.calls g s0_0 t508 3 t509 t510 w0 _ ?side1 ?side2 A7.out).mono ?_); (case side1 => exact dq6); (case side2 => exact dq7); rintro e w55 ⟨rfl, hi, hb, hk⟩; refine ⟨_, rfl, ?_⟩; have n0_ := Aside0.mk (Kd.S_mono (Kd.S_keep (IsS99.apartS (show IsS99 w0 _ g s0_0 t508 from by repeat (first | (with_reducible first | exact HI0.out | apply IsS99.alloc | apply IsS99.drewN | apply IsS99.drew | apply IsS99.set_1) | exact HI0.out)) dq88 dq60) hk (fun _ h => h.2)) (fun _ h => h.1)); have n1_ := Aside0.mk (Kd.S_mono (Kd.S_keep (IsS99.apartS (show IsS99 w0 _ g s0_0 t508 from by repeat (first | (with_reducible first | exact HI0.out | apply IsS99.alloc | apply IsS99.drewN | apply IsS99.drew | apply IsS99.set_1) | exact HI0.out)) dq87 dq60) hk (fun _ h => h.2)) (fun _ h => h.1)); have n2_ := Aside0.mk (KeepBut.trans dq62 hk (.inl rfl)); have n3_ := Aside0.mk (hb); have n4_ := Aside0.mk (hi); clear HO500; clear HO503; clear HK; clear HB; clear HI0; have HO500 := n0_; have HO503 := n1_; have HK := n2_; have HB := n3_; have HI0 := n4_; clear n0_ n1_ n2_ n3_ n4_; (try clear hb); (try clear hb2); (try clear hk); (try clear hi)) | ((with_reducible refine gate_callee (f := 88) rfl ?_); refine goesL_ (some 41) rfl rfl Tryd.func88 dq29 rfl #[.pointer (some ⟨g, 0, none⟩)] rfl dq28 ?_; (with_reducible refine (spec_l1Rd_text.calls g s0_0 t510 t517 t518 w0 _ ?side1 ?side2 A43.out).mono ?_); (case side1 => exact dq6); (case side2 => exact dq7); rintro e w56 ⟨rfl, hi, hb, hk⟩; refine ⟨_, rfl, ?_⟩; have n0_ := Aside0.mk (Kd.S_mono (Kd.S_keep (IsS99.apartS (show IsS99 w0 _ g s0_0 t510 from by repeat (first | (with_reducible first | exact HI0.out | apply IsS99.alloc | apply IsS99.drewN | apply IsS99.drew | apply IsS99.set_1) | exact HI0.out)) dq88 dq60) hk (fun _ h => h.2)) (fun _ h => h.1)); have n1_ := Aside0.mk (Kd.S_mono (Kd.S_keep (IsS99.apartS (show IsS99 w0 _ g s0_0 t510 from by repeat (first | (with_reducible first | exact HI0.out | apply IsS99.alloc | apply IsS99.drewN | apply IsS99.drew | apply IsS99.set_1) | exact HI0.out)) dq87 dq60) hk (fun _ h => h.2)) (fun _ h => h.1)); have n2_ := Aside0.mk (KeepBut.trans dq62 hk (.inl rfl)); have n3_ := Aside0.mk (hb); have n4_ := Aside0.mk (hi); clear HO500; clear HO503; clear HK; clear HB; clear HI0; have HO500 := n0_; have HO503 := n1_; have HK := n2_; have HB := n3_; have HI0 := n4_; clear n0_ n1_ n2_ n3_ n4_; (try clear hb); (try clear hb2); (try clear hk); (try clear hi); have p46 : 0 ≤ (t507 : Int) := of_decide_eq_true dq30; have q46 : (t507 : Int) < ((t501.length : Int) : Int) := of_decide_eq_true dq30; obtain ⟨go46, co46, eo46, gb46, gl46, cl46, HG46⟩ := Kd.S_form HO503.out dq45; (first | cases eo46 | (injection eo46 with ea_ en_ ec_; (first | subst ea_ | (injection ea_ with ea_; subst ea_)); subst ec_; clear en_)); have GB46 := Aside0.mk gb46; have GG46 := Aside0.mk HG46; clear gb46 gl46 HG46; obtain ⟨_, ce46, hcl46, hM46, hcc46, hfr46, _, _⟩ := Kd.S_elem HO503.out z39 (t507 : Int) p46 q46; obtain ⟨ve46_3, rfl, ge46_3⟩ := k39_openM hM46; have hx46_0 : w56.cell? ⟨go46, (t507 : Int).toNat * 4, none⟩ = some (.int .i64 ((rd_T39 t501 t507).f0)) := hcc46 0 _ rfl; have hx46_1 : w56.cell? ⟨go46, (t507 : Int).toNat * 4 + 1, none⟩ = some (.string ((rd_T39 t501 t507).f1)) := hcc46 1 _ rfl; have hx46_2 : w56.cell? ⟨go46, (t507 : Int).toNat * 4 + 2, none⟩ = some (.string ((rd_T39 t501 t507).f2)) := hcc46 2 _ rfl; have hx46_3 : w56.cell? ⟨go46, (t507 : Int).toNat * 4 + 3, none⟩ = some (ve46_3) := hcc46 3 _ rfl; have hf46_0 : w56.frozen? ⟨go46, (t507 : Int).toNat * 4, none⟩ = false := hfr46 0; have hf46_1 : w56.frozen? ⟨go46, (t507 : Int).toNat * 4 + 1, none⟩ = false := hfr46 1; have hf46_2 : w56.frozen? ⟨go46, (t507 : Int).toNat * 4 + 2, none⟩ = false := hfr46 2; have hf46_3 : w56.frozen? ⟨go46, (t507 : Int).toNat * 4 + 3, none⟩ = false := hfr46 3; clear hcl46 hcc46 hfr46 hM46; replace p46 := eq_true p46; replace q46 := eq_true q46; have n_ := Aside0.mk (Kd.S_mono (ok' := (fun _ => True)) HO503.out (fun _ _ => trivial)); clear HO503; have HO503 := n_; clear n_; have HX57 := Aside0.mk (show Kd.S k39 39 w56 w.heap.size (fun k_ => ((fun _ => True)) k_ ∧ ¬ ((fun _ => False)) k_) (.slice (some ⟨go46, 0, none⟩) t501.length co53) t501 from dq86); obtain ⟨oki57, ce57, hcl57, hM57, hcc57, hfr57, hoki57, hH57⟩ := Kd.S_elem HX57.out z39 (t507 : Int) (of_decide_eq_true dq30) (by have h_ : (t507 : Int) < ((t501.length : Int) : Int) := of_decide_eq_true dq30; first | exact h_ | (have e_ := (Kd.S_reads' HO503.out).1; omega) | simpa using h_); obtain ⟨ve57_3, rfl, ge57_3⟩ := k39_openM hM57; have HP57 := Kd.S_seg hH57 (of_decide_eq_true dq30) (by have h_ : (t507 : Int) < ((t501.length : Int) : Int) := of_decide_eq_true dq30; first | exact h_ | (have e_ := (Kd.S_reads' HO503.out).1; omega) | simpa using h_) (seg := [.string t517]) (j := 1) (show 2 ≤ 4 from by decide) (x' := (⟨(rd_T39 t501 t507).f0, t517, (rd_T39 t501 t507).f2, (rd_T39 t501 t507).f3⟩ : S39)) (k39_mkM _ _ _ (⟨(rd_T39 t501 t507).f0, t517, (rd_T39 t501 t507).f2, (rd_T39 t501 t507).f3⟩ : S39) (Kd.R_mono ge57_3 (fun _ h_ => Or.inl h_))) (fun _ hk => hk) (fun k_ hk_ => hk_.elim); have hx57_1 := hcc57 1 _ rfl; (try simp only [show (k39).sz = 4 from rfl, Nat.mul_one, Nat.add_zero] at hx57_1); have hf57_1 := hfr57 1; (try simp only [show (k39).sz = 4 from rfl, Nat.mul_one, Nat.add_zero] at hf57_1); clear hcl57 hcc57 hfr57 hM57 hoki57 hH57) | ((with_reducible refine gate_store (t := 9) (p := 43) rfl ?_); refine store_event (t := 9) (p := 43) (v := ?vo_w58) (w1 := (w56.setCell ⟨go46, (t507 : Int).toNat * 4 + 1, none⟩ (.string t517))) ?hg ?ho ?hn ?hr ?_; (case ho => rfl); (case hg => rfl); (case hn => rfl); (case hr => exact dq1); intro w58 hw; have hg : w56.grownBy w58 (some go46) := (by rw [hw]; exact HP57.2); have hp_ : Kd.S k39 39 w58 w.heap.size (fun _ => True) (.slice (some ⟨go46, 0, none⟩) t501.length co53) y519 := (by rw [hw, Ny519.out]; exact HP57.1); clear HP57; have n0_ := Aside0.mk (IsS99.grown dq64 hg (IsS99.own_neS HI0.out HO503.out dq60)); have n1_ := Aside0.mk (hp_); have n2_ := Aside0.mk (hp_); have n3_ := Aside0.mk ((by rw [hw]; exact below_set (HB.out) (Nat.le_trans HL.out GB46.out) : Below w0.heap.size w0 w58)); have n4_ := Aside0.mk (KeepBut.trans dq62 (KeepBut.of_grown hg g) (Kd.S_base2 HO503.out)); clear HI0; clear HO500; clear HO503; clear HB; clear HK; have HI0 := n0_; have HO500 := n1_; have HO503 := n2_; have HB := n3_; have HK := n4_; clear n0_ n1_ n2_ n3_ n4_; clear hg hw hp_))
 go_ret
 exact ⟨_, dq33, dq89, dq64, dq63, dq62⟩

/-! ### spec_DrawKidsOf: function 29 -/
def spec_DrawKidsOf.f (k : Nat) (l0 : List Int) : Option ((List (S39)) × Int) := (spec_l1Open.f l0).bind fun bt580 => ((spec_l1Rd_doc.f k bt580.1 bt580.2).bind fun bt583 => ((spec_l1Rd_off.f k bt580.1 bt583.2 0 (wrap64 ((bt583.1.length : Int) - 1))).bind fun bt587 => (some (bt583.1, bt587.1))))
set_option maxHeartbeats 8000000 in
set_option maxRecDepth 100000 in
theorem spec_DrawKidsOf.calls (k : Nat) (A0 : Option Addr) (c0 : Nat) (l0 : List Int) (r1 : List (S39)) (r2 : Int) (w : World) (hr0 : Kd.C (Kd.int .u8) w A0 l0.length l0) (hc0 : l0.length ≤ c0) (h : spec_DrawKidsOf.f k l0 = some (r1, r2)) :
  Calls Tryd.prog 29 #[.slice A0 l0.length c0] w fun e w' => ∃ v0_ : Value, e = .returned (.tuple #[v0_, .int .i64 r2]) ∧ Kd.S k39 39 w' w.heap.size (fun _ => True) v0_ r1 ∧ Below w.heap.size w w' := by
 have HR0 := Aside0.mk hr0
 have HC0 := Aside0.mk hc0
 clear hr0 hc0
 have HB := Aside0.mk (Below.refl w.heap.size w)
 have H : ((spec_l1Open.f l0).bind fun bt580 => ((spec_l1Rd_doc.f k bt580.1 bt580.2).bind fun bt583 => ((spec_l1Rd_off.f k bt580.1 bt583.2 0 (wrap64 ((bt583.1.length : Int) - 1))).bind fun bt587 => (some (bt583.1, bt587.1))))) = some (r1, r2) := h
 clear h
 replace H := Option.bind_eq_some_iff.mp H
 obtain ⟨⟨t580, t581⟩, A20, H⟩ := H
 replace H : ((spec_l1Rd_doc.f k t580 t581).bind fun bt583 => ((spec_l1Rd_off.f k t580 bt583.2 0 (wrap64 ((bt583.1.length : Int) - 1))).bind fun bt587 => (some (bt583.1, bt587.1)))) = some (r1, r2) := H
 have A2 := Aside0.mk A20
 clear A20
 replace H := Option.bind_eq_some_iff.mp H
 obtain ⟨⟨t583, t586⟩, A30, H⟩ := H
 replace H : ((spec_l1Rd_off.f k t580 t586 0 (wrap64 ((t583.length : Int) - 1))).bind fun bt587 => (some (t583, bt587.1))) = some (r1, r2) := H
 have A3 := Aside0.mk A30
 clear A30
 replace H := Option.bind_eq_some_iff.mp H
 obtain ⟨⟨t587, t588⟩, A40, H⟩ := H
 replace H : (some (t583, t587)) = some (r1, r2) := H
 have A4 := Aside0.mk A40
 clear A40
 simp only [Option.some.injEq, Prod.mk.injEq] at H
 obtain ⟨rfl, rfl⟩ := H
 go_enter Tryd.func29, Tryd.ntmps29
 go_wp2_with (first | ((with_reducible refine gate_callee (f := 50) rfl ?_); refine goesL_ (some 7) rfl rfl Tryd.func50 dq29 rfl #[.slice A0 l0.length c0] rfl dq28 ?_; (with_reducible refine (spec_l1Open.calls _ _ l0 t580 t581 w _ ?side1 ?side2 ?side3 A2.out).mono ?_); (case side1 => repeat (first | (with_reducible first | exact HB.out | apply below_alloc | apply pw_below_drewN | apply below_drew1) | exact HB.out)); (case side2 => exact HR0.out); (case side3 => exact dq14); rintro e w5 ⟨g582, rfl, hi, hb, hb2⟩; refine ⟨_, rfl, ?_⟩; have n0_ := Aside0.mk (hb); have n1_ := Aside0.mk (hi); clear HB; have HB := n0_; have HI582 := n1_; clear n0_ n1_; (try clear hb); (try clear hb2); (try clear hk); (try clear hi)) | ((with_reducible refine gate_callee (f := 53) rfl ?_); refine goesL_ (some 9) rfl rfl Tryd.func53 dq29 rfl #[.pointer (some ⟨g582, 0, none⟩)] rfl dq28 ?_; (with_reducible refine (spec_l1Rd_doc.calls k g582 t580 t581 t583 t586 w _ ?side1 ?side2 A3.out).mono ?_); (case side1 => repeat (first | (with_reducible first | exact HI582.out | apply IsS99.alloc | apply IsS99.drewN | apply IsS99.drew | apply IsS99.set_1) | exact HI582.out)); (case side2 => repeat (first | (with_reducible first | exact HB.out | apply below_alloc | apply pw_below_drewN | apply below_drew1 | refine below_set ?_ (IsS99.ge HI582.out)) | exact HB.out)); rintro e w6 ⟨v584, rfl, ho0, hi, hb, hk⟩; refine ⟨_, rfl, ?_⟩; have n0_ := Aside0.mk (Kd.S_lower ho0 (below_size dq90)); have n1_ := Aside0.mk (hb); have n2_ := Aside0.mk (hi); clear HB; clear HI582; have HO585 := n0_; have HB := n1_; have HI582 := n2_; clear n0_ n1_ n2_; (try clear hb); (try clear hb2); (try clear hk); (try clear hi); (try clear ho0); obtain ⟨Ao7, co7, eo7⟩ := Kd.S_slice HO585.out; subst eo7) | ((with_reducible refine gate_callee (f := 54) rfl ?_); refine goesL_ (some 15) rfl rfl Tryd.func54 dq29 rfl #[.pointer (some ⟨g582, 0, none⟩), .int .i64 0, .int .i64 (wrap64 ((t583.length : Int) - 1))] rfl dq28 ?_; (with_reducible refine (spec_l1Rd_off.calls k g582 t580 t586 0 (wrap64 ((t583.length : Int) - 1)) t587 t588 w _ ?side1 ?side2 A4.out).mono ?_); (case side1 => repeat (first | (with_reducible first | exact HI582.out | apply IsS99.alloc | apply IsS99.drewN | apply IsS99.drew | apply IsS99.set_1) | exact HI582.out)); (case side2 => repeat (first | (with_reducible first | exact HB.out | apply below_alloc | apply pw_below_drewN | apply below_drew1 | refine below_set ?_ (IsS99.ge HI582.out)) | exact HB.out)); rintro e w8 ⟨rfl, hi, hb, hk⟩; refine ⟨_, rfl, ?_⟩; have n0_ := Aside0.mk (Kd.S_mono (Kd.S_keep (IsS99.apartS (show IsS99 w _ g582 t580 t586 from by repeat (first | (with_reducible first | exact HI582.out | apply IsS99.alloc | apply IsS99.drewN | apply IsS99.drew | apply IsS99.set_1) | exact HI582.out)) (by (with_reducible repeat (first | apply Kd.S_alloc | apply Kd.S_drewN | apply Kd.S_drew)); exact HO585.out) dq60) hk (fun _ h => h.2)) (fun _ h => h.1)); have n1_ := Aside0.mk (hb); have n2_ := Aside0.mk (hi); clear HO585; clear HB; clear HI582; have HO585 := n0_; have HB := n1_; have HI582 := n2_; clear n0_ n1_ n2_; (try clear hb); (try clear hb2); (try clear hk); (try clear hi)))
 go_ret2
 exact ⟨_, dq33, by (with_reducible repeat (first | apply Kd.S_alloc | apply Kd.S_drewN | apply Kd.S_drew)); exact HO585.out, dq90⟩

/-! ### impl_has: function 64 -/
def impl_has.f (k : Nat) (l0 : List (S39)) (a1 : Int) : Option (Bool) := (impl_DocOk.f k l0).bind fun t326 => (if t326 = true then ((impl_in.f a1 0 (wrap64 ((l0.length : Int) - 1))).bind fun t327 => (some t327)) else (some false))
set_option maxHeartbeats 8000000 in
set_option maxRecDepth 100000 in
theorem impl_has.calls (k : Nat) (A0 : Option Addr) (c0 : Nat) (l0 : List (S39)) (a1 : Int) (r : Bool) (w : World) (hT : Gl w) (hr0 : Kd.C k39 w A0 l0.length l0) (hc0 : l0.length ≤ c0) (h : impl_has.f k l0 a1 = some r) :
  Calls Tryd.prog 64 #[.slice A0 l0.length c0, .int .i64 a1] w fun e w' => e = .returned (.bool r) ∧ Below w.heap.size w w' := by
 have HR0 := Aside0.mk hr0
 have HC0 := Aside0.mk hc0
 clear hr0 hc0
 have HT := Aside0.mk hT
 clear hT
 have HB := Aside0.mk (Below.refl w.heap.size w)
 have H : ((impl_DocOk.f k l0).bind fun t326 => (if t326 = true then ((impl_in.f a1 0 (wrap64 ((l0.length : Int) - 1))).bind fun t327 => (some t327)) else (some false))) = some r := h
 clear h
 replace H := Option.bind_eq_some_iff.mp H
 obtain ⟨t326, A30, H⟩ := H
 replace H : (if t326 = true then ((impl_in.f a1 0 (wrap64 ((l0.length : Int) - 1))).bind fun t327 => (some t327)) else (some false)) = some r := H
 have A3 := Aside0.mk A30
 clear A30
 by_cases c4 : t326 = true
 rotate_left
 ·replace c4 := Bool.eq_false_iff.mpr c4
  subst c4
  have H1 : (some false) = some r := by rw [if_neg (show ¬ (false = true) by decide)] at H; exact H
  clear H
  have H := H1
  clear H1
  obtain rfl := Option.some.inj H
  go_enter Tryd.func64, Tryd.ntmps64
  go_wp2_with (first | ((with_reducible refine gate_callee (f := 34) rfl ?_); refine goesL_ (some 6) rfl rfl Tryd.func34 dq29 rfl #[.slice A0 l0.length c0] rfl dq28 ?_; (with_reducible refine (impl_DocOk.calls k _ _ l0 false _ ?side3 ?side1 ?side2 A3.out).mono ?_); (case side1 => exact dq15); (case side2 => exact dq14); (case side3 => exact dq0); rintro e w7 ⟨rfl, hb⟩; refine ⟨_, rfl, ?_⟩; have n0_ := Aside0.mk (below_step dq27 hb); clear HB; have HB := n0_; clear n0_; (try clear hb); (try clear hb2); (try clear hk); (try clear hi)))
  go_ret
  exact ⟨dq33, dq27⟩
 subst c4
 have H1 : ((impl_in.f a1 0 (wrap64 ((l0.length : Int) - 1))).bind fun t327 => (some t327)) = some r := by rw [if_pos rfl] at H; exact H
 clear H
 have H := H1
 clear H1
 replace H := Option.bind_eq_some_iff.mp H
 obtain ⟨t327, A50, H⟩ := H
 replace H : (some t327) = some r := H
 have A5 := Aside0.mk A50
 clear A50
 obtain rfl := Option.some.inj H
 go_enter Tryd.func64, Tryd.ntmps64
 go_wp2_with (first | ((with_reducible refine gate_callee (f := 34) rfl ?_); refine goesL_ (some 6) rfl rfl Tryd.func34 dq29 rfl #[.slice A0 l0.length c0] rfl dq28 ?_; (with_reducible refine (impl_DocOk.calls k _ _ l0 true _ ?side3 ?side1 ?side2 A3.out).mono ?_); (case side1 => exact dq15); (case side2 => exact dq14); (case side3 => exact dq0); rintro e w6 ⟨rfl, hb⟩; refine ⟨_, rfl, ?_⟩; have n0_ := Aside0.mk (below_step dq27 hb); clear HB; have HB := n0_; clear n0_; (try clear hb); (try clear hb2); (try clear hk); (try clear hi)) | (go_at_call 56; (with_reducible refine (impl_in.calls a1 0 (wrap64 ((l0.length : Int) - 1)) t327 _ A5.out).mono ?_); rintro e w' ⟨rfl, ⟨nd, rfl⟩⟩))
 go_ret
 exact ⟨dq33, dq27⟩

/-! ### impl_below: function 67 -/
def impl_below.l0 : Nat → List (List Int) → List (S39) → Int → Int → Option ((List (List Int)))
 | 0, _, _, _, _ => none
 | k + 1, x3, x9, x10, x11 => if x11 < x10 then (if 0 ≤ x11 then (if x11 < (x9.length : Int) then (if ((rd_T39 x9 x11).f0) ≥ 0 then (if 0 ≤ ((rd_T39 x9 x11).f0) then (if ((rd_T39 x9 x11).f0) < (x3.length : Int) then (if (rd_L6 x3 ((rd_T39 x9 x11).f0)).length < 17592186044416 then (impl_below.l0 k (x3.set (((rd_T39 x9 x11).f0) : Int).toNat ((rd_L6 x3 ((rd_T39 x9 x11).f0)) ++ [x11])) x9 x10 (wrap64 (x11 + 1))) else (none)) else (none)) else (none)) else (impl_below.l0 k x3 x9 x10 (wrap64 (x11 + 1)))) else (none)) else (none)) else (some x3)
def impl_below.f (k : Nat) (l0 : List (S39)) : Option ((List (List Int))) := if 0 ≤ (l0.length : Int) then (if ((l0.length : Int) : Int).toNat ≤ 11728124029610 then (impl_below.l0 k (List.replicate ((l0.length : Int) : Int).toNat []) l0 (l0.length : Int) 0) else (none)) else (none)
def impl_below.T6 : Bool × List (List Nat × List Nat) := (true, [([], []), ([], []), ([1], [1]), ([], []), ([], []), ([4], [4]), ([3, 5], [3, 5]), ([6], [6]), ([], []), ([8], [8]), ([7, 9], [7, 9]), ([0, 2, 0, 1, 2, 3, 4, 5, 6, 7, 8, 9, 10], [0, 2]), ([11, 10, 10, 0, 1, 2, 3, 4, 5, 6, 7, 8, 9, 10], [10, 11])])
def impl_below.B6 : List Nat := [0, 0, 2, 0, 0, 16, 56, 120, 0, 256, 1016, 2047, 4095]
theorem impl_below.tab6 : rtab .any (opsOf Tryd.f67 6) = impl_below.T6 := by kernel_rfl
theorem impl_below.bits6 : waitsOk impl_below.T6.2 impl_below.B6 = true := by kernel_rfl
set_option maxHeartbeats 8000000 in
set_option maxRecDepth 100000 in
theorem impl_below.calls (k : Nat) (A0 : Option Addr) (c0 : Nat) (l0 : List (S39)) (r : List (List Int)) (w : World) (hr0 : Kd.C k39 w A0 l0.length l0) (hc0 : l0.length ≤ c0) (h : impl_below.f k l0 = some r) :
  Calls Tryd.prog 67 #[.slice A0 l0.length c0] w fun e w' => ∃ v0_ : Value, e = .returned (v0_) ∧ Kd.S (Kd.slice 2 (Kd.int .i64)) 24 w' w.heap.size (fun _ => True) v0_ r ∧ Below w.heap.size w w' := by
 have hu39 := Tryd.underlying39
 have HR0 := Aside0.mk hr0
 have HC0 := Aside0.mk hc0
 clear hr0 hc0
 have HB := Aside0.mk (Below.refl w.heap.size w)
 have H : (if 0 ≤ (l0.length : Int) then (if ((l0.length : Int) : Int).toNat ≤ 11728124029610 then (impl_below.l0 k (List.replicate ((l0.length : Int) : Int).toNat []) l0 (l0.length : Int) 0) else (none)) else (none)) = some r := h
 clear h
 by_cases c2 : 0 ≤ (l0.length : Int)
 rotate_left
 ·rw [if_neg c2] at H
  exact absurd H dq32
 rw [if_pos c2] at H
 have c2b0 := eq_true c2
 have c2b1 := decide_eq_true c2
 clear c2
 by_cases c3 : ((l0.length : Int) : Int).toNat ≤ 11728124029610
 rotate_left
 ·rw [if_neg c3] at H
  exact absurd H dq32
 rw [if_pos c3] at H
 have c3b0 := eq_true c3
 have c3b1 := decide_eq_true c3
 clear c3
 obtain ⟨y589, hy589⟩ : ∃ y_ : List (List Int), y_ = (List.replicate ((l0.length : Int) : Int).toNat []) := ⟨_, rfl⟩
 replace H : (impl_below.l0 k y589 l0 (l0.length : Int) 0) = some r := by first | (rw [hy589]; with_reducible exact H) | (have H2_ := (Option.bind_some _ _).symm.trans H; rw [hy589]; with_reducible exact H2_) | (have H2_ := (Option.bind_some _ _).symm.trans H; with_reducible exact H2_) | with_reducible exact H | (rw [hy589]; exact H) | exact H
 have Ny589 := Aside0.mk hy589
 clear hy589
 have H' := Aside0.mk H
 clear H
 go_enter Tryd.func67, Tryd.ntmps67
 go_wp2_with (first | ((with_reducible refine gate_dst (N := 8) rfl ?_); refine Kd.S_make (Kd.slice 2 (Kd.int .i64)) _ 24 rfl (N := 8) rfl 83 _ _ rfl (l0.length : Int) rfl rfl Tryd.underlying83 (.slice none 0 0) 24 info24 rfl dq60 dq45 [] (ok := fun _ => True) (okp := fun _ => True) ⟨_, rfl, Kd.R_nil _ _ _ _ _⟩ (fun _ hk => hk) trivial (of_decide_eq_true dq30) (Nat.le_trans (Nat.mul_le_mul_right _ (of_decide_eq_true dq30 : (l0.length : Int).toNat ≤ 11728124029610)) dq45) (Below.refl _ _) (Nat.le_refl _) ?_; intro v590 w4 ho5 hb hg_ hnew_; clear hg_ hnew_; (first | rw [← Ny589.out] at ho5 | (simp only [Int.reduceToNat] at ho5; rw [← Ny589.out] at ho5)); have n0_ := Aside0.mk (Kd.S_lower ho5 (below_size dq27)); have n1_ := Aside0.mk (below_step dq27 hb); clear HB; have HO591 := n0_; have HB := n1_; clear n0_ n1_; clear hb ho5))
 go_loopg [11] k (fun kq v11 w' => ∃ (x3_1 : List (List Int)) (x11_1 : Int), v11 = .int .i64 x11_1 ∧ Aside0 (impl_below.l0 kq x3_1 l0 (l0.length : Int) x11_1 = some r) ∧ Aside0 (kq ≤ k) ∧ Aside0 (Kd.S (Kd.slice 2 (Kd.int .i64)) 24 w' w.heap.size (fun _ => True) v590 x3_1) ∧ Aside0 (Below w.heap.size w w'))
 case atStart => exact ⟨(y589), (0), dq26, H', ⟨Nat.le_refl _⟩, ⟨by (with_reducible repeat (first | apply Kd.S_alloc | apply Kd.S_drewN | apply Kd.S_drew)); exact HO591.out⟩, ⟨dq27⟩⟩
 clear H'
 try clear c2
 try clear c2b0
 try clear c2b1
 try clear p2
 try clear c3
 try clear c3b0
 try clear c3b1
 obtain ⟨x3_1, x11_1, rfl, HA, HK1, HO_3, HB⟩ := hrel
 cases gk with
 | zero => exact absurd HA.out (by simp [impl_below.l0])
 | succ k1 =>
  have H := HA.out
  clear HA
  simp only [impl_below.l0] at H
  by_cases c6 : x11_1 < (l0.length : Int)
  rotate_left
  ·rw [if_neg c6] at H
   have c6b0 := decide_eq_false c6
   clear c6
   obtain rfl := Option.some.inj H
   go_wp2
   go_ret
   exact ⟨_, dq33, dq91, dq27⟩
  rw [if_pos c6] at H
  have c6b0 := decide_eq_true c6
  clear c6
  by_cases c7 : 0 ≤ x11_1
  rotate_left
  ·rw [if_neg c7] at H
   exact absurd H dq32
  rw [if_pos c7] at H
  have c7b0 := decide_eq_true c7
  clear c7
  by_cases c8 : x11_1 < (l0.length : Int)
  rotate_left
  ·rw [if_neg c8] at H
   exact absurd H dq32
  rw [if_pos c8] at H
  have c8b0 := decide_eq_true c8
  clear c8
  by_cases c9 : ((rd_T39 l0 x11_1).f0) ≥ 0
  rotate_left
  ·rw [if_neg c9] at H
   have c9b0 : decide (0 ≤ ((rd_T39 l0 x11_1).f0)) = false := decide_eq_false c9
   clear c9
   have H' := Aside0.mk H
   clear H
   have p592 : 0 ≤ (x11_1 : Int) := of_decide_eq_true dq30
   have q592 : x11_1 < (l0.length : Int) := of_decide_eq_true dq30
   obtain ⟨ad592, A592_3, c592_3, e592, hx592_0, hx592_1, hx592_2, hx592_3, hl592_3, hi592_3⟩ := at_T39 HR0.out x11_1 p592 q592
   cases e592
   replace hx592_0 := (HB.out.cell (World.block_lt_of_cell? w _ hx592_0)).trans hx592_0
   replace hx592_1 := (HB.out.cell (World.block_lt_of_cell? w _ hx592_1)).trans hx592_1
   replace hx592_2 := (HB.out.cell (World.block_lt_of_cell? w _ hx592_2)).trans hx592_2
   replace hx592_3 := (HB.out.cell (World.block_lt_of_cell? w _ hx592_3)).trans hx592_3
   have HR592_3 := Aside0.mk hi592_3
   have HC592_3 := Aside0.mk hl592_3
   clear hi592_3 hl592_3
   replace p592 := eq_true p592
   replace q592 := eq_true q592
   go_wp2_with (first | ((with_reducible refine gate_dst (N := 5) rfl ?_); refine box_event ?hg (N := 5) ?hd (cs := #[.int .i64 0, .string (⟨#[]⟩ : ByteArray), .string (⟨#[]⟩ : ByteArray), .slice none 0 0]) (t := 39) ?hr ?_; (case hd => rfl); (case hg => rfl); (case hr => exact dq1); intro gb593 hg w24 hbox hb; have n0_ := Aside0.mk (Kd.S_below dq91 hb); have n1_ := Aside0.mk (below_step dq27 hb); have n2_ := Aside0.mk (hbox); have n3_ := Aside0.mk ((dq35 : w.heap.size ≤ gb593)); have n4_ := Aside0.mk ((dq35 : w.heap.size ≤ gb593)); clear HO_3; clear HB; have HO_3 := n0_; have HB := n1_; have BK593 := n2_; have GW593 := n3_; have GE593 := n4_; clear n0_ n1_ n2_ n3_ n4_; clear hb hbox hg; obtain ⟨⟨hcz25_0, hcz25_1, hcz25_2, hcz25_3⟩, hfz25_0, hfz25_1, hfz25_2, hfz25_3⟩ := blkC4 BK593.out))
   go_roundg k1
   case measure => have := HK1.out; omega
   case rel => exact ⟨(x3_1), (wrap64 (x11_1 + 1)), dq26, H', ⟨dq31⟩, ⟨dq92⟩, ⟨dq93⟩⟩
  rw [if_pos c9] at H
  have c9b0 : decide (0 ≤ ((rd_T39 l0 x11_1).f0)) = true := decide_eq_true c9
  clear c9
  by_cases c10 : 0 ≤ ((rd_T39 l0 x11_1).f0)
  rotate_left
  ·rw [if_neg c10] at H
   exact absurd H dq32
  rw [if_pos c10] at H
  have c10b0 := decide_eq_true c10
  clear c10
  by_cases c11 : ((rd_T39 l0 x11_1).f0) < (x3_1.length : Int)
  rotate_left
  ·rw [if_neg c11] at H
   exact absurd H dq32
  rw [if_pos c11] at H
  have c11b0 := decide_eq_true c11
  clear c11
  by_cases c12 : (rd_L6 x3_1 ((rd_T39 l0 x11_1).f0)).length < 17592186044416
  rotate_left
  ·rw [if_neg c12] at H
   exact absurd H dq32
  rw [if_pos c12] at H
  have LMc12 := Aside0.mk c12
  clear c12
  obtain ⟨y595, hy595⟩ : ∃ y_ : List Int, y_ = ((rd_L6 x3_1 ((rd_T39 l0 x11_1).f0)) ++ [x11_1]) := ⟨_, rfl⟩
  replace H : (impl_below.l0 k1 (x3_1.set (((rd_T39 l0 x11_1).f0) : Int).toNat y595) l0 (l0.length : Int) (wrap64 (x11_1 + 1))) = some r := by first | (rw [hy595]; with_reducible exact H) | (have H2_ := (Option.bind_some _ _).symm.trans H; rw [hy595]; with_reducible exact H2_) | (have H2_ := (Option.bind_some _ _).symm.trans H; with_reducible exact H2_) | with_reducible exact H | (rw [hy595]; exact H) | exact H
  have Ny595 := Aside0.mk hy595
  clear hy595
  obtain ⟨y598, hy598⟩ : ∃ y_ : List (List Int), y_ = (x3_1.set (((rd_T39 l0 x11_1).f0) : Int).toNat y595) := ⟨_, rfl⟩
  replace H : (impl_below.l0 k1 y598 l0 (l0.length : Int) (wrap64 (x11_1 + 1))) = some r := by first | (rw [hy598]; with_reducible exact H) | (have H2_ := (Option.bind_some _ _).symm.trans H; rw [hy598]; with_reducible exact H2_) | (have H2_ := (Option.bind_some _ _).symm.trans H; with_reducible exact H2_) | with_reducible exact H | (rw [hy598]; exact H) | exact H
  have Ny598 := Aside0.mk hy598
  clear hy598
  have H' := Aside0.mk H
  clear H
  have p592 : 0 ≤ (x11_1 : Int) := of_decide_eq_true dq30
  have q592 : x11_1 < (l0.length : Int) := of_decide_eq_true dq30
  obtain ⟨ad592, A592_3, c592_3, e592, hx592_0, hx592_1, hx592_2, hx592_3, hl592_3, hi592_3⟩ := at_T39 HR0.out x11_1 p592 q592
  cases e592
  replace hx592_0 := (HB.out.cell (World.block_lt_of_cell? w _ hx592_0)).trans hx592_0
  replace hx592_1 := (HB.out.cell (World.block_lt_of_cell? w _ hx592_1)).trans hx592_1
  replace hx592_2 := (HB.out.cell (World.block_lt_of_cell? w _ hx592_2)).trans hx592_2
  replace hx592_3 := (HB.out.cell (World.block_lt_of_cell? w _ hx592_3)).trans hx592_3
  have HR592_3 := Aside0.mk hi592_3
  have HC592_3 := Aside0.mk hl592_3
  clear hi592_3 hl592_3
  replace p592 := eq_true p592
  replace q592 := eq_true q592
  try go_wp2_with (first | ((with_reducible refine gate_dst (N := 5) rfl ?_); refine box_event ?hg (N := 5) ?hd (cs := #[.int .i64 0, .string (⟨#[]⟩ : ByteArray), .string (⟨#[]⟩ : ByteArray), .slice none 0 0]) (t := 39) ?hr ?_; (case hd => rfl); (case hg => rfl); (case hr => exact dq1); intro gb593 hg w14 hbox hb; have n0_ := Aside0.mk (Kd.S_below dq91 hb); have n1_ := Aside0.mk (below_step dq27 hb); have n2_ := Aside0.mk (hbox); have n3_ := Aside0.mk ((dq35 : w.heap.size ≤ gb593)); have n4_ := Aside0.mk ((dq35 : w.heap.size ≤ gb593)); clear HO_3; clear HB; have HO_3 := n0_; have HB := n1_; have BK593 := n2_; have GW593 := n3_; have GE593 := n4_; clear n0_ n1_ n2_ n3_ n4_; clear hb hbox hg; obtain ⟨⟨hcz15_0, hcz15_1, hcz15_2, hcz15_3⟩, hfz15_0, hfz15_1, hfz15_2, hfz15_3⟩ := blkC4 BK593.out))
  have n0_ : Aside0 (Kd.S (Kd.slice 2 (Kd.int .i64)) 24 ((((w14.setCell ⟨gb593, 0, none⟩ (.int .i64 ((rd_T39 l0 x11_1).f0))).setCell ⟨gb593, 1, none⟩ (.string ((rd_T39 l0 x11_1).f1))).setCell ⟨gb593, 2, none⟩ (.string ((rd_T39 l0 x11_1).f2))).setCell ⟨gb593, 3, none⟩ (.slice A592_3 ((rd_T39 l0 x11_1).f3).length c592_3)) w.heap.size (fun _ => True) v590 x3_1) := ⟨dq92⟩
  have n1_ : Aside0 (((((w14.setCell ⟨gb593, 0, none⟩ (.int .i64 ((rd_T39 l0 x11_1).f0))).setCell ⟨gb593, 1, none⟩ (.string ((rd_T39 l0 x11_1).f1))).setCell ⟨gb593, 2, none⟩ (.string ((rd_T39 l0 x11_1).f2))).setCell ⟨gb593, 3, none⟩ (.slice A592_3 ((rd_T39 l0 x11_1).f3).length c592_3)).heap[gb593]? = some (.cells #[.int .i64 ((rd_T39 l0 x11_1).f0), .string ((rd_T39 l0 x11_1).f1), .string ((rd_T39 l0 x11_1).f2), .slice A592_3 ((rd_T39 l0 x11_1).f3).length c592_3] 39 (0, 0))) := ⟨by refine blk_up ?_; refine blk_put (cs := #[.int .i64 ((rd_T39 l0 x11_1).f0), .string ((rd_T39 l0 x11_1).f1), .string ((rd_T39 l0 x11_1).f2), .slice none 0 0]) ?_ 3 _ rfl; refine blk_up ?_; refine blk_put (cs := #[.int .i64 ((rd_T39 l0 x11_1).f0), .string ((rd_T39 l0 x11_1).f1), .string (⟨#[]⟩ : ByteArray), .slice none 0 0]) ?_ 2 _ rfl; refine blk_up ?_; refine blk_put (cs := #[.int .i64 ((rd_T39 l0 x11_1).f0), .string (⟨#[]⟩ : ByteArray), .string (⟨#[]⟩ : ByteArray), .slice none 0 0]) ?_ 1 _ rfl; refine blk_up ?_; refine blk_put (cs := #[.int .i64 0, .string (⟨#[]⟩ : ByteArray), .string (⟨#[]⟩ : ByteArray), .slice none 0 0]) ?_ 0 _ rfl; refine blk_up ?_; exact BK593.out⟩
  have n2_ : Aside0 (Below w.heap.size w ((((w14.setCell ⟨gb593, 0, none⟩ (.int .i64 ((rd_T39 l0 x11_1).f0))).setCell ⟨gb593, 1, none⟩ (.string ((rd_T39 l0 x11_1).f1))).setCell ⟨gb593, 2, none⟩ (.string ((rd_T39 l0 x11_1).f2))).setCell ⟨gb593, 3, none⟩ (.slice A592_3 ((rd_T39 l0 x11_1).f3).length c592_3))) := ⟨dq93⟩
  (try clear HO_3)
  (try clear BK593)
  (try clear HB)
  generalize ((((w14.setCell ⟨gb593, 0, none⟩ (.int .i64 ((rd_T39 l0 x11_1).f0))).setCell ⟨gb593, 1, none⟩ (.string ((rd_T39 l0 x11_1).f1))).setCell ⟨gb593, 2, none⟩ (.string ((rd_T39 l0 x11_1).f2))).setCell ⟨gb593, 3, none⟩ (.slice A592_3 ((rd_T39 l0 x11_1).f3).length c592_3)) = w16 at n0_ n1_ n2_ ⊢
  have HO_3 := n0_
  have BK593 := n1_
  have HB := n2_
  clear n0_ n1_ n2_
  have n0_ := Aside0.mk (Kd.S_drew HO_3.out)
  have n1_ := Aside0.mk (blk_drew BK593.out)
  have n2_ := Aside0.mk (below_drew1 HB.out)
  clear HO_3
  clear BK593
  clear HB
  have HO_3 := n0_
  have BK593 := n1_
  have HB := n2_
  clear n0_ n1_ n2_
  obtain ⟨Ao18, co18, eo18⟩ := Kd.S_slice HO_3.out
  (first | subst eo18 | (injection eo18 with f1_ f2_ f3_; have f4_ := f1_.symm; have f5_ := f3_.symm; clear f1_ f2_ f3_; subst f4_; subst f5_))
  have p594 : 0 ≤ (((rd_T39 l0 x11_1).f0) : Int) := of_decide_eq_true dq30
  have q594 : ((rd_T39 l0 x11_1).f0) < (x3_1.length : Int) := of_decide_eq_true dq30
  obtain ⟨ad594, A594_0, c594_0, e594, hx594_0, hl594_0, hi594_0⟩ := at_L6 (Kd.S_reads' HO_3.out).2.2 ((rd_T39 l0 x11_1).f0) p594 q594
  cases e594
  obtain ⟨ce594, hce594, hMe594, hcc594⟩ := Kd.S_get HO_3.out [] ((rd_T39 l0 x11_1).f0) p594 (by first | exact q594 | exact of_decide_eq_true dq30 | (have e_ := (Kd.S_reads' HO_3.out).1; omega))
  obtain ⟨ve594_0, rfl, ge594_0⟩ := hMe594
  have hv594_0 := hcc594 0 _ rfl
  rw [Nat.add_zero, show ((Kd.slice 2 (Kd.int .i64))).sz = 1 from rfl, Nat.mul_one] at hv594_0
  replace hv594_0 := Option.some.inj (hv594_0.symm.trans hx594_0)
  rw [hv594_0] at ge594_0
  have HL594_0 := Aside0.mk (show Kd.R (Kd.int .i64) 2 _ _ _ _ (rd_L6 x3_1 ((rd_T39 l0 x11_1).f0)) from ge594_0)
  clear hv594_0 ge594_0
  have HX594_0 := Aside0.mk hx594_0
  clear hcc594 hce594
  have HR594_0 := Aside0.mk hi594_0
  have HC594_0 := Aside0.mk hl594_0
  clear hi594_0 hl594_0
  replace p594 := eq_true p594
  replace q594 := eq_true q594
  obtain ⟨go19, co19, eo19, gb19, gl19, cl19, HG19⟩ := Kd.S_form HO_3.out (by have h_ : (((rd_T39 l0 x11_1).f0) : Int) < ((x3_1.length : Int) : Int) := of_decide_eq_true dq30; have h2_ : 0 ≤ (((rd_T39 l0 x11_1).f0) : Int) := (of_decide_eq_true dq30); omega)
  (first | cases eo19 | (injection eo19 with ea_ en_ ec_; (first | subst ea_ | (injection ea_ with ea_; subst ea_)); subst ec_; clear en_))
  have GB19 := Aside0.mk gb19
  have GG19 := Aside0.mk HG19
  clear gb19 gl19 HG19
  (first | simp only [add_plain] at hx594_0 | skip)
  obtain ⟨oki19, ce19, hcl19, hM19, hcc19, _, _, hH19⟩ := Kd.S_elem HO_3.out [] (((rd_T39 l0 x11_1).f0) : Int) (of_decide_eq_true dq30) (by have h_ : (((rd_T39 l0 x11_1).f0) : Int) < ((x3_1.length : Int) : Int) := of_decide_eq_true dq30; first | exact h_ | (have e_ := (Kd.S_reads' HO_3.out).1; omega) | simpa using h_)
  obtain ⟨ve19_0, rfl, ge19_0⟩ := hM19
  have hv19 := hcc19 0 _ rfl
  have hX19 := HX594_0.out
  (try simp only [add_plain] at hX19)
  (try simp only [Nat.add_zero] at hv19)
  (try rw [show ((Kd.slice 2 (Kd.int .i64))).sz = 1 from rfl, Nat.mul_one] at hv19)
  replace hv19 := Option.some.inj (hv19.symm.trans hX19)
  subst hv19
  clear hX19 hcc19 hcl19
  have UU19 := Aside0.mk (show Kd.R (Kd.int .i64) 2 _ w.heap.size oki19 (.slice A594_0 (rd_L6 x3_1 ((rd_T39 l0 x11_1).f0)).length c594_0) (rd_L6 x3_1 ((rd_T39 l0 x11_1).f0)) from ge19_0)
  have HH19 := Aside0.mk hH19
  have HN19 := Aside0.mk (Kd.S_reads' HO_3.out).1
  clear hH19 ge19_0
  refine start_ (n := 13) (S := fun w' => w'.cell? ⟨gb593, 0, none⟩ = some (.int .i64 ((rd_T39 l0 x11_1).f0)) ∧ w'.cell? ⟨gb593, 1, none⟩ = some (.string ((rd_T39 l0 x11_1).f1)) ∧ w'.cell? ⟨gb593, 2, none⟩ = some (.string ((rd_T39 l0 x11_1).f2)) ∧ w'.cell? ⟨gb593, 3, none⟩ = some (.slice A592_3 ((rd_T39 l0 x11_1).f3).length c592_3) ∧ w'.cell? (⟨go19, (((rd_T39 l0 x11_1).f0)).toNat, none⟩ : Addr) = some (.slice A594_0 (rd_L6 x3_1 ((rd_T39 l0 x11_1).f0)).length c594_0)) (ds := [12]) #[false, false, false, false, false, false, false, false, false, false, false, false, false] dq29 rfl rfl ⟨(blk_cell BK593.out 0).trans rfl, (blk_cell BK593.out 1).trans rfl, (blk_cell BK593.out 2).trans rfl, (blk_cell BK593.out 3).trans rfl, (by have h_ := hx594_0; (try simp only [add_plain] at h_); (try simp only [Nat.zero_add] at h_); exact h_)⟩ (fun hHeld => ?_); refine with_tabW impl_below.tab6 impl_below.bits6 (fun HT_ HW_ => ?_)
  generalize w16.drew = w17 at HO_3 BK593 HB GG19 HH19 HL594_0 HR594_0 HX594_0 UU19 hx594_0 hHeld ⊢
  refine pureA (i := 0) (N := some 19) #[true, false, false, false, false, false, false, false, false, false, false, false, false] ?_
  refine pureA (i := 1) (N := some 20) #[true, true, false, false, false, false, false, false, false, false, false, false, false] ?_
  refine pureA (i := 3) (N := some 22) #[true, true, false, true, false, false, false, false, false, false, false, false, false] ?_
  refine pureA (i := 4) (N := some 23) #[true, true, false, true, true, false, false, false, false, false, false, false, false] ?_
  refine pureA (i := 8) (N := some 27) #[true, true, false, true, true, false, false, false, true, false, false, false, false] ?_
  refine takeA5 (i := 2) (N := some 21) #[true, true, true, true, true, false, false, false, true, false, false, false, false] ?_
  refine takeA5 (i := 5) (N := some 24) #[true, true, true, true, true, true, false, false, true, false, false, false, false] ?_
  refine pureA (i := 6) (N := some 25) #[true, true, true, true, true, true, true, false, true, false, false, false, false] ?_
  refine takeA5 (i := 7) (N := some 26) #[true, true, true, true, true, true, true, true, true, false, false, false, false] ?_
  refine one_ (i := 9) (N := some 28) #[true, true, true, true, true, true, true, true, true, true, false, false, false] rfl rfl (one_of HT_.out dq29) dq60 (fun K hK => ?_)
  refine value_ (w1 := ?_) (v := ?_) (by rfl) rfl ?_ ?_
  rotate_left 2
  ·go_simp
   constructor
   ·rfl
   rfl
  refine hK.out _ _ ⟨(blk_cell (blk_alloc BK593.out _) 0).trans rfl, (blk_cell (blk_alloc BK593.out _) 1).trans rfl, (blk_cell (blk_alloc BK593.out _) 2).trans rfl, (blk_cell (blk_alloc BK593.out _) 3).trans rfl, (World.cell?_alloc_lt _ _ _ (World.block_lt_of_cell? _ _ (hHeld.2.2.2.2))).trans (hHeld.2.2.2.2)⟩ (fun hHeld => ?_)
  clear hK K
  refine norm_ (a' := ?_) ?_ ?_
  rotate_left
  ·show Act.put _ (some 28) _ = _
   simp only [Act.put, List.setIfInBounds_toArray, List.set_cons_zero, List.set_cons_succ, i64_w, i32_w]
   rfl
  refine one_ (i := 10) (N := some 29) #[true, true, true, true, true, true, true, true, true, true, true, false, false] rfl rfl (one_of HT_.out dq29) dq60 (fun K hK => ?_)
  refine Kd.R_append_step (Kd.int .i64) (w0 := w) w.heap.size (by rfl) (.tmp 26) (.tmp 28) 24 2 (.int .i64 0) 8 rfl Tryd.underlying24 info2 rfl dq60 dq45 (.slice A594_0 (rd_L6 x3_1 ((rd_T39 l0 x11_1).f0)).length c594_0) (rd_L6 x3_1 ((rd_T39 l0 x11_1).f0)) x11_1 [.int .i64 x11_1] (fun k_ => oki19 k_ ∨ ((fun _ => True)) k_ ∧ w17.heap.size ≤ k_) (fun _ => False) rfl rfl ?aP (fun _ hk => hk.elim) ?aF ?aO ?aB ?aS ?aL ?_
  (case aP => exact rfl)
  (case aB => exact dq93)
  (case aF => exact (fun k_ hk => .inr ⟨trivial, hk⟩))
  (case aO => exact (by (with_reducible repeat (first | apply Kd.R_alloc | apply Kd.R_drewN | apply Kd.R_drew)); exact Kd.R_mono UU19.out (fun _ hk => .inl hk)))
  (case aS => exact (below_size dq93))
  (case aL => have := LMc12.out; omega)
  intro v596 w20 ho hb hg hat
  (first | have HS4_ := cell_grown hg (hHeld.2.2.2.2) dq94 | have HS4_ := cell_grown hg (cell_unalloc (hHeld.2.2.2.2) (by first | (rw [add_block]; exact Kd.S_lt HO_3.out _ rfl) | (show (Addr.add _ _).block < _; rw [add_block]; exact Kd.S_lt HO_3.out _ rfl) | exact Kd.S_lt HO_3.out _ rfl)) dq94)
  rw [← Ny595.out] at ho
  have n0_ := Aside0.mk (blk_grown (g := gb593) (o := .cells #[.int .i64 ((rd_T39 l0 x11_1).f0), .string ((rd_T39 l0 x11_1).f1), .string ((rd_T39 l0 x11_1).f2), .slice A592_3 ((rd_T39 l0 x11_1).f3).length c592_3] 39 (0, 0)) (by refine blk_up ?_; exact BK593.out) hg (Kd.R_ne HL594_0.out BK593.out dq60))
  have n1_ := Aside0.mk (hb)
  have n2_ := Aside0.mk (Kd.H_grown (Kd.H_widen (by repeat (first | exact HH19.out | refine Kd.H_alloc ?_ _ | refine Kd.H_drewN ?_ _ | refine Kd.H_drew ?_))) hg (fun k_ e_ => .inl (UU19.out.1 k_ e_)))
  have n3_ := Aside0.mk (ho)
  clear BK593
  clear HB
  clear HH19
  clear HO_3
  clear UU19
  clear HL594_0
  have BK593 := n0_
  have HB := n1_
  have HH19 := n2_
  have HO597 := n3_
  clear n0_ n1_ n2_ n3_
  clear ho hb hg hat
  have p13 : 0 ≤ (((rd_T39 l0 x11_1).f0) : Int) := of_decide_eq_true dq30
  have q13 : (((rd_T39 l0 x11_1).f0) : Int) < ((x3_1.length : Int) : Int) := of_decide_eq_true dq30
  replace p13 := eq_true p13
  replace q13 := eq_true q13
  obtain ⟨Ao23, co23, eo23⟩ := Kd.R_slice HO597.out
  (first | subst eo23 | (injection eo23 with f1_ f2_ f3_; have f4_ := f1_.symm; have f5_ := f3_.symm; clear f1_ f2_ f3_; subst f4_; subst f5_))
  obtain ⟨_, _, hraw21, _, _, hcc21, _⟩ := Kd.H_raw HH19.out (of_decide_eq_true dq30) (by have h_ : (((rd_T39 l0 x11_1).f0) : Int) < ((x3_1.length : Int) : Int) := of_decide_eq_true dq30; first | exact h_ | (have e_ := (HN19.out); omega) | simpa using h_)
  obtain ⟨_, hfr21⟩ := Kd.H_at HH19.out (of_decide_eq_true dq30) (by have h_ : (((rd_T39 l0 x11_1).f0) : Int) < ((x3_1.length : Int) : Int) := of_decide_eq_true dq30; first | exact h_ | (have e_ := (HN19.out); omega) | simpa using h_)
  have hx21_0 := hcc21 0 _ rfl
  have hf21_0 := hfr21 0
  (try simp only [Nat.add_zero] at hx21_0 hf21_0)
  (try rw [show ((Kd.slice 2 (Kd.int .i64))).sz = 1 from rfl, Nat.mul_one] at hx21_0)
  (try rw [show ((Kd.slice 2 (Kd.int .i64))).sz = 1 from rfl, Nat.mul_one] at hf21_0)
  have HP21 := Kd.S_seg0 HH19.out (of_decide_eq_true dq30) (by have h_ : (((rd_T39 l0 x11_1).f0) : Int) < ((x3_1.length : Int) : Int) := of_decide_eq_true dq30; first | exact h_ | (have e_ := (HN19.out); omega) | simpa using h_) (seg := [.slice Ao23 y595.length co23]) (j := 0) (show 1 ≤ 1 from by decide) (x' := y595) (Kd.M_row HO597.out) (fun _ hk => hk)
  (try simp only [show ((Kd.slice 2 (Kd.int .i64))).sz = 1 from rfl, Nat.mul_one, Nat.add_zero] at HP21)
  clear hcc21 hfr21
  have HNB593_go19 := Aside0.mk (show gb593 ≠ go19 from by have h_ := Kd.R_ne hraw21 BK593.out dq60; intro e_; exact h_ (by rw [e_]; rfl))
  have HS21 := HP21.1
  rw [← Ny598.out] at HS21
  have HQ21 := Aside0.mk HS21
  obtain ⟨_, hgg21⟩ := Kd.R_typed hraw21 go19 rfl
  have GG21_ := Aside0.mk hgg21
  clear HP21 HS21 hgg21
  refine hK.out _ _ ⟨(blk_cell BK593.out 0).trans rfl, (blk_cell BK593.out 1).trans rfl, (blk_cell BK593.out 2).trans rfl, (blk_cell BK593.out 3).trans rfl, HS4_⟩ (fun hHeld => ?_)
  clear hK K
  refine norm_ (a' := ?_) ?_ ?_
  rotate_left
  ·show Act.put _ (some 29) _ = _
   simp only [Act.put, List.setIfInBounds_toArray, List.set_cons_zero, List.set_cons_succ, i64_w, i32_w]
   rfl
  refine pureA (i := 11) (N := some 30) #[true, true, true, true, true, true, true, true, true, true, true, true, false] ?_
  refine last_ (i := 12) (N := none) #[true, true, true, true, true, true, true, true, true, true, true, true, true] rfl rfl (one_of HT_.out dq29) dq60 (fun K hK => ?_)
  refine skip_ (w1 := ?_) (by rfl) rfl ?_ ?_
  rotate_left
  ·go_simp
   rfl
  refine hK.out _ _ ?_
  clear hK K
  refine done_ (done_of HT_.out dq29) ?_
  try go_wp2
  go_roundg k1
  case measure => have := HK1.out; omega
  case rel => exact ⟨(y598), (wrap64 (x11_1 + 1)), dq26, H', ⟨dq31⟩, ⟨by (with_reducible repeat (first | apply Kd.S_alloc | apply Kd.S_drewN | apply Kd.S_drew)); exact HQ21.out⟩, ⟨by repeat (first | (with_reducible first | exact HB.out | apply below_alloc | apply pw_below_drewN | apply below_drew1 | refine below_set ?_ GB19.out | refine below_set ?_ GE593.out) | exact HB.out)⟩⟩

/-! ### impl_KidsOf: function 30 -/
def impl_KidsOf.f (k : Nat) (l0 : List (S39)) (a1 : Int) : Option (List Int) := (some (([] : List Int) : List Int)).bind fun y599 => ((impl_has.f k l0 a1).bind fun t602 => (if t602 = true then ((impl_below.f k l0).bind fun t603 => (if 0 ≤ a1 then (if a1 < (t603.length : Int) then (if y599.length + (rd_L6 t603 a1).length < 17592186044416 then (some (y599 ++ (rd_L6 t603 a1))) else (none)) else (none)) else (none))) else (some y599)))
set_option maxHeartbeats 8000000 in
set_option maxRecDepth 100000 in
theorem impl_KidsOf.calls (k : Nat) (A0 : Option Addr) (c0 : Nat) (l0 : List (S39)) (a1 : Int) (r : List Int) (w : World) (hT : Gl w) (hr0 : Kd.C k39 w A0 l0.length l0) (hc0 : l0.length ≤ c0) (h : impl_KidsOf.f k l0 a1 = some r) :
  Calls Tryd.prog 30 #[.slice A0 l0.length c0, .int .i64 a1] w fun e w' => ∃ v0_ : Value, e = .returned (v0_) ∧ Kd.R (Kd.int .i64) 2 w' w.heap.size (fun _ => True) v0_ r ∧ Below w.heap.size w w' := by
 have HR0 := Aside0.mk hr0
 have HC0 := Aside0.mk hc0
 clear hr0 hc0
 have HT := Aside0.mk hT
 clear hT
 have HB := Aside0.mk (Below.refl w.heap.size w)
 have H : ((some (([] : List Int) : List Int)).bind fun y599 => ((impl_has.f k l0 a1).bind fun t602 => (if t602 = true then ((impl_below.f k l0).bind fun t603 => (if 0 ≤ a1 then (if a1 < (t603.length : Int) then (if y599.length + (rd_L6 t603 a1).length < 17592186044416 then (some (y599 ++ (rd_L6 t603 a1))) else (none)) else (none)) else (none))) else (some y599)))) = some r := h
 clear h
 obtain ⟨y599, hy599⟩ : ∃ y_ : List Int, y_ = (([] : List Int)) := ⟨_, rfl⟩
 replace H : ((impl_has.f k l0 a1).bind fun t602 => (if t602 = true then ((impl_below.f k l0).bind fun t603 => (if 0 ≤ a1 then (if a1 < (t603.length : Int) then (if y599.length + (rd_L6 t603 a1).length < 17592186044416 then (some (y599 ++ (rd_L6 t603 a1))) else (none)) else (none)) else (none))) else (some y599))) = some r := by first | (rw [hy599]; with_reducible exact H) | (have H2_ := (Option.bind_some _ _).symm.trans H; rw [hy599]; with_reducible exact H2_) | (have H2_ := (Option.bind_some _ _).symm.trans H; with_reducible exact H2_) | with_reducible exact H | (rw [hy599]; exact H) | exact H
 have Ny599 := Aside0.mk hy599
 clear hy599
 replace H := Option.bind_eq_some_iff.mp H
 obtain ⟨t602, A30, H⟩ := H
 replace H : (if t602 = true then ((impl_below.f k l0).bind fun t603 => (if 0 ≤ a1 then (if a1 < (t603.length : Int) then (if y599.length + (rd_L6 t603 a1).length < 17592186044416 then (some (y599 ++ (rd_L6 t603 a1))) else (none)) else (none)) else (none))) else (some y599)) = some r := H
 have A3 := Aside0.mk A30
 clear A30
 by_cases c4 : t602 = true
 rotate_left
 ·replace c4 := Bool.eq_false_iff.mpr c4
  subst c4
  have H1 : (some y599) = some r := by rw [if_neg (show ¬ (false = true) by decide)] at H; exact H
  clear H
  have H := H1
  clear H1
  obtain rfl := Option.some.inj H
  go_enter Tryd.func30, Tryd.ntmps30
  go_wp2_with (first | ((with_reducible refine gate_dst (N := 6) rfl ?_); refine Kd.R_lit (Kd.int .i64) _ 2 ?hg (N := 6) ?hd (xs := ([] : List Int)) (inner := []) (ok := fun _ => True) (okp := fun _ => True) ?hr ?hp (fun _ hk => hk) trivial (Below.refl _ _) (Nat.le_refl _) dq32 ?_; (case hd => rfl); (case hg => rfl); (case hr => exact dq1); (case hp => exact (Reps.none _ _)); intro v600 w15 ho16 hb hg_ hnew_; clear hg_ hnew_; (first | rw [← Ny599.out] at ho16 | (simp only [Int.reduceToNat] at ho16; rw [← Ny599.out] at ho16)); have n0_ := Aside0.mk (Kd.R_lower ho16 (below_size dq27)); have n1_ := Aside0.mk (below_step dq27 hb); clear HB; have HO601 := n0_; have HB := n1_; clear n0_ n1_; clear hb ho16) | ((with_reducible refine gate_callee (f := 64) rfl ?_); refine goesL_ (some 9) rfl rfl Tryd.func64 dq29 rfl #[.slice A0 l0.length c0, .int .i64 a1] rfl dq28 ?_; (with_reducible refine (impl_has.calls k _ _ l0 a1 false _ ?side3 ?side1 ?side2 A3.out).mono ?_); (case side1 => exact dq16); (case side2 => exact dq14); (case side3 => exact dq0); rintro e w17 ⟨rfl, hb⟩; refine ⟨_, rfl, ?_⟩; have n0_ := Aside0.mk (Kd.R_below dq95 hb); have n1_ := Aside0.mk (below_step dq27 hb); clear HO601; clear HB; have HO601 := n0_; have HB := n1_; clear n0_ n1_; (try clear hb); (try clear hb2); (try clear hk); (try clear hi)))
  go_ret
  exact ⟨_, dq33, dq95, dq27⟩
 subst c4
 have H1 : ((impl_below.f k l0).bind fun t603 => (if 0 ≤ a1 then (if a1 < (t603.length : Int) then (if y599.length + (rd_L6 t603 a1).length < 17592186044416 then (some (y599 ++ (rd_L6 t603 a1))) else (none)) else (none)) else (none))) = some r := by rw [if_pos rfl] at H; exact H
 clear H
 have H := H1
 clear H1
 replace H := Option.bind_eq_some_iff.mp H
 obtain ⟨t603, A50, H⟩ := H
 replace H : (if 0 ≤ a1 then (if a1 < (t603.length : Int) then (if y599.length + (rd_L6 t603 a1).length < 17592186044416 then (some (y599 ++ (rd_L6 t603 a1))) else (none)) else (none)) else (none)) = some r := H
 have A5 := Aside0.mk A50
 clear A50
 by_cases c6 : 0 ≤ a1
 rotate_left
 ·rw [if_neg c6] at H
  exact absurd H dq32
 rw [if_pos c6] at H
 have c6b0 := decide_eq_true c6
 clear c6
 by_cases c7 : a1 < (t603.length : Int)
 rotate_left
 ·rw [if_neg c7] at H
  exact absurd H dq32
 rw [if_pos c7] at H
 have c7b0 := decide_eq_true c7
 clear c7
 by_cases c8 : y599.length + (rd_L6 t603 a1).length < 17592186044416
 rotate_left
 ·rw [if_neg c8] at H
  exact absurd H dq32
 rw [if_pos c8] at H
 have LMc8 := Aside0.mk c8
 clear c8
 obtain ⟨y607, hy607⟩ : ∃ y_ : List Int, y_ = (y599 ++ (rd_L6 t603 a1)) := ⟨_, rfl⟩
 replace H : (some y607) = some r := by first | (rw [hy607]; with_reducible exact H) | (have H2_ := (Option.bind_some _ _).symm.trans H; rw [hy607]; with_reducible exact H2_) | (have H2_ := (Option.bind_some _ _).symm.trans H; with_reducible exact H2_) | with_reducible exact H | (rw [hy607]; exact H) | exact H
 have Ny607 := Aside0.mk hy607
 clear hy607
 obtain rfl := Option.some.inj H
 go_enter Tryd.func30, Tryd.ntmps30
 go_wp2_with (first | ((with_reducible refine gate_dst (N := 6) rfl ?_); refine Kd.R_lit (Kd.int .i64) _ 2 ?hg (N := 6) ?hd (xs := ([] : List Int)) (inner := []) (ok := fun _ => True) (okp := fun _ => True) ?hr ?hp (fun _ hk => hk) trivial (Below.refl _ _) (Nat.le_refl _) dq32 ?_; (case hd => rfl); (case hg => rfl); (case hr => exact dq1); (case hp => exact (Reps.none _ _)); intro v600 w9 ho10 hb hg_ hnew_; clear hg_ hnew_; (first | rw [← Ny599.out] at ho10 | (simp only [Int.reduceToNat] at ho10; rw [← Ny599.out] at ho10)); have n0_ := Aside0.mk (Kd.R_lower ho10 (below_size dq27)); have n1_ := Aside0.mk (below_step dq27 hb); clear HB; have HO601 := n0_; have HB := n1_; clear n0_ n1_; clear hb ho10) | ((with_reducible refine gate_callee (f := 64) rfl ?_); refine goesL_ (some 9) rfl rfl Tryd.func64 dq29 rfl #[.slice A0 l0.length c0, .int .i64 a1] rfl dq28 ?_; (with_reducible refine (impl_has.calls k _ _ l0 a1 true _ ?side3 ?side1 ?side2 A3.out).mono ?_); (case side1 => exact dq16); (case side2 => exact dq14); (case side3 => exact dq0); rintro e w11 ⟨rfl, hb⟩; refine ⟨_, rfl, ?_⟩; have n0_ := Aside0.mk (Kd.R_below dq95 hb); have n1_ := Aside0.mk (below_step dq27 hb); clear HO601; clear HB; have HO601 := n0_; have HB := n1_; clear n0_ n1_; (try clear hb); (try clear hb2); (try clear hk); (try clear hi)) | ((with_reducible refine gate_callee (f := 67) rfl ?_); refine goesL_ (some 12) rfl rfl Tryd.func67 dq29 rfl #[.slice A0 l0.length c0] rfl dq28 ?_; (with_reducible refine (impl_below.calls k _ _ l0 t603 _ ?side1 ?side2 A5.out).mono ?_); (case side1 => exact dq16); (case side2 => exact dq14); rintro e w12 ⟨v604, rfl, ho0, hb⟩; refine ⟨_, rfl, ?_⟩; have n0_ := Aside0.mk (Kd.R_below dq95 hb); have n1_ := Aside0.mk (Kd.S_lower (Kd.S_new' ho0 (Kd.R_lt dq95)) (below_size dq27)); have n2_ := Aside0.mk (below_step dq27 hb); clear HO601; clear HB; have HO601 := n0_; have HO605 := n1_; have HB := n2_; clear n0_ n1_ n2_; (try clear hb); (try clear hb2); (try clear hk); (try clear hi); (try clear ho0); obtain ⟨Ao13, co13, eo13⟩ := Kd.S_slice HO605.out; subst eo13; have p606 : 0 ≤ (a1 : Int) := of_decide_eq_true dq30; have q606 : a1 < (t603.length : Int) := of_decide_eq_true dq30; obtain ⟨ad606, A606_0, c606_0, e606, hx606_0, hl606_0, hi606_0⟩ := at_L6 (Kd.S_reads' HO605.out).2.2 a1 p606 q606; cases e606; obtain ⟨ce606, hce606, hMe606, hcc606⟩ := Kd.S_get HO605.out [] a1 p606 (by first | exact q606 | exact of_decide_eq_true dq30 | (have e_ := (Kd.S_reads' HO605.out).1; omega)); obtain ⟨ve606_0, rfl, ge606_0⟩ := hMe606; have hv606_0 := hcc606 0 _ rfl; rw [Nat.add_zero, show ((Kd.slice 2 (Kd.int .i64))).sz = 1 from rfl, Nat.mul_one] at hv606_0; replace hv606_0 := Option.some.inj (hv606_0.symm.trans hx606_0); rw [hv606_0] at ge606_0; have HL606_0 := Aside0.mk (show Kd.R (Kd.int .i64) 2 _ _ _ _ (rd_L6 t603 a1) from ge606_0); clear hv606_0 ge606_0; clear hcc606 hce606; have HR606_0 := Aside0.mk hi606_0; have HC606_0 := Aside0.mk hl606_0; clear hi606_0 hl606_0; replace p606 := eq_true p606; replace q606 := eq_true q606) | ((with_reducible refine gate_builtin (b := .append) (xs := #[.tmp 10, .tmp 15]) rfl ?_); at_builtin; refine Kd.R_append_rows (Kd.int .i64) (w0 := w) w.heap.size rfl (.tmp 10) (.tmp 15) 24 2 (.int .i64 0) 8 rfl Tryd.underlying24 info2 rfl dq60 dq45 v600 y599 (rd_L6 t603 a1) _ _ _ (fun _ => True) (fun _ => False) rfl rfl ?aO ?aR (fun _ _ h => h) (fun _ h => h.elim) ?aF ?aB ?aS ?aL ?_; (case aR => repeat (first | exact (by repeat (first | (with_reducible exact HR606_0.out) | (with_reducible refine Kd.C_alloc ?_ _) | (with_reducible refine Kd.C_drewN ?_ _) | (with_reducible refine Kd.C_drew ?_) | exact HR606_0.out)) | (with_reducible refine Kd.C_alloc ?_ _) | (with_reducible refine Kd.C_drewN ?_ _) | (with_reducible refine Kd.C_drew ?_))); (case aB => exact dq27); (case aF => exact (fun _ _ => trivial)); (case aO => exact dq95); (case aS => exact (below_size dq27)); (case aL => have := LMc8.out; omega); intro v608 w14 ho hb hg hat; rw [← Ny607.out] at ho; have n0_ := Aside0.mk (Kd.S_after (ok := (fun _ => True)) (by (with_reducible repeat (first | apply Kd.S_alloc | apply Kd.S_drewN | apply Kd.S_drew)); exact HO605.out) hg hat); have n1_ := Aside0.mk (Kd.R_after (ok := (fun k_ => some k_ ≠ (.slice (some ad606) t603.length co13 : Value).ownBlock)) (by (with_reducible repeat (first | apply Kd.R_alloc | apply Kd.R_drewN | apply Kd.R_drew)); exact Kd.R_mono HL606_0.out (fun _ hk => ⟨hk.2, hk.1.2⟩)) hg hat); have n2_ := Aside0.mk (hb); have n3_ := Aside0.mk (ho); clear HO605; clear HL606_0; clear HB; clear HO601; have HO605 := n0_; have HL606_0 := n1_; have HB := n2_; have HO609 := n3_; clear n0_ n1_ n2_ n3_; clear ho hb hg hat))
 go_ret
 exact ⟨_, dq33, by (with_reducible repeat (first | apply Kd.R_alloc | apply Kd.R_drewN | apply Kd.R_drew)); exact HO609.out, dq27⟩

end Go.Proofs.YtpmjpbaeecnpiaaDoor.L

namespace Go.Proofs.YtpmjpbaeecnpiaaDoor.L
open Go.RowKit Go.Proofs.YtpmjpbaeecnpiaaDoorW.PrintWords Go.Proofs.YtpmjpbaeecnpiaaDoorW.PrintLast Go.Proofs.YtpmjpbaeecnpiaaDoorW.PrintMore
set_option linter.unusedVariables false
set_option linter.unusedSimpArgs false

theorem bld_size : (Tryd.prog.info? 106).map (fun i => i.size) = some 2 := by kernel_rfl
theorem bld_byte : (Tryd.prog.info? 5).map (fun i => (i.zero, i.size, i.bytes)) = some (some (.int .u8 0), 1, 1) := by kernel_rfl
set_option maxHeartbeats 1000000 in
set_option maxRecDepth 100000 in
theorem bld_check_used (b : Nat) (w : World) (h0 : w.cell? ⟨b, 0, none⟩ = some (.pointer (some ⟨b, 0, none⟩))) :
    Calls Tryd.prog 111 #[.pointer (some ⟨b, 0, none⟩)] w fun e w' => e = .returned (.tuple #[]) ∧ w' = w := by
  obtain ⟨j, hj, _⟩ := Option.map_eq_some_iff.1 bld_size
  go_enter Tryd.func111, Tryd.ntmps111
  go_wp2
  rw [Lib.run_neq_ptr_same w _ Tryd.underlying104 hj]
  go_wp2
  go_end0
  exact ⟨rfl, rfl⟩
set_option maxHeartbeats 1000000 in
set_option maxRecDepth 100000 in
theorem bld_check_fresh (b : Nat) (w : World) (h0 : w.cell? ⟨b, 0, none⟩ = some (.pointer none)) (hsh : w.shape? b = some (106, 2)) (hfz : w.frozen? ⟨b, 0, none⟩ = false) :
    Calls Tryd.prog 111 #[.pointer (some ⟨b, 0, none⟩)] w fun e w' => e = .returned (.tuple #[]) ∧ w' = w.setCell ⟨b, 0, none⟩ (.pointer (some ⟨b, 0, none⟩)) := by
  obtain ⟨j, hj, hjs⟩ := Option.map_eq_some_iff.1 bld_size
  go_enter Tryd.func111, Tryd.ntmps111
  go_wp2
  rw [Lib.run_to_unsafe w ⟨b, 0, none⟩ Tryd.underlying104 Tryd.underlying129 hj (by rw [hjs]; decide) hsh (Nat.zero_lt_succ 1)]
  simp only [Result.andThen]
  rw [Oper.upon_value]
  go_wp2
  rw [run_callFunc_extern Tryd.func122 (by kernel_rfl) (by kernel_rfl) (by kernel_rfl) (e := Extern.AbiNoEscape.same) (by kernel_rfl)]
  rw [Lib.run_noEscape]
  simp only [Result.andThen]
  rw [Oper.upon_value]
  go_wp2
  rw [Lib.run_from_unsafe w ⟨b, 0, none⟩ Tryd.underlying129 Tryd.underlying104 hj hsh (by kernel_rfl)]
  simp only [Result.andThen]
  rw [Oper.upon_value]
  go_wp2
  go_end0
  exact ⟨rfl, rfl⟩
theorem bld_check (B b : Nat) (bs : List Value) (w : World) (h : Lib.IsBuilderF 106 5 B b bs w) :
    Calls Tryd.prog 111 #[.pointer (some ⟨b, 0, none⟩)] w fun e w' => e = .returned (.tuple #[]) ∧ (Lib.BuilderAtF 106 5 B b (.pointer (some ⟨b, 0, none⟩)) bs w' ∧ Below B w w' ∧ Lib.OthersKept 5 (some b) w w') := by
  rcases h with h | h
  · refine (bld_check_fresh b w h.cell0 h.shape h.frozen0).mono ?_
    rintro e w' ⟨rfl, rfl⟩
    exact ⟨rfl, h.used _, (Below.refl B w).setCell (p := ⟨b, 0, none⟩) h.1 _, (Lib.OthersKept.refl _ _ w).setCell ⟨b, 0, none⟩ rfl _⟩
  · refine (bld_check_used b w h.cell0).mono ?_
    rintro e w' ⟨rfl, rfl⟩
    exact ⟨rfl, h, Below.refl B _, Lib.OthersKept.refl _ _ _⟩
set_option maxHeartbeats 2000000 in
set_option maxRecDepth 100000 in
theorem bld_str_k (B b : Nat) (bs : List Value) (s : ByteArray) (w : World) (h : Lib.IsBuilderF 106 5 B b bs w) (hlen : bs.length + s.size ≤ 140737488355328) (hBw : B ≤ w.heap.size) :
    Calls Tryd.prog 94 #[.pointer (some ⟨b, 0, none⟩), .string s] w fun e w' => e = .returned (.tuple #[.int .i64 s.size, .nilIface]) ∧ (Lib.BuilderAtF 106 5 B b (.pointer (some ⟨b, 0, none⟩)) (bs ++ Lib.strCells s) w' ∧ Below B w w' ∧ Lib.OthersKept 5 (some b) w w') := by
  obtain ⟨i0, hi, hz0, hz1, hz2⟩ := info_parts bld_byte
  go_enter Tryd.func94, Tryd.ntmps94
  go_wp2_with (go_at_call 111; refine (bld_check B b bs _ h).mono ?_)
  rintro e w1 ⟨rfl, h1, hb1, hk1⟩
  obtain ⟨hB, v, hbk, hown, hne⟩ := h1
  have c0 : w1.cell? ⟨b, 0, none⟩ = some (.pointer (some ⟨b, 0, none⟩)) := by rw [Lib.cell_of_heap hbk]; rfl
  have c1 : w1.cell? ⟨b, 1, none⟩ = some v := by rw [Lib.cell_of_heap hbk]; rfl
  go_wp2_with (at_builtin; refine Lib.wpList_append_own_stringF _ rfl _ _ 33 9 rfl B 5 i0 Tryd.underlying33 Tryd.underlying9 hi hz0 hz1 hz2 _ _ _ rfl hown s rfl ?c3 ?c4 ?c5 ?_)
  case c3 => unfold maxLen; omega
  case c4 => omega
  case c5 => have := hb1.size; omega
  intro v' w2 hown' hgrow _
  have hlt : b < w1.heap.size := by
    rcases Nat.lt_or_ge b w1.heap.size with h' | h'
    · exact h'
    · simp [Array.getElem?_eq_none h'] at hbk
  have hb2 : w2.heap[b]? = some (.cells #[.pointer (some ⟨b, 0, none⟩), v] 106 (0, 0)) := by
    rw [hgrow.block b hlt (fun e => hne e.symm)]
    exact hbk
  have d0 : w2.cell? ⟨b, 0, none⟩ = some (.pointer (some ⟨b, 0, none⟩)) := by rw [Lib.cell_of_heap hb2]; rfl
  have d1 : w2.cell? ⟨b, 1, none⟩ = some v := by rw [Lib.cell_of_heap hb2]; rfl
  have f1 : w2.frozen? ⟨b, 1, none⟩ = false := Lib.frozen_of_heap hb2 1
  obtain ⟨ao, n', cap, rfl⟩ : ∃ ao n' cap, v' = .slice ao n' cap := by
    rcases hown'.2 with ⟨hv, _⟩ | ⟨g, cap, cur, fz, hv, _⟩
    · exact ⟨_, _, _, hv⟩
    · exact ⟨_, _, _, hv⟩
  go_wp2
  go_ret2
  refine ⟨rfl, ?_, ?_, (hk1.grown hgrow (Lib.ownsRowF_kind hown)).setCell ⟨b, 1, none⟩ rfl _⟩
  · exact Lib.BuilderAtF.put (T := 106) (e := 5) hB hb2 (bs' := bs ++ Lib.strCells s) (by simpa [Lib.strCells_length] using hown') (by decide)
  · exact (hb1.grown hgrow (by have := hb1.size; omega) (fun k hk => (hown.lt k hk).1)).setCell (p := ⟨b, 1, none⟩) hB _
theorem bld_keep {T e B b : Nat} {bs : List Value} {w w' : World} (h : Lib.IsBuilderF T e B b bs w) (hk : ∀ (g : Nat) (c : Array Value) (t : TypeId) (fz : Nat × Nat), w.heap[g]? = some (.cells c t fz) → (t = T ∨ t = e) → w'.heap[g]? = some (.cells c t fz)) : Lib.IsBuilderF T e B b bs w' := by
  have one : ∀ p, Lib.BuilderAtF T e B b p bs w → Lib.BuilderAtF T e B b p bs w' := by
    rintro p ⟨hB, v, hb, hown, hne⟩
    refine ⟨hB, v, hk _ _ _ _ hb (.inl rfl), ⟨hown.1, ?_⟩, hne⟩
    rcases hown.2 with h1 | ⟨g, cap, cur, fz, hv, hg0, hg, rest⟩
    · exact .inl h1
    · exact .inr ⟨g, cap, cur, fz, hv, hg0, hk _ _ _ _ hg (.inr rfl), rest⟩
  exact h.elim (fun x => .inl (one _ x)) (fun x => .inr (one _ x))
theorem bld_below {T e B b : Nat} {bs : List Value} {w w' : World} (h : Lib.IsBuilderF T e B b bs w) (hb : Below w.heap.size w w') : Lib.IsBuilderF T e B b bs w' :=
  bld_keep h fun g c t fz hg _ => blk_below hg hb
theorem bld_sets {T e B b gb : Nat} {bs : List Value} {cs : Array Value} {t : TypeId} {fr : Nat × Nat} {w w' : World} (h : Lib.IsBuilderF T e B b bs w) (hb : w.heap[gb]? = some (.cells cs t fr)) (h1 : t ≠ T) (h2 : t ≠ e) (hw : ∀ g, g ≠ gb → w'.heap[g]? = w.heap[g]?) : Lib.IsBuilderF T e B b bs w' :=
  bld_keep h fun g c t' fz hg ht => by
    rw [hw g ?_]
    · exact hg
    · rintro rfl
      rw [hb] at hg
      injection hg with hg
      injection hg with _ hg
      subst hg
      exact ht.elim h1 h2
theorem bld_drew {T e B b : Nat} {bs : List Value} {w : World} (h : Lib.IsBuilderF T e B b bs w) : Lib.IsBuilderF T e B b bs w.drew := h.elim (fun x => .inl x.drew) (fun x => .inr x.drew)
theorem bld_drewN {T e B b : Nat} {bs : List Value} {w : World} (h : Lib.IsBuilderF T e B b bs w) (n : Nat) : Lib.IsBuilderF T e B b bs (w.drewN n) := bld_keep h fun g c t fz hg _ => blk_drewN hg n
theorem bld_fresh {w : World} {B b : Nat} (hB : B ≤ b) (h : w.heap[b]? = some (.cells #[.pointer none, .slice none 0 0] 106 (0, 0))) : Lib.IsBuilderF 106 5 B b (Lib.byteCells []) w :=
  .inl ⟨hB, _, h, World.ownsRowF_of (World.ownsRow_nil _ _ _ _), by simp [Value.ownBlock]⟩
end Go.Proofs.YtpmjpbaeecnpiaaDoor.L

namespace Go.Proofs
open Go.Shelf
def Tryd.lays169_ren : Go.Shelf.Ren := ⟨fun | 169 => 95 | n => n, fun | 70 => 104 | 9 => 9 | 0 => 0 | 72 => 106 | 37 => 33 | 127 => 124 | 3 => 3 | 5 => 5 | n => n, fun | n => n⟩
theorem Tryd.lays169 : Go.Proofs.Lays.n169 Tryd.prog Tryd.lays169_ren := {
  mixed := by kernel_rfl
  f169 := Tryd.func95.trans (congrArg some (by kernel_rfl))
  t0 := Tryd.underlying0
  a0 := Tryd.isAgg0
  z0 := Tryd.sizeOf0
  v0 := Tryd.zeroValue0
  t3 := Tryd.underlying3
  a3 := Tryd.isAgg3
  z3 := Tryd.sizeOf3
  v3 := Tryd.zeroValue3
  t9 := Tryd.underlying9
  a9 := Tryd.isAgg9
  z9 := Tryd.sizeOf9
  v9 := Tryd.zeroValue9
  t37 := Tryd.underlying33
  a37 := Tryd.isAgg33
  z37 := Tryd.sizeOf33
  v37 := Tryd.zeroValue33
  t70 := Tryd.underlying104
  a70 := Tryd.isAgg104
  z70 := Tryd.sizeOf104
  v70 := Tryd.zeroValue104
  t72 := Tryd.underlying106
  a72 := Tryd.isAgg106
  z72 := Tryd.sizeOf106
  v72 := Tryd.zeroValue106
  t127 := Tryd.underlying124
  a127 := Tryd.isAgg124
  z127 := Tryd.sizeOf124
  v127 := Tryd.zeroValue124 }
theorem Tryd.Builder_Extra_169 : Builder.Extra Tryd.prog Tryd.lays169_ren := {
  sizeBuilder := by kernel_rfl
  liesBuilder := by kernel_rfl
  t5 := Tryd.underlying5
  a5 := Tryd.isAgg5
  z5 := Tryd.sizeOf5
  v5 := Tryd.zeroValue5
  infoByte := by kernel_rfl
  cellsByte := by kernel_rfl
  sizeByte := by kernel_rfl
  neB5 := by decide }
open Go.RowKit in
/-- (*strings.Builder).String: "String returns the accumulated string.": WHATEVER THE BUILDER HOLDS; THE FORM '_k': OVER 'Lib.IsBuilderF' (a builder that 'String()' may have read), AND WITH THE FRAME THAT REACHES ABOVE THE BUILDER: 'Lib.OthersKept': every block that is not b and is no row of uint8's stands as it stood: the iterator of a range among them. (LAID: no walk: one application.) -/
theorem Tryd.Builder_String_any_k (B b : Nat) (l : List UInt8) (w : World) (h : Lib.IsBuilderF 106 5 B b (Lib.byteCells l) w) (hBw : B ≤ w.heap.size) :
    Calls Tryd.prog 95 #[.pointer (some ⟨b, 0, none⟩)] w fun e w' => e = .returned (.string ⟨l.toArray⟩) ∧ (Lib.IsBuilderF 106 5 B b (Lib.byteCells l) w' ∧ Below B w w' ∧ Lib.OthersKept 5 (some b) w w') := Any.Builder_String_any_k Tryd.lays169 Tryd.Builder_Extra_169 B b l w h hBw
end Go.Proofs

namespace Go.Proofs.YtpmjpbaeecnpiaaDoor.L
open Go.RowKit Go.Proofs.YtpmjpbaeecnpiaaDoorW.PrintWords Go.Proofs.YtpmjpbaeecnpiaaDoorW.PrintLast Go.Proofs.YtpmjpbaeecnpiaaDoorW.PrintMore
set_option linter.unusedVariables false
set_option linter.unusedSimpArgs false

def txtV (l : List S39) (a : Int) : List UInt8 := l.flatMap fun x => if x.f0 = a then x.f2.data.toList else []
def impl_textBelow.f (l0 : List S39) (a1 : Int) : Option ByteArray := if (txtV l0 a1).length ≤ 140737488355328 then some ⟨(txtV l0 a1).toArray⟩ else none
theorem txt_rd {l : List S39} {kk : Nat} (h : kk < l.length) : rd_T39 l (kk : Int) = l[kk] := by
  unfold rd_T39
  simp [h]
theorem txt_next {l : List S39} {a : Int} {kk : Nat} (h : kk < l.length) : txtV (l.take (kk + 1)) a = txtV (l.take kk) a ++ (if (rd_T39 l (kk : Int)).f0 = a then (rd_T39 l (kk : Int)).f2.data.toList else []) := by
  rw [txt_rd h]
  unfold txtV
  rw [List.take_succ_eq_append_getElem h, List.flatMap_append]
  simp
theorem txt_len {l : List S39} {a : Int} (kk : Nat) : (txtV (l.take kk) a).length ≤ (txtV l a).length := by
  have e : txtV l a = txtV (l.take kk) a ++ txtV (l.drop kk) a := by
    unfold txtV
    rw [← List.flatMap_append, List.take_append_drop]
  rw [e, List.length_append]
  omega
set_option maxHeartbeats 2000000 in
set_option maxRecDepth 100000 in
theorem impl_textBelow.calls (A0 : Option Addr) (c0 : Nat) (l0 : List (S39)) (a1 : Int) (r : ByteArray) (w : World) (hr0 : Kd.C k39 w A0 l0.length l0) (hc0 : l0.length ≤ c0) (h : impl_textBelow.f l0 a1 = some r) :
    Calls Tryd.prog 68 #[.slice A0 l0.length c0, .int .i64 a1] w fun e w' => e = .returned (.string r) ∧ Below w.heap.size w w' := by
  have hmax := Kd.C_max hr0
  have HR0 := Aside0.mk hr0
  clear hr0
  have HB := Aside0.mk (Below.refl w.heap.size w)
  unfold impl_textBelow.f at h
  have hlen : (txtV l0 a1).length ≤ 140737488355328 := by
    by_cases c : (txtV l0 a1).length ≤ 140737488355328
    · exact c
    · rw [if_neg c] at h; cases h
  rw [if_pos hlen] at h
  obtain rfl := Option.some.inj h
  clear h
  have HLN := Aside0.mk hlen
  clear hlen
  obtain ⟨n, hn⟩ : ∃ n, l0.length = n := ⟨_, rfl⟩
  have HN := Aside0.mk hn
  rw [hn] at hmax ⊢
  clear hn
  go_enter Tryd.func68, Tryd.ntmps68
  go_wp2_with (first | ((with_reducible refine gate_dst (N := 9) rfl ?_); refine box_event ?hg (N := 9) ?hd (cs := #[.pointer none, .slice none 0 0]) (t := 106) ?hr ?_; (case hd => rfl); (case hg => rfl); (case hr => first | (go_simp; done) | (go_simp; rfl)); intro gb hg w14 hbox hb; have n1_ := Aside0.mk (below_step (by repeat (first | (with_reducible first | exact HB.out | apply below_alloc | apply pw_below_drewN | apply below_drew1) | exact HB.out)) hb); have GE := Aside0.mk ((by rw [hg]; exact (below_size (by repeat (first | (with_reducible first | exact HB.out | apply below_alloc | apply pw_below_drewN | apply below_drew1) | exact HB.out))) : w.heap.size ≤ gb)); have BB := Aside0.mk (bld_fresh GE.out hbox); clear HB; have HB := n1_; clear n1_; clear hb hbox hg))
  go_loopg [12] n (fun gg v12 w' => ∃ kk : Nat, kk ≤ n ∧ n - kk ≤ gg ∧ v12 = .int .i64 (kk : Int) ∧ Aside0 (Lib.IsBuilderF 106 5 w.heap.size gb (Lib.byteCells (txtV (l0.take kk) a1)) w') ∧ Aside0 (Below w.heap.size w w'))
  case atStart => exact ⟨0, Nat.zero_le _, by omega, rfl, ⟨by (with_reducible repeat (first | refine bld_drewN ?_ _ | apply bld_drew)); exact BB.out⟩, ⟨by repeat (first | (with_reducible first | exact HB.out | apply below_alloc | apply pw_below_drewN | apply below_drew1) | exact HB.out)⟩⟩
  case round =>
    clear BB HB
    obtain ⟨kk, hkk, hgg, rfl, BB, HB⟩ := hrel
    by_cases hlt : kk < n
    · have c6b0 : decide ((kk : Int) < (n : Int)) = true := decide_eq_true (by omega)
      have hll : kk < l0.length := by have := HN.out; omega
      obtain ⟨ad, A3, c3, e, hx0, hx1, hx2, hx3, _, _⟩ := at_T39 HR0.out (kk : Int) (by omega) (by omega)
      cases e
      have hnx := Aside0.mk (txt_next (a := a1) hll)
      have hle := Aside0.mk (Nat.le_trans (txt_len (l := l0) (a := a1) (kk + 1)) HLN.out)
      replace hx0 := (HB.out.cell (World.block_lt_of_cell? w _ hx0)).trans hx0
      replace hx1 := (HB.out.cell (World.block_lt_of_cell? w _ hx1)).trans hx1
      replace hx2 := (HB.out.cell (World.block_lt_of_cell? w _ hx2)).trans hx2
      replace hx3 := (HB.out.cell (World.block_lt_of_cell? w _ hx3)).trans hx3
      rw [Int.toNat_natCast] at hx0 hx1 hx2 hx3
      generalize hy : rd_T39 l0 (kk : Int) = y at hx0 hx1 hx2 hx3 hnx
      clear hy
      by_cases cu : y.f0 = a1
      · have cub : (y.f0 == a1) = true := beq_iff_eq.mpr cu
        go_wp2_with (first | ((with_reducible refine gate_dst (N := 7) rfl ?_); refine box_event ?hg (N := 7) ?hd (cs := #[.int .i64 0, .string (⟨#[]⟩ : ByteArray), .string (⟨#[]⟩ : ByteArray), .slice none 0 0]) (t := 39) ?hr ?_; (case hd => rfl); (case hg => rfl); (case hr => first | (go_simp; done) | (go_simp; rfl)); intro gx hg w14 hbox hb; have n0_ := Aside0.mk (bld_below (by (with_reducible repeat (first | refine bld_drewN ?_ _ | apply bld_drew)); exact BB.out) hb); have n1_ := Aside0.mk (below_step (by repeat (first | (with_reducible first | exact HB.out | apply below_alloc | apply pw_below_drewN | apply below_drew1) | exact HB.out)) hb); have n2_ := Aside0.mk hbox; have GX := Aside0.mk ((by rw [hg]; exact (below_size (by repeat (first | (with_reducible first | exact HB.out | apply below_alloc | apply pw_below_drewN | apply below_drew1) | exact HB.out))) : w.heap.size ≤ gx)); clear BB HB; have BB := n0_; have HB := n1_; have BK := n2_; clear n0_ n1_ n2_; clear hb hbox hg; have hcz0 : w14.cell? ⟨gx, 0, none⟩ = some (.int .i64 0) := (blk_cell BK.out 0).trans rfl; have hcz1 : w14.cell? ⟨gx, 1, none⟩ = some (.string (⟨#[]⟩ : ByteArray)) := (blk_cell BK.out 1).trans rfl; have hcz2 : w14.cell? ⟨gx, 2, none⟩ = some (.string (⟨#[]⟩ : ByteArray)) := (blk_cell BK.out 2).trans rfl; have hcz3 : w14.cell? ⟨gx, 3, none⟩ = some (.slice none 0 0) := (blk_cell BK.out 3).trans rfl; have hfz0 := blk_frozen BK.out 0; have hfz1 := blk_frozen BK.out 1; have hfz2 := blk_frozen BK.out 2; have hfz3 := blk_frozen BK.out 3) | (go_at_call 94; refine (bld_str_k w.heap.size gb (Lib.byteCells (txtV (l0.take kk) a1)) y.f2 _ (bld_sets BB.out BK.out (by decide) (by decide) (fun g hg => by rw [Below.heap_setCell _ _ _ _ hg, Below.heap_setCell _ _ _ _ hg, Below.heap_setCell _ _ _ _ hg, Below.heap_setCell _ _ _ _ hg])) ?hl ?hB).mono ?_; (case hl => have h1_ := hle.out; rw [hnx.out, if_pos cu, List.length_append] at h1_; rw [Lib.byteCells_length, ByteArray.size]; simpa using h1_); (case hB => exact below_size (by repeat (first | (with_reducible first | exact HB.out | apply below_alloc | apply pw_below_drewN | apply below_drew1 | refine below_set ?_ GX.out) | exact HB.out))); rintro e w55 ⟨rfl, hbd, hb, hko⟩; have n0_ := Aside0.mk (show Lib.IsBuilderF 106 5 w.heap.size gb _ w55 from .inr hbd); have n1_ := Aside0.mk (Below.trans (by repeat (first | (with_reducible first | exact HB.out | apply below_alloc | apply pw_below_drewN | apply below_drew1 | refine below_set ?_ GX.out) | exact HB.out)) hb); clear BB BK HB hcz0 hcz1 hcz2 hcz3 hfz0 hfz1 hfz2 hfz3; have BB := n0_; have HB := n1_; clear n0_ n1_ hbd hb hko))
        go_roundg (n - (kk + 1))
        case measure => omega
        case rel => exact ⟨kk + 1, by omega, by omega, by go_num, ⟨by (with_reducible repeat (first | refine bld_drewN ?_ _ | apply bld_drew)); rw [show Lib.byteCells (txtV (l0.take (kk + 1)) a1) = Lib.byteCells (txtV (l0.take kk) a1) ++ Lib.strCells y.f2 from by rw [hnx.out, if_pos cu, Lib.strCells_eq]; simp only [Lib.byteCells, List.map_append]]; exact BB.out⟩, ⟨by repeat (first | (with_reducible first | exact HB.out | apply below_alloc | apply pw_below_drewN | apply below_drew1) | exact HB.out)⟩⟩
      · have cub : (y.f0 == a1) = false := beq_eq_false_iff_ne.mpr cu
        go_wp2_with (first | ((with_reducible refine gate_dst (N := 7) rfl ?_); refine box_event ?hg (N := 7) ?hd (cs := #[.int .i64 0, .string (⟨#[]⟩ : ByteArray), .string (⟨#[]⟩ : ByteArray), .slice none 0 0]) (t := 39) ?hr ?_; (case hd => rfl); (case hg => rfl); (case hr => first | (go_simp; done) | (go_simp; rfl)); intro gx hg w14 hbox hb; have n0_ := Aside0.mk (bld_below (by (with_reducible repeat (first | refine bld_drewN ?_ _ | apply bld_drew)); exact BB.out) hb); have n1_ := Aside0.mk (below_step (by repeat (first | (with_reducible first | exact HB.out | apply below_alloc | apply pw_below_drewN | apply below_drew1) | exact HB.out)) hb); have n2_ := Aside0.mk hbox; have GX := Aside0.mk ((by rw [hg]; exact (below_size (by repeat (first | (with_reducible first | exact HB.out | apply below_alloc | apply pw_below_drewN | apply below_drew1) | exact HB.out))) : w.heap.size ≤ gx)); clear BB HB; have BB := n0_; have HB := n1_; have BK := n2_; clear n0_ n1_ n2_; clear hb hbox hg; have hcz0 : w14.cell? ⟨gx, 0, none⟩ = some (.int .i64 0) := (blk_cell BK.out 0).trans rfl; have hcz1 : w14.cell? ⟨gx, 1, none⟩ = some (.string (⟨#[]⟩ : ByteArray)) := (blk_cell BK.out 1).trans rfl; have hcz2 : w14.cell? ⟨gx, 2, none⟩ = some (.string (⟨#[]⟩ : ByteArray)) := (blk_cell BK.out 2).trans rfl; have hcz3 : w14.cell? ⟨gx, 3, none⟩ = some (.slice none 0 0) := (blk_cell BK.out 3).trans rfl; have hfz0 := blk_frozen BK.out 0; have hfz1 := blk_frozen BK.out 1; have hfz2 := blk_frozen BK.out 2; have hfz3 := blk_frozen BK.out 3))
        go_roundg (n - (kk + 1))
        case measure => omega
        case rel => exact ⟨kk + 1, by omega, by omega, by go_num, ⟨by (with_reducible repeat (first | refine bld_drewN ?_ _ | apply bld_drew)); rw [show txtV (l0.take (kk + 1)) a1 = txtV (l0.take kk) a1 from by rw [hnx.out, if_neg cu, List.append_nil]]; exact (bld_sets BB.out BK.out (by decide) (by decide) (fun g hg => by rw [Below.heap_setCell _ _ _ _ hg, Below.heap_setCell _ _ _ _ hg, Below.heap_setCell _ _ _ _ hg, Below.heap_setCell _ _ _ _ hg]))⟩, ⟨by repeat (first | (with_reducible first | exact HB.out | apply below_alloc | apply pw_below_drewN | apply below_drew1 | refine below_set ?_ GX.out) | exact HB.out)⟩⟩
    · have hk2 : kk = n := by omega
      have c6b0 : decide ((kk : Int) < (n : Int)) = false := decide_eq_false (by omega)
      have hw : txtV (l0.take kk) a1 = txtV l0 a1 := by rw [List.take_of_length_le (by have := HN.out; omega)]
      rw [hw] at BB
      go_wp2_with (first | (go_at_call 95; refine (Tryd.Builder_String_any_k w.heap.size gb (txtV l0 a1) _ BB.out ?hB).mono ?_; (case hB => exact below_size (by repeat (first | (with_reducible first | exact HB.out | apply below_alloc | apply pw_below_drewN | apply below_drew1) | exact HB.out))); rintro e w58 ⟨rfl, hbd, hb, hko⟩; have n1_ := Aside0.mk (Below.trans (by repeat (first | (with_reducible first | exact HB.out | apply below_alloc | apply pw_below_drewN | apply below_drew1) | exact HB.out)) hb); clear BB HB; have HB := n1_; clear n1_ hbd hb hko))
      go_ret
      exact ⟨rfl, (by repeat (first | (with_reducible first | exact HB.out | apply below_alloc | apply pw_below_drewN | apply below_drew1) | exact HB.out))⟩
end Go.Proofs.YtpmjpbaeecnpiaaDoor.L

namespace Go.Proofs.YtpmjpbaeecnpiaaDoor.L
open Go.RowKit Go.Proofs.YtpmjpbaeecnpiaaDoorW.PrintWords Go.Proofs.YtpmjpbaeecnpiaaDoorW.PrintLast Go.Proofs.YtpmjpbaeecnpiaaDoorW.PrintMore
attribute [local go_sem] max2_int min2_int max_two min_two max_three min_three max_four min_four
set_option linter.unusedVariables false
set_option linter.unusedSimpArgs false

/-! ### impl_TextOf: function 31 -/
def impl_TextOf.f (k : Nat) (l0 : List (S39)) (a1 : Int) : Option (ByteArray × Bool) := (impl_has.f k l0 a1).bind fun t610 => (if t610 = true then (if 0 ≤ a1 then (if a1 < (l0.length : Int) then (if ((rd_T39 l0 a1).f1).toList = ([] : List UInt8) then (some ((⟨#[]⟩ : ByteArray), false)) else ((impl_textBelow.f l0 a1).bind fun t612 => (some (t612, true)))) else (none)) else (none)) else (some ((⟨#[]⟩ : ByteArray), false)))
set_option maxHeartbeats 8000000 in
set_option maxRecDepth 100000 in
theorem impl_TextOf.calls (k : Nat) (A0 : Option Addr) (c0 : Nat) (l0 : List (S39)) (a1 : Int) (r1 : ByteArray) (r2 : Bool) (w : World) (hT : Gl w) (hr0 : Kd.C k39 w A0 l0.length l0) (hc0 : l0.length ≤ c0) (h : impl_TextOf.f k l0 a1 = some (r1, r2)) :
  Calls Tryd.prog 31 #[.slice A0 l0.length c0, .int .i64 a1] w fun e w' => e = .returned (.tuple #[.string r1, .bool r2]) ∧ Below w.heap.size w w' := by
 have HR0 := Aside0.mk hr0
 have HC0 := Aside0.mk hc0
 clear hr0 hc0
 have HT := Aside0.mk hT
 clear hT
 have HB := Aside0.mk (Below.refl w.heap.size w)
 have H : ((impl_has.f k l0 a1).bind fun t610 => (if t610 = true then (if 0 ≤ a1 then (if a1 < (l0.length : Int) then (if ((rd_T39 l0 a1).f1).toList = ([] : List UInt8) then (some ((⟨#[]⟩ : ByteArray), false)) else ((impl_textBelow.f l0 a1).bind fun t612 => (some (t612, true)))) else (none)) else (none)) else (some ((⟨#[]⟩ : ByteArray), false)))) = some (r1, r2) := h
 clear h
 replace H := Option.bind_eq_some_iff.mp H
 obtain ⟨t610, A30, H⟩ := H
 replace H : (if t610 = true then (if 0 ≤ a1 then (if a1 < (l0.length : Int) then (if ((rd_T39 l0 a1).f1).toList = ([] : List UInt8) then (some ((⟨#[]⟩ : ByteArray), false)) else ((impl_textBelow.f l0 a1).bind fun t612 => (some (t612, true)))) else (none)) else (none)) else (some ((⟨#[]⟩ : ByteArray), false))) = some (r1, r2) := H
 have A3 := Aside0.mk A30
 clear A30
 by_cases c4 : t610 = true
 rotate_left
 ·replace c4 := Bool.eq_false_iff.mpr c4
  subst c4
  have H1 : (some ((⟨#[]⟩ : ByteArray), false)) = some (r1, r2) := by rw [if_neg (show ¬ (false = true) by decide)] at H; exact H
  clear H
  have H := H1
  clear H1
  simp only [Option.some.injEq, Prod.mk.injEq] at H
  obtain ⟨rfl, rfl⟩ := H
  go_enter Tryd.func31, Tryd.ntmps31
  go_wp2_with (first | ((with_reducible refine gate_callee (f := 64) rfl ?_); refine goesL_ (some 8) rfl rfl Tryd.func64 dq29 rfl #[.slice A0 l0.length c0, .int .i64 a1] rfl dq28 ?_; (with_reducible refine (impl_has.calls k _ _ l0 a1 false _ ?side3 ?side1 ?side2 A3.out).mono ?_); (case side1 => exact dq15); (case side2 => exact dq14); (case side3 => exact dq0); rintro e w12 ⟨rfl, hb⟩; refine ⟨_, rfl, ?_⟩; have n0_ := Aside0.mk (below_step dq27 hb); clear HB; have HB := n0_; clear n0_; (try clear hb); (try clear hb2); (try clear hk); (try clear hi)))
  go_ret2
  exact ⟨dq33, dq27⟩
 subst c4
 have H1 : (if 0 ≤ a1 then (if a1 < (l0.length : Int) then (if ((rd_T39 l0 a1).f1).toList = ([] : List UInt8) then (some ((⟨#[]⟩ : ByteArray), false)) else ((impl_textBelow.f l0 a1).bind fun t612 => (some (t612, true)))) else (none)) else (none)) = some (r1, r2) := by rw [if_pos rfl] at H; exact H
 clear H
 have H := H1
 clear H1
 by_cases c5 : 0 ≤ a1
 rotate_left
 ·rw [if_neg c5] at H
  exact absurd H dq32
 rw [if_pos c5] at H
 have c5b0 := decide_eq_true c5
 clear c5
 by_cases c6 : a1 < (l0.length : Int)
 rotate_left
 ·rw [if_neg c6] at H
  exact absurd H dq32
 rw [if_pos c6] at H
 have c6b0 := decide_eq_true c6
 clear c6
 by_cases c7 : ((rd_T39 l0 a1).f1).toList = ([] : List UInt8)
 ·rw [if_pos c7] at H
  have c7b0 := beq_iff_eq.mpr c7
  have c7b1 := bne_eq_false_iff_eq.mpr c7
  clear c7
  simp only [Option.some.injEq, Prod.mk.injEq] at H
  obtain ⟨rfl, rfl⟩ := H
  go_enter Tryd.func31, Tryd.ntmps31
  go_wp2_with (first | ((with_reducible refine gate_callee (f := 64) rfl ?_); refine goesL_ (some 8) rfl rfl Tryd.func64 dq29 rfl #[.slice A0 l0.length c0, .int .i64 a1] rfl dq28 ?_; (with_reducible refine (impl_has.calls k _ _ l0 a1 true _ ?side3 ?side1 ?side2 A3.out).mono ?_); (case side1 => exact dq15); (case side2 => exact dq14); (case side3 => exact dq0); rintro e w8 ⟨rfl, hb⟩; refine ⟨_, rfl, ?_⟩; have n0_ := Aside0.mk (below_step dq27 hb); clear HB; have HB := n0_; clear n0_; (try clear hb); (try clear hb2); (try clear hk); (try clear hi); have p611 : 0 ≤ (a1 : Int) := of_decide_eq_true dq30; have q611 : a1 < (l0.length : Int) := of_decide_eq_true dq30; obtain ⟨ad611, A611_3, c611_3, e611, hx611_0, hx611_1, hx611_2, hx611_3, hl611_3, hi611_3⟩ := at_T39 HR0.out a1 p611 q611; cases e611; replace hx611_0 := (HB.out.cell (World.block_lt_of_cell? w _ hx611_0)).trans hx611_0; replace hx611_1 := (HB.out.cell (World.block_lt_of_cell? w _ hx611_1)).trans hx611_1; replace hx611_2 := (HB.out.cell (World.block_lt_of_cell? w _ hx611_2)).trans hx611_2; replace hx611_3 := (HB.out.cell (World.block_lt_of_cell? w _ hx611_3)).trans hx611_3; have HR611_3 := Aside0.mk hi611_3; have HC611_3 := Aside0.mk hl611_3; clear hi611_3 hl611_3; replace p611 := eq_true p611; replace q611 := eq_true q611))
  go_ret2
  exact ⟨dq33, dq27⟩
 rw [if_neg c7] at H
 have c7b0 := beq_eq_false_iff_ne.mpr c7
 have c7b1 := bne_iff_ne.mpr c7
 replace H := Option.bind_eq_some_iff.mp H
 obtain ⟨t612, A90, H⟩ := H
 replace H : (some (t612, true)) = some (r1, r2) := H
 have A9 := Aside0.mk A90
 clear A90
 simp only [Option.some.injEq, Prod.mk.injEq] at H
 obtain ⟨rfl, rfl⟩ := H
 go_enter Tryd.func31, Tryd.ntmps31
 go_wp2_with (first | ((with_reducible refine gate_callee (f := 64) rfl ?_); refine goesL_ (some 8) rfl rfl Tryd.func64 dq29 rfl #[.slice A0 l0.length c0, .int .i64 a1] rfl dq28 ?_; (with_reducible refine (impl_has.calls k _ _ l0 a1 true _ ?side3 ?side1 ?side2 A3.out).mono ?_); (case side1 => exact dq15); (case side2 => exact dq14); (case side3 => exact dq0); rintro e w10 ⟨rfl, hb⟩; refine ⟨_, rfl, ?_⟩; have n0_ := Aside0.mk (below_step dq27 hb); clear HB; have HB := n0_; clear n0_; (try clear hb); (try clear hb2); (try clear hk); (try clear hi); have p611 : 0 ≤ (a1 : Int) := of_decide_eq_true dq30; have q611 : a1 < (l0.length : Int) := of_decide_eq_true dq30; obtain ⟨ad611, A611_3, c611_3, e611, hx611_0, hx611_1, hx611_2, hx611_3, hl611_3, hi611_3⟩ := at_T39 HR0.out a1 p611 q611; cases e611; replace hx611_0 := (HB.out.cell (World.block_lt_of_cell? w _ hx611_0)).trans hx611_0; replace hx611_1 := (HB.out.cell (World.block_lt_of_cell? w _ hx611_1)).trans hx611_1; replace hx611_2 := (HB.out.cell (World.block_lt_of_cell? w _ hx611_2)).trans hx611_2; replace hx611_3 := (HB.out.cell (World.block_lt_of_cell? w _ hx611_3)).trans hx611_3; have HR611_3 := Aside0.mk hi611_3; have HC611_3 := Aside0.mk hl611_3; clear hi611_3 hl611_3; replace p611 := eq_true p611; replace q611 := eq_true q611) | ((with_reducible refine gate_callee (f := 68) rfl ?_); refine goesL_ (some 20) rfl rfl Tryd.func68 dq29 rfl #[.slice (some ad611) l0.length c0, .int .i64 a1] rfl dq28 ?_; (with_reducible refine (impl_textBelow.calls _ _ l0 a1 t612 _ ?side1 ?side2 A9.out).mono ?_); (case side1 => exact dq16); (case side2 => exact dq14); rintro e w11 ⟨rfl, hb⟩; refine ⟨_, rfl, ?_⟩; have n0_ := Aside0.mk (below_step dq27 hb); clear HB; have HB := n0_; clear n0_; (try clear hb); (try clear hb2); (try clear hk); (try clear hi)))
 go_ret2
 exact ⟨dq33, dq27⟩

/-! ### spec_l2Deep: function 57 -/
def spec_l2Deep.l0 : Nat → List (S39) → Int → Int → Option (Int)
 | 0, _, _, _ => none
 | k + 1, x0, x1, x5 => if 0 ≤ x1 then (if x1 < (x0.length : Int) then (if ((rd_T39 x0 x1).f0) ≥ 0 then (spec_l2Deep.l0 k x0 ((rd_T39 x0 x1).f0) (wrap64 (x5 + 1))) else (some x5)) else (none)) else (none)
def spec_l2Deep.f (k : Nat) (l0 : List (S39)) (a1 : Int) : Option (Int) := spec_l2Deep.l0 k l0 a1 0
set_option maxHeartbeats 8000000 in
set_option maxRecDepth 100000 in
theorem spec_l2Deep.calls (k : Nat) (A0 : Option Addr) (c0 : Nat) (l0 : List (S39)) (a1 : Int) (r : Int) (w : World) (hr0 : Kd.C k39 w A0 l0.length l0) (hc0 : l0.length ≤ c0) (h : spec_l2Deep.f k l0 a1 = some r) :
  Calls Tryd.prog 57 #[.slice A0 l0.length c0, .int .i64 a1] w fun e w' => e = .returned (.int .i64 r) ∧ Drawn0 w w' := by
 have HR0 := Aside0.mk hr0
 have HC0 := Aside0.mk hc0
 clear hr0 hc0
 have H : (spec_l2Deep.l0 k l0 a1 0) = some r := h
 clear h
 have H' := Aside0.mk H
 clear H
 go_enter Tryd.func57, Tryd.ntmps57
 go_wp2
 go_loopg [1, 5] k (fun kq v1 v5 w' => ∃ (x1_1 : Int) (x5_1 : Int), v1 = .int .i64 x1_1 ∧ v5 = .int .i64 x5_1 ∧ Aside0 (spec_l2Deep.l0 kq l0 x1_1 x5_1 = some r) ∧ Aside0 (kq ≤ k) ∧ Drawn0 w w')
 case atStart => exact ⟨(a1), (0), dq26, dq26, H', ⟨Nat.le_refl _⟩, dq25⟩
 clear H'
 try clear p2
 obtain ⟨x1_1, x5_1, rfl, rfl, HA, HK1, ⟨m1, rfl⟩⟩ := hrel
 cases gk with
 | zero => exact absurd HA.out (by simp [spec_l2Deep.l0])
 | succ k1 =>
  have H := HA.out
  clear HA
  simp only [spec_l2Deep.l0] at H
  by_cases c3 : 0 ≤ x1_1
  rotate_left
  ·rw [if_neg c3] at H
   exact absurd H dq32
  rw [if_pos c3] at H
  have c3b0 := decide_eq_true c3
  clear c3
  by_cases c4 : x1_1 < (l0.length : Int)
  rotate_left
  ·rw [if_neg c4] at H
   exact absurd H dq32
  rw [if_pos c4] at H
  have c4b0 := decide_eq_true c4
  clear c4
  by_cases c5 : ((rd_T39 l0 x1_1).f0) ≥ 0
  rotate_left
  ·rw [if_neg c5] at H
   have c5b0 : decide (0 ≤ ((rd_T39 l0 x1_1).f0)) = false := decide_eq_false c5
   clear c5
   obtain rfl := Option.some.inj H
   have p101 : 0 ≤ (x1_1 : Int) := of_decide_eq_true dq30
   have q101 : x1_1 < (l0.length : Int) := of_decide_eq_true dq30
   obtain ⟨ad101, A101_3, c101_3, e101, hx101_0, hx101_1, hx101_2, hx101_3, hl101_3, hi101_3⟩ := at_T39 HR0.out x1_1 p101 q101
   cases e101
   have HR101_3 := Aside0.mk hi101_3
   have HC101_3 := Aside0.mk hl101_3
   clear hi101_3 hl101_3
   replace p101 := eq_true p101
   replace q101 := eq_true q101
   go_wp2
   go_ret
   exact ⟨dq26, dq25⟩
  rw [if_pos c5] at H
  have c5b0 : decide (0 ≤ ((rd_T39 l0 x1_1).f0)) = true := decide_eq_true c5
  clear c5
  have H' := Aside0.mk H
  clear H
  have p101 : 0 ≤ (x1_1 : Int) := of_decide_eq_true dq30
  have q101 : x1_1 < (l0.length : Int) := of_decide_eq_true dq30
  obtain ⟨ad101, A101_3, c101_3, e101, hx101_0, hx101_1, hx101_2, hx101_3, hl101_3, hi101_3⟩ := at_T39 HR0.out x1_1 p101 q101
  cases e101
  have HR101_3 := Aside0.mk hi101_3
  have HC101_3 := Aside0.mk hl101_3
  clear hi101_3 hl101_3
  replace p101 := eq_true p101
  replace q101 := eq_true q101
  have p102 : 0 ≤ (x1_1 : Int) := of_decide_eq_true dq30
  have q102 : x1_1 < (l0.length : Int) := of_decide_eq_true dq30
  obtain ⟨ad102, A102_3, c102_3, e102, hx102_0, hx102_1, hx102_2, hx102_3, hl102_3, hi102_3⟩ := at_T39 HR0.out x1_1 p102 q102
  obtain rfl : ad101 = ad102 := (by injection e102)
  have HR102_3 := Aside0.mk hi102_3
  have HC102_3 := Aside0.mk hl102_3
  clear hi102_3 hl102_3
  replace p102 := eq_true p102
  replace q102 := eq_true q102
  have ea_ := Option.some.inj (hx101_3.symm.trans hx102_3)
  injection ea_ with ea_ en_ ec_
  subst ea_
  subst ec_
  clear en_
  go_wp2
  go_roundg k1
  case measure => have := HK1.out; omega
  case rel => exact ⟨((rd_T39 l0 x1_1).f0), (wrap64 (x5_1 + 1)), dq26, dq26, H', ⟨dq31⟩, dq25⟩

end Go.Proofs.YtpmjpbaeecnpiaaDoor.L
