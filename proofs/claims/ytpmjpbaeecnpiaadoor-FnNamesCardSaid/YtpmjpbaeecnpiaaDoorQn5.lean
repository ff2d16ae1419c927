/- Words and contracts for the row RowFnNames: what the Go functions answer that it calls; printed by programs of the kit and of this session, and merged. -/
import Derived.Test.YtpmjpbaeecnpiaaDoorQn4
namespace Go.Proofs.YtpmjpbaeecnpiaaDoor.L
open Go.RowKit Go.Proofs.YtpmjpbaeecnpiaaDoorW.PrintWords Go.Proofs.YtpmjpbaeecnpiaaDoorW.PrintLast Go.Proofs.YtpmjpbaeecnpiaaDoorW.PrintMore
attribute [local go_sem] max2_int min2_int max_two min_two max_three min_three max_four min_four
-- mended by mend_grow
set_option linter.unusedVariables false
set_option linter.unusedSimpArgs false

/-! ### spec_l1Rd_grow: function 86 -/
theorem own_len (A : Option Addr) (n m c : Nat) : (Value.slice A n c).ownBlock = (Value.slice A m c).ownBlock := by cases A <;> rfl
mutual
def spec_l1Rd_grow.l0 : Nat → List (S39) → Int → Int → Int → List Int → Int → Option ((List (S39)) × Int)
 | 0, _, _, _, _, _, _ => none
 | k + 1, x1, x2, x3, x9, x1000, x1001 => if x9 > 0 then (if 0 ≤ (wrap64 ((x1.length : Int) - 1)) then (if (wrap64 ((x1.length : Int) - 1)) < (x1.length : Int) then ((spec_l1Rd_once.f x1000 x1001 3).bind fun bt457 => (if bt457.1 = true then (if ((rd_T39 x1 (wrap64 ((x1.length : Int) - 1))).f1).toList = ([] : List UInt8) then (spec_l1Rd_grow.j1 k x1 x2 x3 x9 (!(((rd_T39 x1 (wrap64 ((x1.length : Int) - 1))).f0) == x2)) x1000 bt457.2) else (spec_l1Rd_grow.j1 k x1 x2 x3 x9 (!false) x1000 bt457.2)) else (spec_l1Rd_grow.j1 k x1 x2 x3 x9 false x1000 bt457.2))) else (none)) else (none)) else (some (x1, x1001))
def spec_l1Rd_grow.j1 : Nat → List (S39) → Int → Int → Int → Bool → List Int → Int → Option ((List (S39)) × Int)
 | 0, _, _, _, _, _, _, _ => none
 | k + 1, x1, x2, x3, x9, x41, x1000, x1001 => if x41 = true then ((spec_l1Rd_text.f x1000 x1001).bind fun bt459 => (if bt459.1.toList = ([] : List UInt8) then (spec_l1Rd_grow.l0 k x1 x2 x3 (wrap64 (x9 - 1)) x1000 bt459.2) else (if x1.length < 2199023255552 then (spec_l1Rd_grow.l0 k (x1 ++ [(⟨x2, (⟨#[]⟩ : ByteArray), bt459.1, ([] : List (S46))⟩ : S39)]) x2 x3 (wrap64 (x9 - 1)) x1000 bt459.2) else (none)))) else ((spec_l1Rd_name.f x1000 x1001).bind fun bt464 => ((spec_l1Rd_below.f x1000 bt464.2 3).bind fun bt467 => (spec_l1Rd_grow.l1 k x1 x2 x3 x9 bt467.1 x1000 bt467.2 x2 bt464.1 (⟨#[]⟩ : ByteArray) ([] : List (S46)))))
def spec_l1Rd_grow.l1 : Nat → List (S39) → Int → Int → Int → Int → List Int → Int → Int → ByteArray → ByteArray → List (S46) → Option ((List (S39)) × Int)
 | 0, _, _, _, _, _, _, _, _, _, _, _ => none
 | k + 1, x1, x2, x3, x9, x13, x1000, x1001, x467000, x467001, x467002, x467003 => if x13 > 0 then ((spec_l1Rd_name.f x1000 x1001).bind fun bt469 => ((spec_l1Rd_once.f x1000 bt469.2 4).bind fun bt471 => (if bt471.1 = true then (if 2 + bt469.1.size ≤ 9223372036854775807 then ((spec_l1Rd_text.f x1000 bt471.2).bind fun bt473 => (if x467003.length < 4398046511104 then (spec_l1Rd_grow.l1 k x1 x2 x3 x9 (wrap64 (x13 - 1)) x1000 bt473.2 x467000 x467001 x467002 (x467003 ++ [(⟨(⟨#[112, 58]⟩ : ByteArray) ++ bt469.1, bt473.1⟩ : S46)])) else (none))) else (none)) else ((spec_l1Rd_text.f x1000 bt471.2).bind fun bt478 => (if x467003.length < 4398046511104 then (spec_l1Rd_grow.l1 k x1 x2 x3 x9 (wrap64 (x13 - 1)) x1000 bt478.2 x467000 x467001 x467002 (x467003 ++ [(⟨bt469.1, bt478.1⟩ : S46)])) else (none)))))) else ((spec_l2Attrs.f k x467003).bind fun t483 => (if t483 = true then (spec_l1Rd_grow.j3 k x1 x2 x3 x9 x1000 x1001 x467000 x467001 x467002 x467003) else (if 1 ≤ (x467003.length : Int) then (spec_l1Rd_grow.j3 k x1 x2 x3 x9 x1000 x1001 x467000 x467001 x467002 (x467003.take (1 : Int).toNat)) else (none))))
def spec_l1Rd_grow.j3 : Nat → List (S39) → Int → Int → Int → List Int → Int → Int → ByteArray → ByteArray → List (S46) → Option ((List (S39)) × Int)
 | 0, _, _, _, _, _, _, _, _, _, _ => none
 | k + 1, x1, x2, x3, x9, x1000, x1001, x467000, x467001, x467002, x467003 => if x1.length < 2199023255552 then ((some (x1 ++ [(⟨x467000, x467001, x467002, x467003⟩ : S39)] : List (S39))).bind fun y487 => (if x3 > 0 then ((spec_l1Rd_once.f x1000 x1001 2).bind fun bt490 => (if bt490.1 = true then ((spec_l1Rd_grow.f k x1000 bt490.2 y487 (x1.length : Int) (wrap64 (x3 - 1))).bind fun bt492 => (spec_l1Rd_grow.l0 k bt492.1 x2 x3 (wrap64 (x9 - 1)) x1000 bt492.2)) else (spec_l1Rd_grow.l0 k y487 x2 x3 (wrap64 (x9 - 1)) x1000 bt490.2))) else (spec_l1Rd_grow.l0 k y487 x2 x3 (wrap64 (x9 - 1)) x1000 x1001))) else (none)
def spec_l1Rd_grow.f : Nat → List Int → Int → List (S39) → Int → Int → Option ((List (S39)) × Int)
 | 0, _, _, _, _, _ => none
 | k + 1, s0_0, s0_1, l1, a2, a3 => ((spec_l1Rd_below.f s0_0 s0_1 4).bind fun bt453 => (spec_l1Rd_grow.l0 k l1 a2 a3 bt453.1 s0_0 bt453.2))
end
def spec_l1Rd_grow.T16 : Bool × List (List Nat × List Nat) := (true, [([], []), ([0], [0]), ([], []), ([], []), ([3], [3]), ([2, 4], [2, 4]), ([5], [5]), ([1, 6, 4], [1, 6]), ([0, 1, 2, 3, 4, 5, 6, 7], []), ([8, 7, 7, 0, 1, 2, 3, 4, 5, 6, 7], [7, 8])])
def spec_l1Rd_grow.B16 : List Nat := [0, 1, 0, 0, 8, 28, 60, 127, 255, 511]
theorem spec_l1Rd_grow.tab16 : rtab .any (opsOf Tryd.f86 16) = spec_l1Rd_grow.T16 := by kernel_rfl
theorem spec_l1Rd_grow.bits16 : waitsOk spec_l1Rd_grow.T16.2 spec_l1Rd_grow.B16 = true := by kernel_rfl
set_option maxHeartbeats 8000000 in
set_option maxRecDepth 100000 in
theorem spec_l1Rd_grow.calls (k : Nat) : ∀ (g : Nat) (s0_0 : List Int) (s0_1 : Int) (u1 : Value) (P1 : Nat → Prop) (l1 : List (S39)) (a2 : Int) (a3 : Int) (r1 : List (S39)) (r2 : Int) (w0 w wv : World) (hI : IsS99 w0 wv g s0_0 s0_1) (hB : Below w0.heap.size w0 wv) (hL : w0.heap.size ≤ w.heap.size) (hK : KeepBut w wv g none) (hO : Kd.S k39 39 wv w.heap.size P1 u1 l1) (h : spec_l1Rd_grow.f k s0_0 s0_1 l1 a2 a3 = some (r1, r2)),
  Calls Tryd.prog 86 #[.pointer (some ⟨g, 0, none⟩), u1, .int .i64 a2, .int .i64 a3] wv fun e w' => ∃ v0_ : Value, e = .returned (v0_) ∧ Kd.S k39 39 w' w.heap.size (fun _ => True) v0_ r1 ∧ IsS99 w0 w' g s0_0 r2 ∧ Below w0.heap.size w0 w' ∧ KeepBut w w' g none := by
 induction k using Nat.strongRecOn with
 | _ k ih =>
 intro g s0_0 s0_1 u1 P1 l1 a2 a3 r1 r2 w0 w wv hI hB hL hK hO h
 cases k with
 | zero => exact absurd h (by simp [spec_l1Rd_grow.f])
 | succ k =>
 simp only [spec_l1Rd_grow.f] at h
 have hu39 := Tryd.underlying39
 have hu46 := Tryd.underlying46
 have HI0 := Aside0.mk hI
 have HK := Aside0.mk hK
 have HL := Aside0.mk hL
 clear hI
 have HW0 := Aside0.mk hL
 have HB := Aside0.mk hB
 clear hB
 have H : (((spec_l1Rd_below.f s0_0 s0_1 4).bind fun bt453 => (spec_l1Rd_grow.l0 k l1 a2 a3 bt453.1 s0_0 bt453.2))) = some (r1, r2) := h
 clear h
 replace H := Option.bind_eq_some_iff.mp H
 obtain ⟨⟨t453, t454⟩, A60, H⟩ := H
 replace H : (spec_l1Rd_grow.l0 k l1 a2 a3 t453 s0_0 t454) = some (r1, r2) := H
 have A6 := Aside0.mk A60
 clear A60
 have H' := Aside0.mk H
 clear H
 go_enter Tryd.func86, Tryd.ntmps86
 have HO451 := Aside0.mk (Kd.S_mono hO (fun _ _ => trivial) : Kd.S k39 39 wv w.heap.size (fun _ => True) u1 l1)
 clear hO
 go_wp2_with (first | ((with_reducible refine gate_callee (f := 63) rfl ?_); refine goesL_ (some 17) rfl rfl Tryd.func63 dq23 rfl #[.pointer (some ⟨g, 0, none⟩), .int .i64 4] rfl dq22 ?_; (with_reducible refine (spec_l1Rd_below.calls g s0_0 s0_1 4 t453 t454 w0 _ ?side1 ?side2 A6.out).mono ?_); (case side1 => exact dq7); (case side2 => exact dq8); rintro e w8 ⟨rfl, hi, hb, hk⟩; refine ⟨_, rfl, ?_⟩; have n0_ := Aside0.mk (Kd.S_mono (Kd.S_keep (IsS99.apartS (show IsS99 w0 _ g s0_0 s0_1 from by repeat (first | (with_reducible first | exact HI0.out | apply IsS99.alloc | apply IsS99.drewN | apply IsS99.drew | apply IsS99.set_1) | exact HI0.out)) (by (with_reducible repeat (first | apply Kd.S_alloc | apply Kd.S_drewN | apply Kd.S_drew)); exact HO451.out) dq52) hk (fun _ h => h.2)) (fun _ h => h.1)); have n1_ := Aside0.mk (KeepBut.trans dq57 hk (.inl rfl)); have n2_ := Aside0.mk (hb); have n3_ := Aside0.mk (hi); clear HO451; clear HK; clear HB; clear HI0; have HO451 := n0_; have HK := n1_; have HB := n2_; have HI0 := n3_; clear n0_ n1_ n2_ n3_; (try clear hb); (try clear hb2); (try clear hk); (try clear hi)))
 go_loopg [1, 9] k (fun kq v1 v9 w' => ∃ (x1_1 : List (S39)) (x9_1 : Int) (x1001_1 : Int), v9 = .int .i64 x9_1 ∧ Aside0 (spec_l1Rd_grow.l0 kq x1_1 a2 a3 x9_1 s0_0 x1001_1 = some (r1, r2)) ∧ Aside0 (kq ≤ k) ∧ Aside0 (Kd.S k39 39 w' w.heap.size (fun _ => True) v1 x1_1) ∧ Aside0 (IsS99 w0 w' g s0_0 x1001_1) ∧ Aside0 (KeepBut w w' g none) ∧ Aside0 (Below w0.heap.size w0 w'))
 case atStart => exact ⟨(l1), (t453), (t454), dq18, H', ⟨Nat.le_refl _⟩, ⟨by (with_reducible repeat (first | apply Kd.S_alloc | apply Kd.S_drewN | apply Kd.S_drew)); exact HO451.out⟩, ⟨dq59⟩, ⟨dq57⟩, ⟨dq58⟩⟩
 clear H'
 obtain ⟨x1_1, x9_1, x1001_1, rfl, HA, HK1, HO_1, HI0, HK, HB⟩ := hrel
 cases gk with
 | zero => exact absurd HA.out (by simp [spec_l1Rd_grow.l0])
 | succ k1 =>
  have H := HA.out
  clear HA
  simp only [spec_l1Rd_grow.l0] at H
  by_cases c9 : x9_1 > 0
  rotate_left
  ·rw [if_neg c9] at H
   have c9b0 : decide (0 < x9_1) = false := decide_eq_false c9
   clear c9
   simp only [Option.some.injEq, Prod.mk.injEq] at H
   obtain ⟨rfl, rfl⟩ := H
   go_wp2
   go_ret
   exact ⟨_, dq26, dq62, dq59, dq58, dq57⟩
  rw [if_pos c9] at H
  have c9b0 : decide (0 < x9_1) = true := decide_eq_true c9
  clear c9
  obtain ⟨ji10, hji10⟩ : ∃ j_ : Int, (wrap64 ((x1_1.length : Int) - 1)) = j_ := ⟨_, rfl⟩
  replace H : (if 0 ≤ (ji10) then (if (ji10) < (x1_1.length : Int) then ((spec_l1Rd_once.f s0_0 x1001_1 3).bind fun bt457 => (if bt457.1 = true then (if ((rd_T39 x1_1 (ji10)).f1).toList = ([] : List UInt8) then (spec_l1Rd_grow.j1 k1 x1_1 a2 a3 x9_1 (!(((rd_T39 x1_1 (ji10)).f0) == a2)) s0_0 bt457.2) else (spec_l1Rd_grow.j1 k1 x1_1 a2 a3 x9_1 (!false) s0_0 bt457.2)) else (spec_l1Rd_grow.j1 k1 x1_1 a2 a3 x9_1 false s0_0 bt457.2))) else (none)) else (none)) = some (r1, r2) := by first | (rw [hji10] at H; exact H) | (simp only [hji10] at H ⊢; exact H)
  have hji10w : (IntKind.i64.wrap ((x1_1.length : Int) - 1)) = ji10 := (i64_w _).trans hji10
  by_cases c11 : 0 ≤ (ji10)
  rotate_left
  ·rw [if_neg c11] at H
   exact absurd H dq21
  rw [if_pos c11] at H
  have c11b0 := decide_eq_true c11
  clear c11
  by_cases c12 : (ji10) < (x1_1.length : Int)
  rotate_left
  ·rw [if_neg c12] at H
   exact absurd H dq21
  rw [if_pos c12] at H
  have c12b0 := decide_eq_true c12
  clear c12
  have HC13 := Aside0.mk H
  clear H
  obtain ⟨Ao14, co14, eo14⟩ := Kd.S_slice HO_1.out
  subst eo14
  have p455 : 0 ≤ ((ji10) : Int) := of_decide_eq_true dq19
  have q455 : (ji10) < (x1_1.length : Int) := of_decide_eq_true dq19
  obtain ⟨ad455, A455_3, c455_3, e455, hx455_0, hx455_1, hx455_2, hx455_3, hl455_3, hi455_3⟩ := at_T39 (Kd.S_reads' HO_1.out).2.2 (ji10) p455 q455
  cases e455
  obtain ⟨ce455, hce455, hMe455, hcc455⟩ := Kd.S_get HO_1.out z39 (ji10) p455 (by first | exact q455 | exact of_decide_eq_true dq19 | (have e_ := (Kd.S_reads' HO_1.out).1; omega))
  obtain ⟨ve455_3, rfl, ge455_3⟩ := k39_openM hMe455
  have hv455_3 := hcc455 3 _ rfl
  rw [add_field _ _ 3 dq37] at hv455_3
  replace hv455_3 := Option.some.inj (hv455_3.symm.trans hx455_3)
  rw [hv455_3] at ge455_3
  have HL455_3 := Aside0.mk (show Kd.R k46 46 _ _ _ _ ((rd_T39 x1_1 (ji10)).f3) from ge455_3)
  clear hv455_3 ge455_3
  clear hcc455 hce455
  have HR455_3 := Aside0.mk hi455_3
  have HC455_3 := Aside0.mk hl455_3
  clear hi455_3 hl455_3
  replace p455 := eq_true p455
  replace q455 := eq_true q455
  go_upto_region 5 with (first | ((with_reducible refine gate_dst (N := 10) rfl ?_); refine box_event ?hg (N := 10) ?hd (cs := #[.int .i64 0, .string (⟨#[]⟩ : ByteArray), .string (⟨#[]⟩ : ByteArray), .slice none 0 0]) (t := 39) ?hr ?_; (case hd => rfl); (case hg => rfl); (case hr => exact dq1); intro gb456 hg w15 hbox hb; have n0_ := Aside0.mk (Kd.S_below (Kd.S_elderB dq62 gb456 (Nat.le_of_eq hg.symm)) hb); have n1_ := Aside0.mk (Kd.R_below (by (with_reducible repeat (first | apply Kd.R_alloc | apply Kd.R_drewN | apply Kd.R_drew)); exact HL455_3.out) hb); have n2_ := Aside0.mk (IsS99.below dq59 hb); have n3_ := Aside0.mk (Kd.C_below (by repeat (first | (with_reducible exact HR455_3.out) | (with_reducible refine Kd.C_alloc ?_ _) | (with_reducible refine Kd.C_drewN ?_ _) | (with_reducible refine Kd.C_drew ?_) | exact HR455_3.out)) hb); have n4_ := Aside0.mk (KeepBut.trans dq57 (KeepBut.of_below hb g none) (.inl rfl)); have n5_ := Aside0.mk (below_step dq58 hb); have n6_ := Aside0.mk (hbox); have n7_ := Aside0.mk ((dq61 : w.heap.size ≤ gb456)); have n8_ := Aside0.mk ((Nat.le_trans HW0.out (dq61 : w.heap.size ≤ gb456) : w0.heap.size ≤ gb456)); have n9_ := Aside0.mk ((by rw [hg]; exact Nat.ne_of_lt (IsS99.lt (show IsS99 w0 _ g s0_0 x1001_1 from by repeat (first | (with_reducible first | exact HI0.out | apply IsS99.alloc | apply IsS99.drewN | apply IsS99.drew | apply IsS99.set_1) | exact HI0.out))) : g ≠ gb456)); have n10_ := Aside0.mk ((by rw [hg]; exact Nat.ne_of_gt (IsS99.lt (show IsS99 w0 _ g s0_0 x1001_1 from by repeat (first | (with_reducible first | exact HI0.out | apply IsS99.alloc | apply IsS99.drewN | apply IsS99.drew | apply IsS99.set_1) | exact HI0.out))) : gb456 ≠ g)); clear HO_1; clear HL455_3; clear HI0; clear HR455_3; clear HK; clear HB; have HO_1 := n0_; have HL455_3 := n1_; have HI0 := n2_; have HR455_3 := n3_; have HK := n4_; have HB := n5_; have BK456 := n6_; have GW456 := n7_; have GE456 := n8_; have NB0_456 := n9_; have NB456_0 := n10_; clear n0_ n1_ n2_ n3_ n4_ n5_ n6_ n7_ n8_ n9_ n10_; clear hb hbox hg; have hnb16 := NB456_0.out; have hnc16 := NB0_456.out; obtain ⟨⟨hcz17_0, hcz17_1, hcz17_2, hcz17_3⟩, hfz17_0, hfz17_1, hfz17_2, hfz17_3⟩ := blkC4 BK456.out))
  (try simp only [Act.put, List.setIfInBounds_toArray, List.set_cons_zero, List.set_cons_succ])
  go_cut [41] (fun v41 wc => ∃ (kq : Nat) (x41_12 : Bool) (x1001_12 : Int), v41 = .bool x41_12 ∧ Aside0 (spec_l1Rd_grow.j1 kq x1_1 a2 a3 x9_1 x41_12 s0_0 x1001_12 = some (r1, r2)) ∧ Aside0 (kq ≤ k1) ∧ Aside0 (Kd.S k39 39 wc w.heap.size (fun _ => True) (.slice (some ad455) x1_1.length co14) x1_1) ∧ Aside0 (IsS99 w0 wc g s0_0 x1001_12) ∧ Aside0 (KeepBut w wc g none) ∧ Aside0 (Below w0.heap.size w0 wc))
  case first =>
   have H := HC13.out
   clear HC13
   replace H := Option.bind_eq_some_iff.mp H
   obtain ⟨⟨t457, t458⟩, A180, H⟩ := H
   replace H : (if t457 = true then (if ((rd_T39 x1_1 (ji10)).f1).toList = ([] : List UInt8) then (spec_l1Rd_grow.j1 k1 x1_1 a2 a3 x9_1 (!(((rd_T39 x1_1 (ji10)).f0) == a2)) s0_0 t458) else (spec_l1Rd_grow.j1 k1 x1_1 a2 a3 x9_1 (!false) s0_0 t458)) else (spec_l1Rd_grow.j1 k1 x1_1 a2 a3 x9_1 false s0_0 t458)) = some (r1, r2) := H
   have A18 := Aside0.mk A180
   clear A180
   by_cases c19 : t457 = true
   rotate_left
   ·replace c19 := Bool.eq_false_iff.mpr c19
    subst c19
    have H1 : (spec_l1Rd_grow.j1 k1 x1_1 a2 a3 x9_1 false s0_0 t458) = some (r1, r2) := by rw [if_neg (show ¬ (false = true) by decide)] at H; exact H
    clear H
    have H := H1
    clear H1
    have H' := Aside0.mk H
    clear H
    go_wp2_with (first | ((with_reducible refine gate_callee (f := 52) rfl ?_); refine goesL_ (some 29) rfl rfl Tryd.func52 dq23 rfl #[.pointer (some ⟨g, 0, none⟩), .int .i64 3] rfl dq22 ?_; (with_reducible refine (spec_l1Rd_once.calls g s0_0 x1001_1 3 false t458 w0 _ ?side1 ?side2 A18.out).mono ?_); (case side1 => exact dq9); (case side2 => exact dq10); rintro e w27 ⟨rfl, hi, hb, hk⟩; refine ⟨_, rfl, ?_⟩; have n0_ := Aside0.mk (Kd.S_mono (Kd.S_keep (IsS99.apartS (show IsS99 w0 _ g s0_0 x1001_1 from by repeat (first | (with_reducible first | exact HI0.out | apply IsS99.alloc | apply IsS99.drewN | apply IsS99.drew | apply IsS99.set_1 | refine IsS99.far ?_ NB0_456.out _) | exact HI0.out)) dq66 dq52) hk (fun _ h => h.2)) (fun _ h => h.1)); have n1_ := Aside0.mk (Kd.R_mono (Kd.R_keep (IsS99.apart (show IsS99 w0 _ g s0_0 x1001_1 from by repeat (first | (with_reducible first | exact HI0.out | apply IsS99.alloc | apply IsS99.drewN | apply IsS99.drew | apply IsS99.set_1 | refine IsS99.far ?_ NB0_456.out _) | exact HI0.out)) dq65 dq52) hk (fun _ h => h.2)) (fun _ h => h.1)); have n2_ := Aside0.mk (KeepBut.blk hk (g' := gb456) (o := .cells #[.int .i64 ((rd_T39 x1_1 (ji10)).f0), .string ((rd_T39 x1_1 (ji10)).f1), .string ((rd_T39 x1_1 (ji10)).f2), .slice A455_3 ((rd_T39 x1_1 (ji10)).f3).length c455_3] 39 (0, 0)) dq64 NB456_0.out dq21); have n3_ := Aside0.mk (KeepBut.trans dq63 hk (.inl rfl)); have n4_ := Aside0.mk (hb); have n5_ := Aside0.mk (hi); clear HO_1; clear HL455_3; clear BK456; clear HK; clear HB; clear HI0; have HO_1 := n0_; have HL455_3 := n1_; have BK456 := n2_; have HK := n3_; have HB := n4_; have HI0 := n5_; clear n0_ n1_ n2_ n3_ n4_ n5_; (try clear hb); (try clear hb2); (try clear hk); (try clear hi)))
    go_meet
    case rel => exact ⟨_, (false), (t458), dq18, H', ⟨dq56⟩, ⟨dq69⟩, ⟨dq68⟩, ⟨dq63⟩, ⟨dq67⟩⟩
   subst c19
   have H1 : (if ((rd_T39 x1_1 (ji10)).f1).toList = ([] : List UInt8) then (spec_l1Rd_grow.j1 k1 x1_1 a2 a3 x9_1 (!(((rd_T39 x1_1 (ji10)).f0) == a2)) s0_0 t458) else (spec_l1Rd_grow.j1 k1 x1_1 a2 a3 x9_1 (!false) s0_0 t458)) = some (r1, r2) := by rw [if_pos rfl] at H; exact H
   clear H
   have H := H1
   clear H1
   by_cases c20 : ((rd_T39 x1_1 (ji10)).f1).toList = ([] : List UInt8)
   rotate_left
   ·rw [if_neg c20] at H
    have c20b0 := beq_eq_false_iff_ne.mpr c20
    have c20b1 := bne_iff_ne.mpr c20
    (first | rw [c20b0] | (simp only [i64_w, i32_w]; rw [c20b0]) | skip)
    have H' := Aside0.mk H
    clear H
    go_wp2_with (first | ((with_reducible refine gate_callee (f := 52) rfl ?_); refine goesL_ (some 29) rfl rfl Tryd.func52 dq23 rfl #[.pointer (some ⟨g, 0, none⟩), .int .i64 3] rfl dq22 ?_; (with_reducible refine (spec_l1Rd_once.calls g s0_0 x1001_1 3 true t458 w0 _ ?side1 ?side2 A18.out).mono ?_); (case side1 => exact dq9); (case side2 => exact dq10); rintro e w24 ⟨rfl, hi, hb, hk⟩; refine ⟨_, rfl, ?_⟩; have n0_ := Aside0.mk (Kd.S_mono (Kd.S_keep (IsS99.apartS (show IsS99 w0 _ g s0_0 x1001_1 from by repeat (first | (with_reducible first | exact HI0.out | apply IsS99.alloc | apply IsS99.drewN | apply IsS99.drew | apply IsS99.set_1 | refine IsS99.far ?_ NB0_456.out _) | exact HI0.out)) dq66 dq52) hk (fun _ h => h.2)) (fun _ h => h.1)); have n1_ := Aside0.mk (Kd.R_mono (Kd.R_keep (IsS99.apart (show IsS99 w0 _ g s0_0 x1001_1 from by repeat (first | (with_reducible first | exact HI0.out | apply IsS99.alloc | apply IsS99.drewN | apply IsS99.drew | apply IsS99.set_1 | refine IsS99.far ?_ NB0_456.out _) | exact HI0.out)) dq65 dq52) hk (fun _ h => h.2)) (fun _ h => h.1)); have n2_ := Aside0.mk (KeepBut.blk hk (g' := gb456) (o := .cells #[.int .i64 ((rd_T39 x1_1 (ji10)).f0), .string ((rd_T39 x1_1 (ji10)).f1), .string ((rd_T39 x1_1 (ji10)).f2), .slice A455_3 ((rd_T39 x1_1 (ji10)).f3).length c455_3] 39 (0, 0)) dq64 NB456_0.out dq21); have n3_ := Aside0.mk (KeepBut.trans dq63 hk (.inl rfl)); have n4_ := Aside0.mk (hb); have n5_ := Aside0.mk (hi); clear HO_1; clear HL455_3; clear BK456; clear HK; clear HB; clear HI0; have HO_1 := n0_; have HL455_3 := n1_; have BK456 := n2_; have HK := n3_; have HB := n4_; have HI0 := n5_; clear n0_ n1_ n2_ n3_ n4_ n5_; (try clear hb); (try clear hb2); (try clear hk); (try clear hi); have hnb25 := NB456_0.out; have hnc25 := NB0_456.out; obtain ⟨⟨hcz26_0, hcz26_1, hcz26_2, hcz26_3⟩, hfz26_0, hfz26_1, hfz26_2, hfz26_3⟩ := blkC4 BK456.out))
    go_meet
    case rel => exact ⟨_, (!false), (t458), dq18, H', ⟨dq56⟩, ⟨dq69⟩, ⟨dq68⟩, ⟨dq63⟩, ⟨dq67⟩⟩
   rw [if_pos c20] at H
   have c20b0 := beq_iff_eq.mpr c20
   have c20b1 := bne_eq_false_iff_eq.mpr c20
   clear c20
   (first | rw [c20b0] | (simp only [i64_w, i32_w]; rw [c20b0]) | skip)
   have H' := Aside0.mk H
   clear H
   go_wp2_with (first | ((with_reducible refine gate_callee (f := 52) rfl ?_); refine goesL_ (some 29) rfl rfl Tryd.func52 dq23 rfl #[.pointer (some ⟨g, 0, none⟩), .int .i64 3] rfl dq22 ?_; (with_reducible refine (spec_l1Rd_once.calls g s0_0 x1001_1 3 true t458 w0 _ ?side1 ?side2 A18.out).mono ?_); (case side1 => exact dq9); (case side2 => exact dq10); rintro e w21 ⟨rfl, hi, hb, hk⟩; refine ⟨_, rfl, ?_⟩; have n0_ := Aside0.mk (Kd.S_mono (Kd.S_keep (IsS99.apartS (show IsS99 w0 _ g s0_0 x1001_1 from by repeat (first | (with_reducible first | exact HI0.out | apply IsS99.alloc | apply IsS99.drewN | apply IsS99.drew | apply IsS99.set_1 | refine IsS99.far ?_ NB0_456.out _) | exact HI0.out)) dq66 dq52) hk (fun _ h => h.2)) (fun _ h => h.1)); have n1_ := Aside0.mk (Kd.R_mono (Kd.R_keep (IsS99.apart (show IsS99 w0 _ g s0_0 x1001_1 from by repeat (first | (with_reducible first | exact HI0.out | apply IsS99.alloc | apply IsS99.drewN | apply IsS99.drew | apply IsS99.set_1 | refine IsS99.far ?_ NB0_456.out _) | exact HI0.out)) dq65 dq52) hk (fun _ h => h.2)) (fun _ h => h.1)); have n2_ := Aside0.mk (KeepBut.blk hk (g' := gb456) (o := .cells #[.int .i64 ((rd_T39 x1_1 (ji10)).f0), .string ((rd_T39 x1_1 (ji10)).f1), .string ((rd_T39 x1_1 (ji10)).f2), .slice A455_3 ((rd_T39 x1_1 (ji10)).f3).length c455_3] 39 (0, 0)) dq64 NB456_0.out dq21); have n3_ := Aside0.mk (KeepBut.trans dq63 hk (.inl rfl)); have n4_ := Aside0.mk (hb); have n5_ := Aside0.mk (hi); clear HO_1; clear HL455_3; clear BK456; clear HK; clear HB; clear HI0; have HO_1 := n0_; have HL455_3 := n1_; have BK456 := n2_; have HK := n3_; have HB := n4_; have HI0 := n5_; clear n0_ n1_ n2_ n3_ n4_ n5_; (try clear hb); (try clear hb2); (try clear hk); (try clear hi); have hnb22 := NB456_0.out; have hnc22 := NB0_456.out; obtain ⟨⟨hcz23_0, hcz23_1, hcz23_2, hcz23_3⟩, hfz23_0, hfz23_1, hfz23_2, hfz23_3⟩ := blkC4 BK456.out))
   go_meet
   case rel => exact ⟨_, (!(((rd_T39 x1_1 (ji10)).f0) == a2)), (t458), (by first | rfl | (simp; done) | (simp only [← hji10] <;> (first | rfl | simp)) | (simp [*]; done)), H', ⟨dq56⟩, ⟨dq69⟩, ⟨dq68⟩, ⟨dq63⟩, ⟨dq67⟩⟩
  clear HC13
  try clear c9b0
  try clear c11b0
  try clear c12b0
  try clear hcz17_0
  try clear hcz17_1
  try clear hcz17_2
  try clear hcz17_3
  try clear hfz17_0
  try clear hfz17_1
  try clear hfz17_2
  try clear hfz17_3
  try clear hx455_0
  try clear hx455_1
  try clear hx455_2
  try clear hx455_3
  try clear p455
  try clear q455
  obtain ⟨kq, x41_12, x1001_12, rfl, HA, HJ12, HO_1, HI0, HK, HB⟩ := hcut
  cases kq with
  | zero => exact absurd HA.out (by simp [spec_l1Rd_grow.j1])
  | succ kj12 =>
   have H := HA.out
   clear HA
   simp only [spec_l1Rd_grow.j1] at H
   by_cases c28 : x41_12 = true
   ·subst c28
    have H1 : ((spec_l1Rd_text.f s0_0 x1001_12).bind fun bt459 => (if bt459.1.toList = ([] : List UInt8) then (spec_l1Rd_grow.l0 kj12 x1_1 a2 a3 (wrap64 (x9_1 - 1)) s0_0 bt459.2) else (if x1_1.length < 2199023255552 then (spec_l1Rd_grow.l0 kj12 (x1_1 ++ [(⟨a2, (⟨#[]⟩ : ByteArray), bt459.1, ([] : List (S46))⟩ : S39)]) a2 a3 (wrap64 (x9_1 - 1)) s0_0 bt459.2) else (none)))) = some (r1, r2) := by rw [if_pos rfl] at H; exact H
    clear H
    have H := H1
    clear H1
    replace H := Option.bind_eq_some_iff.mp H
    obtain ⟨⟨t459, t460⟩, A290, H⟩ := H
    replace H : (if t459.toList = ([] : List UInt8) then (spec_l1Rd_grow.l0 kj12 x1_1 a2 a3 (wrap64 (x9_1 - 1)) s0_0 t460) else (if x1_1.length < 2199023255552 then (spec_l1Rd_grow.l0 kj12 (x1_1 ++ [(⟨a2, (⟨#[]⟩ : ByteArray), t459, ([] : List (S46))⟩ : S39)]) a2 a3 (wrap64 (x9_1 - 1)) s0_0 t460) else (none))) = some (r1, r2) := H
    have A29 := Aside0.mk A290
    clear A290
    by_cases c30 : t459.toList = ([] : List UInt8)
    ·rw [if_pos c30] at H
     have c30b0 := beq_iff_eq.mpr c30
     have c30b1 := bne_eq_false_iff_eq.mpr c30
     clear c30
     have H' := Aside0.mk H
     clear H
     go_wp2_with (first | ((with_reducible refine gate_callee (f := 88) rfl ?_); refine goesL_ (some 43) rfl rfl Tryd.func88 dq23 rfl #[.pointer (some ⟨g, 0, none⟩)] rfl dq22 ?_; (with_reducible refine (spec_l1Rd_text.calls g s0_0 x1001_12 t459 t460 w0 _ ?side1 ?side2 A29.out).mono ?_); (case side1 => exact dq7); (case side2 => exact dq8); rintro e w31 ⟨rfl, hi, hb, hk⟩; refine ⟨_, rfl, ?_⟩; have n0_ := Aside0.mk (Kd.S_mono (Kd.S_keep (IsS99.apartS (show IsS99 w0 _ g s0_0 x1001_12 from by repeat (first | (with_reducible first | exact HI0.out | apply IsS99.alloc | apply IsS99.drewN | apply IsS99.drew | apply IsS99.set_1) | exact HI0.out)) dq62 dq52) hk (fun _ h => h.2)) (fun _ h => h.1)); have n1_ := Aside0.mk (KeepBut.trans dq57 hk (.inl rfl)); have n2_ := Aside0.mk (hb); have n3_ := Aside0.mk (hi); clear HO_1; clear HK; clear HB; clear HI0; have HO_1 := n0_; have HK := n1_; have HB := n2_; have HI0 := n3_; clear n0_ n1_ n2_ n3_; (try clear hb); (try clear hb2); (try clear hk); (try clear hi)))
     go_roundg kj12
     case measure => have := HK1.out; have := HJ12.out; omega
     case rel => exact ⟨(x1_1), (wrap64 (x9_1 - 1)), (t460), dq18, H', ⟨by have := HK1.out; have := HJ12.out; omega⟩, ⟨dq62⟩, ⟨dq59⟩, ⟨dq57⟩, ⟨dq58⟩⟩
    rw [if_neg c30] at H
    have c30b0 := beq_eq_false_iff_ne.mpr c30
    have c30b1 := bne_iff_ne.mpr c30
    by_cases c32 : x1_1.length < 2199023255552
    rotate_left
    ·rw [if_neg c32] at H
     exact absurd H dq21
    rw [if_pos c32] at H
    have LMc32 := Aside0.mk c32
    clear c32
    obtain ⟨y461, hy461⟩ : ∃ y_ : List (S39), y_ = (x1_1 ++ [(⟨a2, (⟨#[]⟩ : ByteArray), t459, ([] : List (S46))⟩ : S39)]) := ⟨_, rfl⟩
    replace H : (spec_l1Rd_grow.l0 kj12 y461 a2 a3 (wrap64 (x9_1 - 1)) s0_0 t460) = some (r1, r2) := by first | (rw [hy461]; with_reducible exact H) | (have H2_ := (Option.bind_some _ _).symm.trans H; rw [hy461]; with_reducible exact H2_) | (have H2_ := (Option.bind_some _ _).symm.trans H; with_reducible exact H2_) | with_reducible exact H | (rw [hy461]; exact H) | exact H
    have Ny461 := Aside0.mk hy461
    clear hy461
    have H' := Aside0.mk H
    clear H
    go_wp2_with (first | ((with_reducible refine gate_callee (f := 88) rfl ?_); refine goesL_ (some 43) rfl rfl Tryd.func88 dq23 rfl #[.pointer (some ⟨g, 0, none⟩)] rfl dq22 ?_; (with_reducible refine (spec_l1Rd_text.calls g s0_0 x1001_12 t459 t460 w0 _ ?side1 ?side2 A29.out).mono ?_); (case side1 => exact dq7); (case side2 => exact dq8); rintro e w33 ⟨rfl, hi, hb, hk⟩; refine ⟨_, rfl, ?_⟩; have n0_ := Aside0.mk (Kd.S_mono (Kd.S_keep (IsS99.apartS (show IsS99 w0 _ g s0_0 x1001_12 from by repeat (first | (with_reducible first | exact HI0.out | apply IsS99.alloc | apply IsS99.drewN | apply IsS99.drew | apply IsS99.set_1) | exact HI0.out)) dq62 dq52) hk (fun _ h => h.2)) (fun _ h => h.1)); have n1_ := Aside0.mk (KeepBut.trans dq57 hk (.inl rfl)); have n2_ := Aside0.mk (hb); have n3_ := Aside0.mk (hi); clear HO_1; clear HK; clear HB; clear HI0; have HO_1 := n0_; have HK := n1_; have HB := n2_; have HI0 := n3_; clear n0_ n1_ n2_ n3_; (try clear hb); (try clear hb2); (try clear hk); (try clear hi)) | ((with_reducible refine gate_builtin (b := .append) (xs := #[.tmp 46, .tmp 50]) rfl ?_); at_builtin; refine Kd.S_append k39 w.heap.size rfl (.tmp 46) (.tmp 50) 26 39 (.agg #[(.int .i64 0), (.string ⟨#[]⟩), (.string ⟨#[]⟩), (.slice none 0 0)]) 64 rfl Tryd.underlying26 info39 rfl dq52 dq37 (.slice (some ad455) x1_1.length co14) x1_1 (⟨a2, (⟨#[]⟩ : ByteArray), t459, ([] : List (S46))⟩ : S39) [.int .i64 a2, .string (⟨#[]⟩ : ByteArray), .string t459, .slice none 0 0] (fun _ => True) (fun _ => False) rfl rfl ?aP (fun k_ hk_ => hk_.elim) ?aF ?aO (Below.refl _ _) ?aS ?aL ?_; (case aP => exact k39_mkM _ _ _ (⟨a2, (⟨#[]⟩ : ByteArray), t459, ([] : List (S46))⟩ : S39) (Kd.R_nil _ _ _ _ _)); (case aF => exact (fun _ _ => trivial)); (case aO => exact (by (with_reducible repeat (first | apply Kd.S_alloc | apply Kd.S_drewN | apply Kd.S_drew)); exact Kd.S_mono HO_1.out (fun k_ hk => ⟨trivial, fun e_ => e_⟩))); (case aS => exact (keep_size (w := w) (g := g) (row := none) dq57)); (case aL => have := LMc32.out; omega); intro v462 w34 ho hb hg hat; rw [← Ny461.out] at ho; have n0_ := Aside0.mk (IsS99.grown dq59 hg (IsS99.own_neS HI0.out HO_1.out dq52)); have n1_ := Aside0.mk (below_weaken dq58 HL.out hb); have n2_ := Aside0.mk (KeepBut.trans dq57 (KeepBut.of_grown hg g) (Kd.S_base2 HO_1.out)); have n3_ := Aside0.mk (ho); clear HI0; clear HB; clear HK; clear HO_1; have HI0 := n0_; have HB := n1_; have HK := n2_; have HO463 := n3_; clear n0_ n1_ n2_ n3_; clear ho hb hg hat))
    go_roundg kj12
    case measure => have := HK1.out; have := HJ12.out; omega
    case rel => exact ⟨(y461), (wrap64 (x9_1 - 1)), (t460), dq18, H', ⟨by have := HK1.out; have := HJ12.out; omega⟩, ⟨by (with_reducible repeat (first | apply Kd.S_alloc | apply Kd.S_drewN | apply Kd.S_drew)); exact HO463.out⟩, ⟨dq59⟩, ⟨dq57⟩, ⟨dq58⟩⟩
   replace c28 := Bool.eq_false_iff.mpr c28
   subst c28
   have H1 : ((spec_l1Rd_name.f s0_0 x1001_12).bind fun bt464 => ((spec_l1Rd_below.f s0_0 bt464.2 3).bind fun bt467 => (spec_l1Rd_grow.l1 kj12 x1_1 a2 a3 x9_1 bt467.1 s0_0 bt467.2 a2 bt464.1 (⟨#[]⟩ : ByteArray) ([] : List (S46))))) = some (r1, r2) := by rw [if_neg (show ¬ (false = true) by decide)] at H; exact H
   clear H
   have H := H1
   clear H1
   replace H := Option.bind_eq_some_iff.mp H
   obtain ⟨⟨t464, t465⟩, A350, H⟩ := H
   replace H : ((spec_l1Rd_below.f s0_0 t465 3).bind fun bt467 => (spec_l1Rd_grow.l1 kj12 x1_1 a2 a3 x9_1 bt467.1 s0_0 bt467.2 a2 t464 (⟨#[]⟩ : ByteArray) ([] : List (S46)))) = some (r1, r2) := H
   have A35 := Aside0.mk A350
   clear A350
   replace H := Option.bind_eq_some_iff.mp H
   obtain ⟨⟨t467, t468⟩, A360, H⟩ := H
   replace H : (spec_l1Rd_grow.l1 kj12 x1_1 a2 a3 x9_1 t467 s0_0 t468 a2 t464 (⟨#[]⟩ : ByteArray) ([] : List (S46))) = some (r1, r2) := H
   have A36 := Aside0.mk A360
   clear A360
   have H' := Aside0.mk H
   clear H
   go_wp2_with (first | ((with_reducible refine gate_callee (f := 87) rfl ?_); refine goesL_ (some 54) rfl rfl Tryd.func87 dq23 rfl #[.pointer (some ⟨g, 0, none⟩)] rfl dq22 ?_; (with_reducible refine (spec_l1Rd_name.calls g s0_0 x1001_12 t464 t465 w0 _ ?side1 ?side2 A35.out).mono ?_); (case side1 => exact dq7); (case side2 => exact dq8); rintro e w37 ⟨rfl, hi, hb, hk⟩; refine ⟨_, rfl, ?_⟩; have n0_ := Aside0.mk (Kd.S_mono (Kd.S_keep (IsS99.apartS (show IsS99 w0 _ g s0_0 x1001_12 from by repeat (first | (with_reducible first | exact HI0.out | apply IsS99.alloc | apply IsS99.drewN | apply IsS99.drew | apply IsS99.set_1) | exact HI0.out)) dq62 dq52) hk (fun _ h => h.2)) (fun _ h => h.1)); have n1_ := Aside0.mk (KeepBut.trans dq57 hk (.inl rfl)); have n2_ := Aside0.mk (hb); have n3_ := Aside0.mk (hi); clear HO_1; clear HK; clear HB; clear HI0; have HO_1 := n0_; have HK := n1_; have HB := n2_; have HI0 := n3_; clear n0_ n1_ n2_ n3_; (try clear hb); (try clear hb2); (try clear hk); (try clear hi)) | ((with_reducible refine gate_dst (N := 12) rfl ?_); refine box_event ?hg (N := 12) ?hd (cs := #[.int .i64 0, .string (⟨#[]⟩ : ByteArray), .string (⟨#[]⟩ : ByteArray), .slice none 0 0]) (t := 39) ?hr ?_; (case hd => rfl); (case hg => rfl); (case hr => exact dq1); intro gb466 hg w38 hbox hb; have n0_ := Aside0.mk (Kd.S_below (Kd.S_elderB dq62 gb466 (Nat.le_of_eq hg.symm)) hb); have n1_ := Aside0.mk (IsS99.below dq59 hb); have n2_ := Aside0.mk (KeepBut.trans dq57 (KeepBut.of_below hb g none) (.inl rfl)); have n3_ := Aside0.mk (below_step dq58 hb); have n4_ := Aside0.mk (hbox); have n5_ := Aside0.mk ((dq61 : w.heap.size ≤ gb466)); have n6_ := Aside0.mk ((Nat.le_trans HW0.out (dq61 : w.heap.size ≤ gb466) : w0.heap.size ≤ gb466)); have n7_ := Aside0.mk ((by rw [hg]; exact Nat.ne_of_lt (IsS99.lt (show IsS99 w0 _ g s0_0 t465 from by repeat (first | (with_reducible first | exact HI0.out | apply IsS99.alloc | apply IsS99.drewN | apply IsS99.drew | apply IsS99.set_1) | exact HI0.out))) : g ≠ gb466)); have n8_ := Aside0.mk ((by rw [hg]; exact Nat.ne_of_gt (IsS99.lt (show IsS99 w0 _ g s0_0 t465 from by repeat (first | (with_reducible first | exact HI0.out | apply IsS99.alloc | apply IsS99.drewN | apply IsS99.drew | apply IsS99.set_1) | exact HI0.out))) : gb466 ≠ g)); clear HO_1; clear HI0; clear HK; clear HB; have HO_1 := n0_; have HI0 := n1_; have HK := n2_; have HB := n3_; have BK466 := n4_; have GW466 := n5_; have GE466 := n6_; have NB0_466 := n7_; have NB466_0 := n8_; clear n0_ n1_ n2_ n3_ n4_ n5_ n6_ n7_ n8_; clear hb hbox hg; have hnb39 := NB466_0.out; have hnc39 := NB0_466.out; obtain ⟨⟨hcz40_0, hcz40_1, hcz40_2, hcz40_3⟩, hfz40_0, hfz40_1, hfz40_2, hfz40_3⟩ := blkC4 BK466.out) | ((with_reducible refine gate_callee (f := 63) rfl ?_); refine goesL_ (some 57) rfl rfl Tryd.func63 dq23 rfl #[.pointer (some ⟨g, 0, none⟩), .int .i64 3] rfl dq22 ?_; (with_reducible refine (spec_l1Rd_below.calls g s0_0 t465 3 t467 t468 w0 _ ?side1 ?side2 A36.out).mono ?_); (case side1 => exact dq11); (case side2 => exact dq12); rintro e w41 ⟨rfl, hi, hb, hk⟩; refine ⟨_, rfl, ?_⟩; have n0_ := Aside0.mk (Kd.S_mono (Kd.S_keep (IsS99.apartS (show IsS99 w0 _ g s0_0 t465 from by repeat (first | (with_reducible first | exact HI0.out | apply IsS99.alloc | apply IsS99.drewN | apply IsS99.drew | apply IsS99.set_1 | refine IsS99.far ?_ NB0_466.out _) | exact HI0.out)) (by (with_reducible repeat (first | apply Kd.S_alloc | apply Kd.S_drewN | apply Kd.S_drew)); exact (Kd.S_mono (Kd.S_far (p := ⟨gb466, 3, none⟩) (Kd.S_far (p := ⟨gb466, 2, none⟩) (Kd.S_far (p := ⟨gb466, 1, none⟩) (Kd.S_far (p := ⟨gb466, 0, none⟩) (Kd.S_mono HO_1.out (fun k_ hk => (⟨hk, hk.2⟩ : _ ∧ k_ ≠ gb466))) (fun _ hk => hk.2) (.int .i64 a2)) (fun _ hk => hk.2) (.string t464)) (fun _ hk => hk.2) (.string (⟨#[]⟩ : ByteArray))) (fun _ hk => hk.2) (.slice none 0 0)) (fun _ h_ => h_.1))) dq52) hk (fun _ h => h.2)) (fun _ h => h.1)); have n1_ := Aside0.mk (KeepBut.blk hk (g' := gb466) (o := .cells #[.int .i64 a2, .string t464, .string (⟨#[]⟩ : ByteArray), .slice none 0 0] 39 (0, 0)) (by refine blk_up ?_; refine blk_put (cs := #[.int .i64 a2, .string t464, .string (⟨#[]⟩ : ByteArray), .slice none 0 0]) ?_ 3 _ rfl; refine blk_up ?_; refine blk_put (cs := #[.int .i64 a2, .string t464, .string (⟨#[]⟩ : ByteArray), .slice none 0 0]) ?_ 2 _ rfl; refine blk_up ?_; refine blk_put (cs := #[.int .i64 a2, .string (⟨#[]⟩ : ByteArray), .string (⟨#[]⟩ : ByteArray), .slice none 0 0]) ?_ 1 _ rfl; refine blk_up ?_; refine blk_put (cs := #[.int .i64 0, .string (⟨#[]⟩ : ByteArray), .string (⟨#[]⟩ : ByteArray), .slice none 0 0]) ?_ 0 _ rfl; refine blk_up ?_; exact BK466.out) NB466_0.out dq21); have n2_ := Aside0.mk (KeepBut.trans dq70 hk (.inl rfl)); have n3_ := Aside0.mk (hb); have n4_ := Aside0.mk (hi); clear HO_1; clear BK466; clear HK; clear HB; clear HI0; have HO_1 := n0_; have BK466 := n1_; have HK := n2_; have HB := n3_; have HI0 := n4_; clear n0_ n1_ n2_ n3_ n4_; (try clear hb); (try clear hb2); (try clear hk); (try clear hi)))
   go_loopg [13] kj12 (fun kq v13 w' => ∃ (x13_3 : Int) (x1001_3 : Int) (x467003_3 : List (S46)) (u467003 : Value), v13 = .int .i64 x13_3 ∧ Aside0 (spec_l1Rd_grow.l1 kq x1_1 a2 a3 x9_1 x13_3 s0_0 x1001_3 a2 t464 (⟨#[]⟩ : ByteArray) x467003_3 = some (r1, r2)) ∧ Aside0 (kq ≤ kj12) ∧ Aside0 (Kd.S k39 39 w' w.heap.size (fun k_ => some k_ ≠ (u467003 : Value).ownBlock ∧ k_ ≠ gb466) (.slice (some ad455) x1_1.length co14) x1_1) ∧ Aside0 (Kd.R k46 46 w' w.heap.size (fun _ => True) u467003 x467003_3) ∧ Aside0 (w'.heap[gb466]? = some (.cells #[.int .i64 a2, .string t464, .string (⟨#[]⟩ : ByteArray), u467003] 39 (0, 0))) ∧ Aside0 (IsS99 w0 w' g s0_0 x1001_3) ∧ Aside0 (KeepBut w w' g none) ∧ Aside0 (Below w0.heap.size w0 w'))
   case atStart => exact ⟨(t467), (t468), (([] : List (S46))), (.slice none 0 0), dq18, H', ⟨Nat.le_refl _⟩, ⟨by (with_reducible repeat (first | apply Kd.S_alloc | apply Kd.S_drewN | apply Kd.S_drew)); exact Kd.S_mono HO_1.out (fun _ hk => ⟨(by simp [Value.ownBlock]), hk.2⟩)⟩, ⟨dq60⟩, ⟨dq73⟩, ⟨dq72⟩, ⟨dq70⟩, ⟨dq71⟩⟩
   clear H'
   try clear hcz40_0
   try clear hcz40_1
   try clear hcz40_2
   try clear hcz40_3
   try clear hfz40_0
   try clear hfz40_1
   try clear hfz40_2
   try clear hfz40_3
   obtain ⟨x13_3, x1001_3, x467003_3, u467003, rfl, HA, HK3, HO_1, HO_467003, BK466, HI0, HK, HB⟩ := hrel
   cases gk with
   | zero => exact absurd HA.out (by simp [spec_l1Rd_grow.l1])
   | succ k3 =>
    have H := HA.out
    clear HA
    simp only [spec_l1Rd_grow.l1] at H
    by_cases c42 : x13_3 > 0
    rotate_left
    ·rw [if_neg c42] at H
     have c42b0 : decide (0 < x13_3) = false := decide_eq_false c42
     clear c42
     replace H := Option.bind_eq_some_iff.mp H
     obtain ⟨t483, A650, H⟩ := H
     replace H : (if t483 = true then (spec_l1Rd_grow.j3 k3 x1_1 a2 a3 x9_1 s0_0 x1001_3 a2 t464 (⟨#[]⟩ : ByteArray) x467003_3) else (if 1 ≤ (x467003_3.length : Int) then (spec_l1Rd_grow.j3 k3 x1_1 a2 a3 x9_1 s0_0 x1001_3 a2 t464 (⟨#[]⟩ : ByteArray) (x467003_3.take (1 : Int).toNat)) else (none))) = some (r1, r2) := H
     have A65 := Aside0.mk A650
     clear A650
     have HC66 := Aside0.mk H
     clear H
     have hnb67 := NB466_0.out
     have hnc67 := NB0_466.out
     obtain ⟨⟨hcz68_0, hcz68_1, hcz68_2, hcz68_3⟩, hfz68_0, hfz68_1, hfz68_2, hfz68_3⟩ := blkC4 BK466.out
     obtain ⟨Ao69, co69, eo69⟩ := Kd.R_slice HO_467003.out
     subst eo69
     go_upto_if 80 with (first | ((with_reducible refine gate_callee (f := 60) rfl ?_); refine goesL_ (some 79) rfl rfl Tryd.func60 dq23 rfl #[.slice Ao69 x467003_3.length co69] rfl dq22 ?_; (with_reducible refine (spec_l2Attrs.calls k3 _ _ x467003_3 t483 _ ?side1 ?side2 A65.out).mono ?_); (case side1 => repeat (first | exact (Kd.R_reads' HO_467003.out).2.2 | (with_reducible refine Kd.C_alloc ?_ _) | (with_reducible refine Kd.C_drewN ?_ _) | (with_reducible refine Kd.C_drew ?_))); (case side2 => exact (Kd.R_reads' HO_467003.out).2.1); rintro e w70 ⟨rfl, hb⟩; refine ⟨_, rfl, ?_⟩; have n0_ := Aside0.mk (Kd.S_below dq62 hb); have n1_ := Aside0.mk (Kd.R_below dq74 hb); have n2_ := Aside0.mk (blk_below (g := gb466) (o := .cells #[.int .i64 a2, .string t464, .string (⟨#[]⟩ : ByteArray), .slice Ao69 x467003_3.length co69] 39 (0, 0)) dq73 hb); have n3_ := Aside0.mk (IsS99.below dq72 hb); have n4_ := Aside0.mk (KeepBut.trans dq70 (KeepBut.of_below hb g none) (.inl rfl)); have n5_ := Aside0.mk (below_step dq71 hb); clear HO_1; clear HO_467003; clear BK466; clear HI0; clear HK; clear HB; have HO_1 := n0_; have HO_467003 := n1_; have BK466 := n2_; have HI0 := n3_; have HK := n4_; have HB := n5_; clear n0_ n1_ n2_ n3_ n4_ n5_; (try clear hb); (try clear hb2); (try clear hk); (try clear hi)))
     (try simp only [Act.put, List.setIfInBounds_toArray, List.set_cons_zero, List.set_cons_succ])
     go_cut [] (fun wc => ∃ (kq : Nat) (x467003_65 : List (S46)) (u467003 : Value), Aside0 (spec_l1Rd_grow.j3 kq x1_1 a2 a3 x9_1 s0_0 x1001_3 a2 t464 (⟨#[]⟩ : ByteArray) x467003_65 = some (r1, r2)) ∧ Aside0 (kq ≤ k3) ∧ Aside0 (Kd.S k39 39 wc w.heap.size (fun k_ => some k_ ≠ (u467003 : Value).ownBlock ∧ k_ ≠ gb466) (.slice (some ad455) x1_1.length co14) x1_1) ∧ Aside0 (Kd.R k46 46 wc w.heap.size (fun _ => True) u467003 x467003_65) ∧ Aside0 (wc.heap[gb466]? = some (.cells #[.int .i64 a2, .string t464, .string (⟨#[]⟩ : ByteArray), u467003] 39 (0, 0))) ∧ Aside0 (IsS99 w0 wc g s0_0 x1001_3) ∧ Aside0 (KeepBut w wc g none) ∧ Aside0 (Below w0.heap.size w0 wc))
     case first =>
      have H := HC66.out
      clear HC66
      by_cases c71 : t483 = true
      ·subst c71
       have H1 : (spec_l1Rd_grow.j3 k3 x1_1 a2 a3 x9_1 s0_0 x1001_3 a2 t464 (⟨#[]⟩ : ByteArray) x467003_3) = some (r1, r2) := by rw [if_pos rfl] at H; exact H
       clear H
       have H := H1
       clear H1
       have H' := Aside0.mk H
       clear H
       go_wp2
       go_meet
       case rel => exact ⟨_, (x467003_3), (.slice Ao69 x467003_3.length co69), H', ⟨by have := HK1.out; have := HJ12.out; have := HK3.out; first | omega | exact Nat.le_refl _⟩, ⟨dq62⟩, ⟨dq74⟩, ⟨dq73⟩, ⟨dq72⟩, ⟨dq70⟩, ⟨dq71⟩⟩
      replace c71 := Bool.eq_false_iff.mpr c71
      subst c71
      have H1 : (if 1 ≤ (x467003_3.length : Int) then (spec_l1Rd_grow.j3 k3 x1_1 a2 a3 x9_1 s0_0 x1001_3 a2 t464 (⟨#[]⟩ : ByteArray) (x467003_3.take (1 : Int).toNat)) else (none)) = some (r1, r2) := by rw [if_neg (show ¬ (false = true) by decide)] at H; exact H
      clear H
      have H := H1
      clear H1
      by_cases c72 : 1 ≤ (x467003_3.length : Int)
      rotate_left
      ·rw [if_neg c72] at H
       exact absurd H dq21
      rw [if_pos c72] at H
      have c72b0 := eq_true c72
      have c72b1 := decide_eq_true c72
      clear c72
      obtain ⟨y484, hy484⟩ : ∃ y_ : List (S46), y_ = (x467003_3.take (1 : Int).toNat) := ⟨_, rfl⟩
      replace H : (spec_l1Rd_grow.j3 k3 x1_1 a2 a3 x9_1 s0_0 x1001_3 a2 t464 (⟨#[]⟩ : ByteArray) y484) = some (r1, r2) := by first | (rw [hy484]; with_reducible exact H) | (have H2_ := (Option.bind_some _ _).symm.trans H; rw [hy484]; with_reducible exact H2_) | (have H2_ := (Option.bind_some _ _).symm.trans H; with_reducible exact H2_) | with_reducible exact H | (rw [hy484]; exact H) | exact H
      have Ny484 := Aside0.mk hy484
      clear hy484
      have H' := Aside0.mk H
      clear H
      have hnb73 := NB466_0.out
      have hnc73 := NB0_466.out
      obtain ⟨⟨hcz74_0, hcz74_1, hcz74_2, hcz74_3⟩, hfz74_0, hfz74_1, hfz74_2, hfz74_3⟩ := blkC4 BK466.out
      have q75 : (1 : Int) ≤ ((x467003_3.length : Int) : Int) := of_decide_eq_true dq19
      obtain ⟨i075, hi075, _, hsz75, _⟩ := info_parts info46
      have hcut75 := cut_to (P := Tryd.prog) 37 46 .i64 Tryd.underlying37 hi075 Ao69 x467003_3.length co69 1 dq37 q75 (Kd.R_reads' HO_467003.out).2.1
      have hr75 := Kd.R_take (m := (1 : Int).toNat) HO_467003.out dq37
      have hy75 : y484.length = (1 : Int).toNat := (by rw [Ny484.out, List.length_take]; omega)
      rw [← Ny484.out] at hr75
      rw [← hy75] at hr75 hcut75
      clear hy75 hi075 hsz75 HO_467003
      have HO486 := Aside0.mk hr75
      clear hr75
      replace q75 := eq_true q75
      go_wp2
      go_meet
      case rel => exact ⟨_, (y484), (.slice Ao69 y484.length co69), H', ⟨by have := HK1.out; have := HJ12.out; have := HK3.out; first | omega | exact Nat.le_refl _⟩, ⟨by (with_reducible repeat (first | apply Kd.S_alloc | apply Kd.S_drewN | apply Kd.S_drew)); exact Kd.S_mono (Kd.S_far (p := ⟨gb466, 3, none⟩) (Kd.S_mono HO_1.out (fun k_ hk => (⟨hk, hk.2⟩ : _ ∧ k_ ≠ gb466))) (fun _ hk => hk.2) (.slice Ao69 y484.length co69)) (fun _ hk => ⟨fun e_ => hk.1.1 (e_.trans (own_len _ _ _ _)), hk.1.2⟩)⟩, ⟨by (with_reducible repeat (first | apply Kd.R_alloc | apply Kd.R_drewN | apply Kd.R_drew)); exact Kd.R_mono (Kd.R_far (p := ⟨gb466, 3, none⟩) (Kd.R_types HO486.out BK466.out dq52) (fun _ hk => hk.2) (.slice Ao69 y484.length co69)) (fun _ hk => trivial)⟩, ⟨by refine blk_up ?_; refine blk_put (cs := #[.int .i64 a2, .string t464, .string (⟨#[]⟩ : ByteArray), .slice Ao69 x467003_3.length co69]) ?_ 3 _ rfl; refine blk_up ?_; exact BK466.out⟩, ⟨dq72⟩, ⟨dq70⟩, ⟨dq71⟩⟩
     clear HC66
     try clear c42b0
     try clear hcz68_0
     try clear hcz68_1
     try clear hcz68_2
     try clear hcz68_3
     try clear hfz68_0
     try clear hfz68_1
     try clear hfz68_2
     try clear hfz68_3
     obtain ⟨kq, x467003_65, u467003, HA, HJ65, HO_1, HO_467003, BK466, HI0, HK, HB⟩ := hcut
     cases kq with
     | zero => exact absurd HA.out (by simp [spec_l1Rd_grow.j3])
     | succ kj65 =>
      have H := HA.out
      clear HA
      simp only [spec_l1Rd_grow.j3] at H
      by_cases c76 : x1_1.length < 2199023255552
      rotate_left
      ·rw [if_neg c76] at H
       exact absurd H dq21
      rw [if_pos c76] at H
      have LMc76 := Aside0.mk c76
      clear c76
      obtain ⟨y487, hy487⟩ : ∃ y_ : List (S39), y_ = (x1_1 ++ [(⟨a2, t464, (⟨#[]⟩ : ByteArray), x467003_65⟩ : S39)]) := ⟨_, rfl⟩
      replace H : (if a3 > 0 then ((spec_l1Rd_once.f s0_0 x1001_3 2).bind fun bt490 => (if bt490.1 = true then ((spec_l1Rd_grow.f kj65 s0_0 bt490.2 y487 (x1_1.length : Int) (wrap64 (a3 - 1))).bind fun bt492 => (spec_l1Rd_grow.l0 kj65 bt492.1 a2 a3 (wrap64 (x9_1 - 1)) s0_0 bt492.2)) else (spec_l1Rd_grow.l0 kj65 y487 a2 a3 (wrap64 (x9_1 - 1)) s0_0 bt490.2))) else (spec_l1Rd_grow.l0 kj65 y487 a2 a3 (wrap64 (x9_1 - 1)) s0_0 x1001_3)) = some (r1, r2) := by first | (rw [hy487]; with_reducible exact H) | (have H2_ := (Option.bind_some _ _).symm.trans H; rw [hy487]; with_reducible exact H2_) | (have H2_ := (Option.bind_some _ _).symm.trans H; with_reducible exact H2_) | with_reducible exact H | (rw [hy487]; exact H) | exact H
      have Ny487 := Aside0.mk hy487
      clear hy487
      by_cases c77 : a3 > 0
      rotate_left
      ·rw [if_neg c77] at H
       have c77b0 : decide (0 < a3) = false := decide_eq_false c77
       clear c77
       have H' := Aside0.mk H
       clear H
       have hnb92 := NB466_0.out
       have hnc92 := NB0_466.out
       obtain ⟨⟨hcz93_0, hcz93_1, hcz93_2, hcz93_3⟩, hfz93_0, hfz93_1, hfz93_2, hfz93_3⟩ := blkC4 BK466.out
       obtain ⟨Ao95, co95, eo95⟩ := Kd.R_slice HO_467003.out
       subst eo95
       go_wp2_with (first | ((with_reducible refine gate_builtin (b := .append) (xs := #[.tmp 87, .tmp 89]) rfl ?_); at_builtin; refine Kd.S_append k39 w.heap.size rfl (.tmp 87) (.tmp 89) 26 39 (.agg #[(.int .i64 0), (.string ⟨#[]⟩), (.string ⟨#[]⟩), (.slice none 0 0)]) 64 rfl Tryd.underlying26 info39 rfl dq52 dq37 (.slice (some ad455) x1_1.length co14) x1_1 (⟨a2, t464, (⟨#[]⟩ : ByteArray), x467003_65⟩ : S39) [.int .i64 a2, .string t464, .string (⟨#[]⟩ : ByteArray), .slice Ao95 x467003_65.length co95] (fun k_ => k_ ≠ gb466) (fun k_ => some k_ = (.slice Ao95 x467003_65.length co95 : Value).ownBlock) rfl rfl ?aP (fun k_ hk_ => ((Kd.R_mono (ok' := fun k_ => ((fun k_ => k_ ≠ gb466)) k_ ∧ some k_ ≠ (.slice (some ad455) x1_1.length co14 : Value).ownBlock) (Kd.R_types (Kd.R_apart' (HO_467003.out) (Kd.S_typed HO_1.out) dq52) BK466.out dq52) (fun k_ hk => ⟨hk.2, hk.1.2⟩))).1 k_ hk_.symm) ?aF ?aO (Below.refl _ _) ?aS ?aL ?_; (case aP => exact k39_mkM _ _ _ (⟨a2, t464, (⟨#[]⟩ : ByteArray), x467003_65⟩ : S39) (Kd.R_mono (Kd.R_tight rfl (Kd.R_mono (ok' := fun k_ => ((fun k_ => k_ ≠ gb466)) k_ ∧ some k_ ≠ (.slice (some ad455) x1_1.length co14 : Value).ownBlock) (Kd.R_types (Kd.R_apart' (HO_467003.out) (Kd.S_typed HO_1.out) dq52) BK466.out dq52) (fun k_ hk => ⟨hk.2, hk.1.2⟩))) (fun _ h_ => h_))); (case aF => exact (fun k_ hk => Kd.freshB (g := gb466) (o := .cells #[.int .i64 a2, .string t464, .string (⟨#[]⟩ : ByteArray), .slice Ao95 x467003_65.length co95] 39 (0, 0)) dq73 k_ hk)); (case aO => exact dq78); (case aS => exact (keep_size (w := w) (g := g) (row := none) dq70)); (case aL => have := LMc76.out; omega); intro v488 w94 ho hb hg hat; rw [← Ny487.out] at ho; have n0_ := Aside0.mk (blk_grown (g := gb466) (o := .cells #[.int .i64 a2, .string t464, .string (⟨#[]⟩ : ByteArray), .slice Ao95 x467003_65.length co95] 39 (0, 0)) dq73 hg (Kd.S_away HO_1.out (fun _ hk => hk.2))); have n1_ := Aside0.mk (IsS99.grown dq72 hg (IsS99.own_neS HI0.out HO_1.out dq52)); have n2_ := Aside0.mk (below_weaken dq71 HL.out hb); have n3_ := Aside0.mk (KeepBut.trans dq70 (KeepBut.of_grown hg g) (Kd.S_base2 HO_1.out)); have n4_ := Aside0.mk (ho); clear BK466; clear HI0; clear HB; clear HK; clear HO_1; clear HO_467003; have BK466 := n0_; have HI0 := n1_; have HB := n2_; have HK := n3_; have HO489 := n4_; clear n0_ n1_ n2_ n3_ n4_; clear ho hb hg hat))
       go_roundg kj65
       case measure => have := HK1.out; have := HJ12.out; have := HK3.out; have := HJ65.out; omega
       case rel => exact ⟨(y487), (wrap64 (x9_1 - 1)), (x1001_3), dq18, H', ⟨dq77⟩, ⟨dq79⟩, ⟨dq72⟩, ⟨dq70⟩, ⟨dq71⟩⟩
      rw [if_pos c77] at H
      have c77b0 : decide (0 < a3) = true := decide_eq_true c77
      clear c77
      replace H := Option.bind_eq_some_iff.mp H
      obtain ⟨⟨t490, t491⟩, A780, H⟩ := H
      replace H : (if t490 = true then ((spec_l1Rd_grow.f kj65 s0_0 t491 y487 (x1_1.length : Int) (wrap64 (a3 - 1))).bind fun bt492 => (spec_l1Rd_grow.l0 kj65 bt492.1 a2 a3 (wrap64 (x9_1 - 1)) s0_0 bt492.2)) else (spec_l1Rd_grow.l0 kj65 y487 a2 a3 (wrap64 (x9_1 - 1)) s0_0 t491)) = some (r1, r2) := H
      have A78 := Aside0.mk A780
      clear A780
      by_cases c79 : t490 = true
      rotate_left
      ·replace c79 := Bool.eq_false_iff.mpr c79
       subst c79
       have H1 : (spec_l1Rd_grow.l0 kj65 y487 a2 a3 (wrap64 (x9_1 - 1)) s0_0 t491) = some (r1, r2) := by rw [if_neg (show ¬ (false = true) by decide)] at H; exact H
       clear H
       have H := H1
       clear H1
       have H' := Aside0.mk H
       clear H
       have hnb87 := NB466_0.out
       have hnc87 := NB0_466.out
       obtain ⟨⟨hcz88_0, hcz88_1, hcz88_2, hcz88_3⟩, hfz88_0, hfz88_1, hfz88_2, hfz88_3⟩ := blkC4 BK466.out
       obtain ⟨Ao90, co90, eo90⟩ := Kd.R_slice HO_467003.out
       subst eo90
       go_wp2_with (first | ((with_reducible refine gate_builtin (b := .append) (xs := #[.tmp 87, .tmp 89]) rfl ?_); at_builtin; refine Kd.S_append k39 w.heap.size rfl (.tmp 87) (.tmp 89) 26 39 (.agg #[(.int .i64 0), (.string ⟨#[]⟩), (.string ⟨#[]⟩), (.slice none 0 0)]) 64 rfl Tryd.underlying26 info39 rfl dq52 dq37 (.slice (some ad455) x1_1.length co14) x1_1 (⟨a2, t464, (⟨#[]⟩ : ByteArray), x467003_65⟩ : S39) [.int .i64 a2, .string t464, .string (⟨#[]⟩ : ByteArray), .slice Ao90 x467003_65.length co90] (fun k_ => k_ ≠ gb466) (fun k_ => some k_ = (.slice Ao90 x467003_65.length co90 : Value).ownBlock) rfl rfl ?aP (fun k_ hk_ => ((Kd.R_mono (ok' := fun k_ => ((fun k_ => k_ ≠ gb466)) k_ ∧ some k_ ≠ (.slice (some ad455) x1_1.length co14 : Value).ownBlock) (Kd.R_types (Kd.R_apart' (HO_467003.out) (Kd.S_typed HO_1.out) dq52) BK466.out dq52) (fun k_ hk => ⟨hk.2, hk.1.2⟩))).1 k_ hk_.symm) ?aF ?aO (Below.refl _ _) ?aS ?aL ?_; (case aP => exact k39_mkM _ _ _ (⟨a2, t464, (⟨#[]⟩ : ByteArray), x467003_65⟩ : S39) (Kd.R_mono (Kd.R_tight rfl (Kd.R_mono (ok' := fun k_ => ((fun k_ => k_ ≠ gb466)) k_ ∧ some k_ ≠ (.slice (some ad455) x1_1.length co14 : Value).ownBlock) (Kd.R_types (Kd.R_apart' (HO_467003.out) (Kd.S_typed HO_1.out) dq52) BK466.out dq52) (fun k_ hk => ⟨hk.2, hk.1.2⟩))) (fun _ h_ => h_))); (case aF => exact (fun k_ hk => Kd.freshB (g := gb466) (o := .cells #[.int .i64 a2, .string t464, .string (⟨#[]⟩ : ByteArray), .slice Ao90 x467003_65.length co90] 39 (0, 0)) dq73 k_ hk)); (case aO => exact dq78); (case aS => exact (keep_size (w := w) (g := g) (row := none) dq70)); (case aL => have := LMc76.out; omega); intro v488 w89 ho hb hg hat; rw [← Ny487.out] at ho; have n0_ := Aside0.mk (blk_grown (g := gb466) (o := .cells #[.int .i64 a2, .string t464, .string (⟨#[]⟩ : ByteArray), .slice Ao90 x467003_65.length co90] 39 (0, 0)) dq73 hg (Kd.S_away HO_1.out (fun _ hk => hk.2))); have n1_ := Aside0.mk (IsS99.grown dq72 hg (IsS99.own_neS HI0.out HO_1.out dq52)); have n2_ := Aside0.mk (below_weaken dq71 HL.out hb); have n3_ := Aside0.mk (KeepBut.trans dq70 (KeepBut.of_grown hg g) (Kd.S_base2 HO_1.out)); have n4_ := Aside0.mk (ho); clear BK466; clear HI0; clear HB; clear HK; clear HO_1; clear HO_467003; have BK466 := n0_; have HI0 := n1_; have HB := n2_; have HK := n3_; have HO489 := n4_; clear n0_ n1_ n2_ n3_ n4_; clear ho hb hg hat) | (go_at_call 52; (with_reducible refine (spec_l1Rd_once.calls g s0_0 x1001_3 2 false t491 w0 _ ?side1 ?side2 A78.out).mono ?_); (case side1 => exact dq11); (case side2 => exact dq12); rintro e w91 ⟨rfl, hi, hb, hk⟩; have n0_ := Aside0.mk (KeepBut.blk hk (g' := gb466) (o := .cells #[.int .i64 a2, .string t464, .string (⟨#[]⟩ : ByteArray), .slice Ao90 x467003_65.length co90] 39 (0, 0)) dq73 NB466_0.out dq21); have n1_ := Aside0.mk (Kd.S_mono (Kd.S_keep (IsS99.apartS (show IsS99 w0 _ g s0_0 x1001_3 from by repeat (first | (with_reducible first | exact HI0.out | apply IsS99.alloc | apply IsS99.drewN | apply IsS99.drew | apply IsS99.set_1 | refine IsS99.far ?_ NB0_466.out _) | exact HI0.out)) (by (with_reducible repeat (first | apply Kd.S_alloc | apply Kd.S_drewN | apply Kd.S_drew)); exact HO489.out) dq52) hk (fun _ h => h.2)) (fun _ h => h.1)); have n2_ := Aside0.mk (KeepBut.trans dq70 hk (.inl rfl)); have n3_ := Aside0.mk (hb); have n4_ := Aside0.mk (hi); clear BK466; clear HO489; clear HK; clear HB; clear HI0; have BK466 := n0_; have HO489 := n1_; have HK := n2_; have HB := n3_; have HI0 := n4_; clear n0_ n1_ n2_ n3_ n4_; (try clear hb); (try clear hb2); (try clear hk); (try clear hi)))
       go_roundg kj65
       case measure => have := HK1.out; have := HJ12.out; have := HK3.out; have := HJ65.out; omega
       case rel => exact ⟨(y487), (wrap64 (x9_1 - 1)), (t491), dq18, H', ⟨dq77⟩, ⟨dq79⟩, ⟨dq72⟩, ⟨dq70⟩, ⟨dq71⟩⟩
      subst c79
      have H1 : ((spec_l1Rd_grow.f kj65 s0_0 t491 y487 (x1_1.length : Int) (wrap64 (a3 - 1))).bind fun bt492 => (spec_l1Rd_grow.l0 kj65 bt492.1 a2 a3 (wrap64 (x9_1 - 1)) s0_0 bt492.2)) = some (r1, r2) := by rw [if_pos rfl] at H; exact H
      clear H
      have H := H1
      clear H1
      replace H := Option.bind_eq_some_iff.mp H
      obtain ⟨⟨t492, t495⟩, A800, H⟩ := H
      replace H : (spec_l1Rd_grow.l0 kj65 t492 a2 a3 (wrap64 (x9_1 - 1)) s0_0 t495) = some (r1, r2) := H
      have A80 := Aside0.mk A800
      clear A800
      have H' := Aside0.mk H
      clear H
      have hnb81 := NB466_0.out
      have hnc81 := NB0_466.out
      obtain ⟨⟨hcz82_0, hcz82_1, hcz82_2, hcz82_3⟩, hfz82_0, hfz82_1, hfz82_2, hfz82_3⟩ := blkC4 BK466.out
      obtain ⟨Ao84, co84, eo84⟩ := Kd.R_slice HO_467003.out
      subst eo84
      go_wp2_with (first | ((with_reducible refine gate_builtin (b := .append) (xs := #[.tmp 87, .tmp 89]) rfl ?_); at_builtin; refine Kd.S_append k39 w.heap.size rfl (.tmp 87) (.tmp 89) 26 39 (.agg #[(.int .i64 0), (.string ⟨#[]⟩), (.string ⟨#[]⟩), (.slice none 0 0)]) 64 rfl Tryd.underlying26 info39 rfl dq52 dq37 (.slice (some ad455) x1_1.length co14) x1_1 (⟨a2, t464, (⟨#[]⟩ : ByteArray), x467003_65⟩ : S39) [.int .i64 a2, .string t464, .string (⟨#[]⟩ : ByteArray), .slice Ao84 x467003_65.length co84] (fun k_ => k_ ≠ gb466) (fun k_ => some k_ = (.slice Ao84 x467003_65.length co84 : Value).ownBlock) rfl rfl ?aP (fun k_ hk_ => ((Kd.R_mono (ok' := fun k_ => ((fun k_ => k_ ≠ gb466)) k_ ∧ some k_ ≠ (.slice (some ad455) x1_1.length co14 : Value).ownBlock) (Kd.R_types (Kd.R_apart' (HO_467003.out) (Kd.S_typed HO_1.out) dq52) BK466.out dq52) (fun k_ hk => ⟨hk.2, hk.1.2⟩))).1 k_ hk_.symm) ?aF ?aO (Below.refl _ _) ?aS ?aL ?_; (case aP => exact k39_mkM _ _ _ (⟨a2, t464, (⟨#[]⟩ : ByteArray), x467003_65⟩ : S39) (Kd.R_mono (Kd.R_tight rfl (Kd.R_mono (ok' := fun k_ => ((fun k_ => k_ ≠ gb466)) k_ ∧ some k_ ≠ (.slice (some ad455) x1_1.length co14 : Value).ownBlock) (Kd.R_types (Kd.R_apart' (HO_467003.out) (Kd.S_typed HO_1.out) dq52) BK466.out dq52) (fun k_ hk => ⟨hk.2, hk.1.2⟩))) (fun _ h_ => h_))); (case aF => exact (fun k_ hk => Kd.freshB (g := gb466) (o := .cells #[.int .i64 a2, .string t464, .string (⟨#[]⟩ : ByteArray), .slice Ao84 x467003_65.length co84] 39 (0, 0)) dq73 k_ hk)); (case aO => exact dq78); (case aS => exact (keep_size (w := w) (g := g) (row := none) dq70)); (case aL => have := LMc76.out; omega); intro v488 w83 ho hb hg hat; rw [← Ny487.out] at ho; have n0_ := Aside0.mk (blk_grown (g := gb466) (o := .cells #[.int .i64 a2, .string t464, .string (⟨#[]⟩ : ByteArray), .slice Ao84 x467003_65.length co84] 39 (0, 0)) dq73 hg (Kd.S_away HO_1.out (fun _ hk => hk.2))); have n1_ := Aside0.mk (IsS99.grown dq72 hg (IsS99.own_neS HI0.out HO_1.out dq52)); have n2_ := Aside0.mk (below_weaken dq71 HL.out hb); have n3_ := Aside0.mk (KeepBut.trans dq70 (KeepBut.of_grown hg g) (Kd.S_base2 HO_1.out)); have n4_ := Aside0.mk (ho); clear BK466; clear HI0; clear HB; clear HK; clear HO_1; clear HO_467003; have BK466 := n0_; have HI0 := n1_; have HB := n2_; have HK := n3_; have HO489 := n4_; clear n0_ n1_ n2_ n3_ n4_; clear ho hb hg hat) | (go_at_call 52; (with_reducible refine (spec_l1Rd_once.calls g s0_0 x1001_3 2 true t491 w0 _ ?side1 ?side2 A78.out).mono ?_); (case side1 => exact dq11); (case side2 => exact dq12); rintro e w85 ⟨rfl, hi, hb, hk⟩; have n0_ := Aside0.mk (KeepBut.blk hk (g' := gb466) (o := .cells #[.int .i64 a2, .string t464, .string (⟨#[]⟩ : ByteArray), .slice Ao84 x467003_65.length co84] 39 (0, 0)) dq73 NB466_0.out dq21); have n1_ := Aside0.mk (Kd.S_mono (Kd.S_keep (IsS99.apartS (show IsS99 w0 _ g s0_0 x1001_3 from by repeat (first | (with_reducible first | exact HI0.out | apply IsS99.alloc | apply IsS99.drewN | apply IsS99.drew | apply IsS99.set_1 | refine IsS99.far ?_ NB0_466.out _) | exact HI0.out)) (by (with_reducible repeat (first | apply Kd.S_alloc | apply Kd.S_drewN | apply Kd.S_drew)); exact HO489.out) dq52) hk (fun _ h => h.2)) (fun _ h => h.1)); have n2_ := Aside0.mk (KeepBut.trans dq70 hk (.inl rfl)); have n3_ := Aside0.mk (hb); have n4_ := Aside0.mk (hi); clear BK466; clear HO489; clear HK; clear HB; clear HI0; have BK466 := n0_; have HO489 := n1_; have HK := n2_; have HB := n3_; have HI0 := n4_; clear n0_ n1_ n2_ n3_ n4_; (try clear hb); (try clear hb2); (try clear hk); (try clear hi)) | ((with_reducible refine gate_callee (f := 86) rfl ?_); refine goesL_ (some 102) rfl rfl Tryd.func86 dq23 rfl #[.pointer (some ⟨g, 0, none⟩), v488, .int .i64 (x1_1.length : Int), .int .i64 (wrap64 (a3 - 1))] rfl dq22 ?_; (with_reducible refine (ih kj65 dq77 g s0_0 t491 v488 (fun _ => True) y487 (x1_1.length : Int) (wrap64 (a3 - 1)) t492 t495 w0 w _ ?side1 ?side2 HL.out ?side4 ?side5 A80.out).mono ?_); (case side1 => exact dq11); (case side2 => exact dq12); (case side4 => exact dq70); (case side5 => exact (by (with_reducible repeat (first | apply Kd.S_alloc | apply Kd.S_drewN | apply Kd.S_drew)); exact Kd.S_mono HO489.out (fun _ _ => trivial))); rintro e w86 ⟨v493, rfl, ho0, hi, hb, hk⟩; refine ⟨_, rfl, ?_⟩; have n0_ := Aside0.mk ho0; have n1_ := Aside0.mk hk; have n2_ := Aside0.mk hb; have n3_ := Aside0.mk hi; clear BK466; clear HO489; clear HK; clear HB; clear HI0; have HO494 := n0_; have HK := n1_; have HB := n2_; have HI0 := n3_; clear n0_ n1_ n2_ n3_; (try clear hb); (try clear hb2); (try clear hk); (try clear hi); (try clear ho0)))
      go_roundg kj65
      case measure => have := HK1.out; have := HJ12.out; have := HK3.out; have := HJ65.out; omega
      case rel => exact ⟨(t492), (wrap64 (x9_1 - 1)), (t495), dq18, H', ⟨dq77⟩, ⟨by (with_reducible repeat (first | apply Kd.S_alloc | apply Kd.S_drewN | apply Kd.S_drew)); exact Kd.S_mono HO494.out (fun _ hk => trivial)⟩, ⟨dq72⟩, ⟨dq70⟩, ⟨dq71⟩⟩
    rw [if_pos c42] at H
    have c42b0 : decide (0 < x13_3) = true := decide_eq_true c42
    clear c42
    replace H := Option.bind_eq_some_iff.mp H
    obtain ⟨⟨t469, t470⟩, A430, H⟩ := H
    replace H : ((spec_l1Rd_once.f s0_0 t470 4).bind fun bt471 => (if bt471.1 = true then (if 2 + t469.size ≤ 9223372036854775807 then ((spec_l1Rd_text.f s0_0 bt471.2).bind fun bt473 => (if x467003_3.length < 4398046511104 then (spec_l1Rd_grow.l1 k3 x1_1 a2 a3 x9_1 (wrap64 (x13_3 - 1)) s0_0 bt473.2 a2 t464 (⟨#[]⟩ : ByteArray) (x467003_3 ++ [(⟨(⟨#[112, 58]⟩ : ByteArray) ++ t469, bt473.1⟩ : S46)])) else (none))) else (none)) else ((spec_l1Rd_text.f s0_0 bt471.2).bind fun bt478 => (if x467003_3.length < 4398046511104 then (spec_l1Rd_grow.l1 k3 x1_1 a2 a3 x9_1 (wrap64 (x13_3 - 1)) s0_0 bt478.2 a2 t464 (⟨#[]⟩ : ByteArray) (x467003_3 ++ [(⟨t469, bt478.1⟩ : S46)])) else (none))))) = some (r1, r2) := H
    have A43 := Aside0.mk A430
    clear A430
    replace H := Option.bind_eq_some_iff.mp H
    obtain ⟨⟨t471, t472⟩, A440, H⟩ := H
    replace H : (if t471 = true then (if 2 + t469.size ≤ 9223372036854775807 then ((spec_l1Rd_text.f s0_0 t472).bind fun bt473 => (if x467003_3.length < 4398046511104 then (spec_l1Rd_grow.l1 k3 x1_1 a2 a3 x9_1 (wrap64 (x13_3 - 1)) s0_0 bt473.2 a2 t464 (⟨#[]⟩ : ByteArray) (x467003_3 ++ [(⟨(⟨#[112, 58]⟩ : ByteArray) ++ t469, bt473.1⟩ : S46)])) else (none))) else (none)) else ((spec_l1Rd_text.f s0_0 t472).bind fun bt478 => (if x467003_3.length < 4398046511104 then (spec_l1Rd_grow.l1 k3 x1_1 a2 a3 x9_1 (wrap64 (x13_3 - 1)) s0_0 bt478.2 a2 t464 (⟨#[]⟩ : ByteArray) (x467003_3 ++ [(⟨t469, bt478.1⟩ : S46)])) else (none)))) = some (r1, r2) := H
    have A44 := Aside0.mk A440
    clear A440
    by_cases c45 : t471 = true
    rotate_left
    ·replace c45 := Bool.eq_false_iff.mpr c45
     subst c45
     have H1 : ((spec_l1Rd_text.f s0_0 t472).bind fun bt478 => (if x467003_3.length < 4398046511104 then (spec_l1Rd_grow.l1 k3 x1_1 a2 a3 x9_1 (wrap64 (x13_3 - 1)) s0_0 bt478.2 a2 t464 (⟨#[]⟩ : ByteArray) (x467003_3 ++ [(⟨t469, bt478.1⟩ : S46)])) else (none))) = some (r1, r2) := by rw [if_neg (show ¬ (false = true) by decide)] at H; exact H
     clear H
     have H := H1
     clear H1
     replace H := Option.bind_eq_some_iff.mp H
     obtain ⟨⟨t478, t479⟩, A560, H⟩ := H
     replace H : (if x467003_3.length < 4398046511104 then (spec_l1Rd_grow.l1 k3 x1_1 a2 a3 x9_1 (wrap64 (x13_3 - 1)) s0_0 t479 a2 t464 (⟨#[]⟩ : ByteArray) (x467003_3 ++ [(⟨t469, t478⟩ : S46)])) else (none)) = some (r1, r2) := H
     have A56 := Aside0.mk A560
     clear A560
     by_cases c57 : x467003_3.length < 4398046511104
     rotate_left
     ·rw [if_neg c57] at H
      exact absurd H dq21
     rw [if_pos c57] at H
     have LMc57 := Aside0.mk c57
     clear c57
     obtain ⟨y480, hy480⟩ : ∃ y_ : List (S46), y_ = (x467003_3 ++ [(⟨t469, t478⟩ : S46)]) := ⟨_, rfl⟩
     replace H : (spec_l1Rd_grow.l1 k3 x1_1 a2 a3 x9_1 (wrap64 (x13_3 - 1)) s0_0 t479 a2 t464 (⟨#[]⟩ : ByteArray) y480) = some (r1, r2) := by first | (rw [hy480]; with_reducible exact H) | (have H2_ := (Option.bind_some _ _).symm.trans H; rw [hy480]; with_reducible exact H2_) | (have H2_ := (Option.bind_some _ _).symm.trans H; with_reducible exact H2_) | with_reducible exact H | (rw [hy480]; exact H) | exact H
     have Ny480 := Aside0.mk hy480
     clear hy480
     have H' := Aside0.mk H
     clear H
     try go_wp2_with (first | ((with_reducible refine gate_callee (f := 87) rfl ?_); refine goesL_ (some 63) rfl rfl Tryd.func87 dq23 rfl #[.pointer (some ⟨g, 0, none⟩)] rfl dq22 ?_; (with_reducible refine (spec_l1Rd_name.calls g s0_0 x1001_3 t469 t470 w0 _ ?side1 ?side2 A43.out).mono ?_); (case side1 => exact dq11); (case side2 => exact dq12); rintro e w58 ⟨rfl, hi, hb, hk⟩; refine ⟨_, rfl, ?_⟩; have n0_ := Aside0.mk (Kd.S_mono (Kd.S_keep (IsS99.apartS (show IsS99 w0 _ g s0_0 x1001_3 from by repeat (first | (with_reducible first | exact HI0.out | apply IsS99.alloc | apply IsS99.drewN | apply IsS99.drew | apply IsS99.set_1 | refine IsS99.far ?_ NB0_466.out _) | exact HI0.out)) dq62 dq52) hk (fun _ h => h.2)) (fun _ h => h.1)); have n1_ := Aside0.mk (Kd.R_mono (Kd.R_keep (IsS99.apart (show IsS99 w0 _ g s0_0 x1001_3 from by repeat (first | (with_reducible first | exact HI0.out | apply IsS99.alloc | apply IsS99.drewN | apply IsS99.drew | apply IsS99.set_1 | refine IsS99.far ?_ NB0_466.out _) | exact HI0.out)) dq74 dq52) hk (fun _ h => h.2)) (fun _ h => h.1)); have n2_ := Aside0.mk (KeepBut.blk hk (g' := gb466) (o := .cells #[.int .i64 a2, .string t464, .string (⟨#[]⟩ : ByteArray), u467003] 39 (0, 0)) dq73 NB466_0.out dq21); have n3_ := Aside0.mk (KeepBut.trans dq70 hk (.inl rfl)); have n4_ := Aside0.mk (hb); have n5_ := Aside0.mk (hi); clear HO_1; clear HO_467003; clear BK466; clear HK; clear HB; clear HI0; have HO_1 := n0_; have HO_467003 := n1_; have BK466 := n2_; have HK := n3_; have HB := n4_; have HI0 := n5_; clear n0_ n1_ n2_ n3_ n4_ n5_; (try clear hb); (try clear hb2); (try clear hk); (try clear hi)) | ((with_reducible refine gate_callee (f := 52) rfl ?_); refine goesL_ (some 65) rfl rfl Tryd.func52 dq23 rfl #[.pointer (some ⟨g, 0, none⟩), .int .i64 4] rfl dq22 ?_; (with_reducible refine (spec_l1Rd_once.calls g s0_0 t470 4 false t472 w0 _ ?side1 ?side2 A44.out).mono ?_); (case side1 => exact dq11); (case side2 => exact dq12); rintro e w59 ⟨rfl, hi, hb, hk⟩; refine ⟨_, rfl, ?_⟩; have n0_ := Aside0.mk (Kd.S_mono (Kd.S_keep (IsS99.apartS (show IsS99 w0 _ g s0_0 t470 from by repeat (first | (with_reducible first | exact HI0.out | apply IsS99.alloc | apply IsS99.drewN | apply IsS99.drew | apply IsS99.set_1 | refine IsS99.far ?_ NB0_466.out _) | exact HI0.out)) dq62 dq52) hk (fun _ h => h.2)) (fun _ h => h.1)); have n1_ := Aside0.mk (Kd.R_mono (Kd.R_keep (IsS99.apart (show IsS99 w0 _ g s0_0 t470 from by repeat (first | (with_reducible first | exact HI0.out | apply IsS99.alloc | apply IsS99.drewN | apply IsS99.drew | apply IsS99.set_1 | refine IsS99.far ?_ NB0_466.out _) | exact HI0.out)) dq74 dq52) hk (fun _ h => h.2)) (fun _ h => h.1)); have n2_ := Aside0.mk (KeepBut.blk hk (g' := gb466) (o := .cells #[.int .i64 a2, .string t464, .string (⟨#[]⟩ : ByteArray), u467003] 39 (0, 0)) dq73 NB466_0.out dq21); have n3_ := Aside0.mk (KeepBut.trans dq70 hk (.inl rfl)); have n4_ := Aside0.mk (hb); have n5_ := Aside0.mk (hi); clear HO_1; clear HO_467003; clear BK466; clear HK; clear HB; clear HI0; have HO_1 := n0_; have HO_467003 := n1_; have BK466 := n2_; have HK := n3_; have HB := n4_; have HI0 := n5_; clear n0_ n1_ n2_ n3_ n4_ n5_; (try clear hb); (try clear hb2); (try clear hk); (try clear hi)))
     have n0_ := Aside0.mk (Kd.S_drew HO_1.out)
     have n1_ := Aside0.mk (Kd.R_drew HO_467003.out)
     have n2_ := Aside0.mk (blk_drew BK466.out)
     have n3_ := Aside0.mk (IsS99.drew HI0.out)
     have n4_ := Aside0.mk (keep_drew HK.out)
     have n5_ := Aside0.mk (below_drew1 HB.out)
     clear HO_1
     clear HO_467003
     clear BK466
     clear HI0
     clear HK
     clear HB
     have HO_1 := n0_
     have HO_467003 := n1_
     have BK466 := n2_
     have HI0 := n3_
     have HK := n4_
     have HB := n5_
     clear n0_ n1_ n2_ n3_ n4_ n5_
     refine start_ (n := 10) (S := fun w' => w'.cell? ⟨gb466, 0, none⟩ = some (.int .i64 a2) ∧ w'.cell? ⟨gb466, 1, none⟩ = some (.string t464) ∧ w'.cell? ⟨gb466, 2, none⟩ = some (.string (⟨#[]⟩ : ByteArray)) ∧ w'.cell? ⟨gb466, 3, none⟩ = some (u467003)) (ds := [9]) #[false, false, false, false, false, false, false, false, false, false] dq23 rfl rfl ⟨(blk_cell BK466.out 0).trans rfl, (blk_cell BK466.out 1).trans rfl, (blk_cell BK466.out 2).trans rfl, (blk_cell BK466.out 3).trans rfl⟩ (fun hHeld => ?_); refine with_tabW spec_l1Rd_grow.tab16 spec_l1Rd_grow.bits16 (fun HT_ HW_ => ?_)
     generalize w59.drew = w60 at HO_1 HO_467003 BK466 HI0 HK HB hHeld ⊢
     refine pureA (i := 0) (N := some 68) #[true, false, false, false, false, false, false, false, false, false] ?_
     refine pureA (i := 2) (N := some 70) #[true, false, true, false, false, false, false, false, false, false] ?_
     refine pureA (i := 3) (N := some 71) #[true, false, true, true, false, false, false, false, false, false] ?_
     refine takeA4 (i := 1) (N := some 69) #[true, true, true, true, false, false, false, false, false, false] ?_
     refine one_ (i := 4) (N := some 72) #[true, true, true, true, true, false, false, false, false, false] rfl rfl (one_of HT_.out dq23) dq52 (fun K hK => ?_)
     refine goes_ Tryd.func88 dq23 rfl #[.pointer (some ⟨g, 0, none⟩)] (by rfl) rfl rfl dq22 ?_
     with_reducible refine (spec_l1Rd_text.calls g s0_0 t472 t478 t479 w0 _ ?side1 ?side2 A56.out).mono ?_
     (case side1 => exact dq11)
     (case side2 => exact dq12)
     rintro e w61 ⟨rfl, hi, hb, hk⟩
     refine ⟨_, rfl, ?_⟩
     have n0_ := Aside0.mk (Kd.S_mono (Kd.S_keep (IsS99.apartS (show IsS99 w0 _ g s0_0 t472 from by repeat (first | (with_reducible first | exact HI0.out | apply IsS99.alloc | apply IsS99.drewN | apply IsS99.drew | apply IsS99.set_1 | refine IsS99.far ?_ NB0_466.out _) | exact HI0.out)) dq62 dq52) hk (fun _ h => h.2)) (fun _ h => h.1))
     have n1_ := Aside0.mk (Kd.R_mono (Kd.R_keep (IsS99.apart (show IsS99 w0 _ g s0_0 t472 from by repeat (first | (with_reducible first | exact HI0.out | apply IsS99.alloc | apply IsS99.drewN | apply IsS99.drew | apply IsS99.set_1 | refine IsS99.far ?_ NB0_466.out _) | exact HI0.out)) dq74 dq52) hk (fun _ h => h.2)) (fun _ h => h.1))
     have n2_ := Aside0.mk (KeepBut.blk hk (g' := gb466) (o := .cells #[.int .i64 a2, .string t464, .string (⟨#[]⟩ : ByteArray), u467003] 39 (0, 0)) dq73 NB466_0.out dq21)
     have n3_ := Aside0.mk (KeepBut.trans dq70 hk (.inl rfl))
     have n4_ := Aside0.mk (hb)
     have n5_ := Aside0.mk (hi)
     clear HO_1
     clear HO_467003
     clear BK466
     clear HK
     clear HB
     clear HI0
     have HO_1 := n0_
     have HO_467003 := n1_
     have BK466 := n2_
     have HK := n3_
     have HB := n4_
     have HI0 := n5_
     clear n0_ n1_ n2_ n3_ n4_ n5_
     (try clear hb)
     (try clear hb2)
     (try clear hk)
     (try clear hi)
     refine hK.out _ _ ⟨(blk_cell BK466.out 0).trans rfl, (blk_cell BK466.out 1).trans rfl, (blk_cell BK466.out 2).trans rfl, (blk_cell BK466.out 3).trans rfl⟩ (fun hHeld => ?_)
     clear hK K
     refine norm_ (a' := ?_) ?_ ?_
     rotate_left
     ·show Act.put _ (some 72) _ = _
      simp only [Act.put, List.setIfInBounds_toArray, List.set_cons_zero, List.set_cons_succ, i64_w, i32_w]
      rfl
     refine pureA (i := 5) (N := some 73) #[true, true, true, true, true, true, false, false, false, false] ?_
     refine one_ (i := 6) (N := some 74) #[true, true, true, true, true, true, true, false, false, false] rfl rfl (one_of HT_.out dq23) dq52 (fun K hK => ?_)
     refine value_ (w1 := ?_) (v := ?_) (by rfl) rfl ?_ ?_
     rotate_left 2
     ·go_simp
      constructor
      ·rfl
      rfl
     refine hK.out _ _ ⟨(blk_cell (blk_alloc BK466.out _) 0).trans rfl, (blk_cell (blk_alloc BK466.out _) 1).trans rfl, (blk_cell (blk_alloc BK466.out _) 2).trans rfl, (blk_cell (blk_alloc BK466.out _) 3).trans rfl⟩ (fun hHeld => ?_)
     clear hK K
     refine norm_ (a' := ?_) ?_ ?_
     rotate_left
     ·show Act.put _ (some 74) _ = _
      simp only [Act.put, List.setIfInBounds_toArray, List.set_cons_zero, List.set_cons_succ, i64_w, i32_w]
      rfl
     refine one_ (i := 7) (N := some 75) #[true, true, true, true, true, true, true, true, false, false] rfl rfl (one_of HT_.out dq23) dq52 (fun K hK => ?_)
     refine Kd.R_append_step k46 w.heap.size (by rfl) (.tmp 69) (.tmp 74) 37 46 (.agg #[(.string ⟨#[]⟩), (.string ⟨#[]⟩)]) 32 rfl Tryd.underlying37 info46 rfl dq52 dq37 u467003 x467003_3 (⟨t469, t478⟩ : S46) [.string t469, .string t478] (fun _ => True) (fun _ => False) rfl rfl ?aP (fun _ hk => hk.elim) ?aF ?aO (Below.refl _ _) ?aS ?aL ?_
     (case aP => exact k46_mkM _ _ _ (⟨t469, t478⟩ : S46))
     (case aF => exact (fun _ _ => trivial))
     (case aO => exact dq74)
     (case aS => exact (keep_size (w := w) (g := g) (row := none) dq70))
     (case aL => have := LMc57.out; omega)
     intro v481 w62 ho hb hg hat
     rw [← Ny480.out] at ho
     have n0_ := Aside0.mk (Kd.S_after (ok := (fun k_ => k_ ≠ gb466)) dq75 hg hat)
     have n1_ := Aside0.mk (blk_grown (g := gb466) (o := .cells #[.int .i64 a2, .string t464, .string (⟨#[]⟩ : ByteArray), u467003] 39 (0, 0)) dq73 hg (Kd.R_ne HO_467003.out BK466.out dq52))
     have n2_ := Aside0.mk (IsS99.grown dq72 hg (IsS99.own_ne HI0.out HO_467003.out dq52))
     have n3_ := Aside0.mk (below_weaken dq71 HL.out hb)
     have n4_ := Aside0.mk (KeepBut.trans dq70 (KeepBut.of_grown hg g) (Kd.R_base2 HO_467003.out))
     have n5_ := Aside0.mk (ho)
     clear HO_1
     clear BK466
     clear HI0
     clear HB
     clear HK
     clear HO_467003
     have HO_1 := n0_
     have BK466 := n1_
     have HI0 := n2_
     have HB := n3_
     have HK := n4_
     have HO482 := n5_
     clear n0_ n1_ n2_ n3_ n4_ n5_
     clear ho hb hg hat
     obtain ⟨Ao63, co63, eo63⟩ := Kd.R_slice HO482.out
     (first | subst eo63 | (injection eo63 with f1_ f2_ f3_; have f4_ := f1_.symm; have f5_ := f3_.symm; clear f1_ f2_ f3_; subst f4_; subst f5_))
     refine hK.out _ _ ⟨(blk_cell BK466.out 0).trans rfl, (blk_cell BK466.out 1).trans rfl, (blk_cell BK466.out 2).trans rfl, (blk_cell BK466.out 3).trans rfl⟩ (fun hHeld => ?_)
     clear hK K
     refine norm_ (a' := ?_) ?_ ?_
     rotate_left
     ·show Act.put _ (some 75) _ = _
      simp only [Act.put, List.setIfInBounds_toArray, List.set_cons_zero, List.set_cons_succ, i64_w, i32_w]
      rfl
     refine pureA (i := 8) (N := some 76) #[true, true, true, true, true, true, true, true, true, false] ?_
     refine last_ (i := 9) (N := none) #[true, true, true, true, true, true, true, true, true, true] rfl rfl (one_of HT_.out dq23) dq52 (fun K hK => ?_)
     have hs64 : w62.cell? ⟨gb466, 3, none⟩ = some (u467003) := (blk_cell BK466.out 3).trans rfl
     have hfs64 := blk_frozen BK466.out 3
     refine skip_ (w1 := ?_) (by rfl) rfl ?_ ?_
     rotate_left
     ·go_simp
      rfl
     refine hK.out _ _ ?_
     clear hK K
     refine done_ (done_of HT_.out dq23) ?_
     try go_wp2
     go_roundg k3
     case measure => have := HK1.out; have := HJ12.out; have := HK3.out; omega
     case rel => exact ⟨(wrap64 (x13_3 - 1)), (t479), (y480), (.slice Ao63 y480.length co63), dq18, H', ⟨by have := HK1.out; have := HJ12.out; have := HK3.out; omega⟩, ⟨by (with_reducible repeat (first | apply Kd.S_alloc | apply Kd.S_drewN | apply Kd.S_drew)); exact Kd.S_mono (Kd.S_far (p := ⟨gb466, 3, none⟩) (Kd.S_mono HO_1.out (fun k_ hk => (⟨hk, hk.1⟩ : _ ∧ k_ ≠ gb466))) (fun _ hk => hk.2) (.slice Ao63 y480.length co63)) (fun _ hk => ⟨hk.1.2, hk.1.1⟩)⟩, ⟨by (with_reducible repeat (first | apply Kd.R_alloc | apply Kd.R_drewN | apply Kd.R_drew)); exact Kd.R_mono (Kd.R_far (p := ⟨gb466, 3, none⟩) (Kd.R_types HO482.out BK466.out dq52) (fun _ hk => hk.2) (.slice Ao63 y480.length co63)) (fun _ hk => trivial)⟩, ⟨dq76⟩, ⟨dq72⟩, ⟨dq70⟩, ⟨dq71⟩⟩
    subst c45
    have H1 : (if 2 + t469.size ≤ 9223372036854775807 then ((spec_l1Rd_text.f s0_0 t472).bind fun bt473 => (if x467003_3.length < 4398046511104 then (spec_l1Rd_grow.l1 k3 x1_1 a2 a3 x9_1 (wrap64 (x13_3 - 1)) s0_0 bt473.2 a2 t464 (⟨#[]⟩ : ByteArray) (x467003_3 ++ [(⟨(⟨#[112, 58]⟩ : ByteArray) ++ t469, bt473.1⟩ : S46)])) else (none))) else (none)) = some (r1, r2) := by rw [if_pos rfl] at H; exact H
    clear H
    have H := H1
    clear H1
    by_cases c46 : 2 + t469.size ≤ 9223372036854775807
    rotate_left
    ·rw [if_neg c46] at H
     exact absurd H dq21
    rw [if_pos c46] at H
    have c46b0 := eq_true c46
    have c46b1 := decide_eq_true c46
    try have c46b2 : (9223372036854775807 < 2 + t469.size) = False := eq_false (Nat.not_lt.2 c46)
    replace H := Option.bind_eq_some_iff.mp H
    obtain ⟨⟨t473, t474⟩, A470, H⟩ := H
    replace H : (if x467003_3.length < 4398046511104 then (spec_l1Rd_grow.l1 k3 x1_1 a2 a3 x9_1 (wrap64 (x13_3 - 1)) s0_0 t474 a2 t464 (⟨#[]⟩ : ByteArray) (x467003_3 ++ [(⟨(⟨#[112, 58]⟩ : ByteArray) ++ t469, t473⟩ : S46)])) else (none)) = some (r1, r2) := H
    have A47 := Aside0.mk A470
    clear A470
    by_cases c48 : x467003_3.length < 4398046511104
    rotate_left
    ·rw [if_neg c48] at H
     exact absurd H dq21
    rw [if_pos c48] at H
    have LMc48 := Aside0.mk c48
    clear c48
    obtain ⟨y475, hy475⟩ : ∃ y_ : List (S46), y_ = (x467003_3 ++ [(⟨(⟨#[112, 58]⟩ : ByteArray) ++ t469, t473⟩ : S46)]) := ⟨_, rfl⟩
    replace H : (spec_l1Rd_grow.l1 k3 x1_1 a2 a3 x9_1 (wrap64 (x13_3 - 1)) s0_0 t474 a2 t464 (⟨#[]⟩ : ByteArray) y475) = some (r1, r2) := by first | (rw [hy475]; with_reducible exact H) | (have H2_ := (Option.bind_some _ _).symm.trans H; rw [hy475]; with_reducible exact H2_) | (have H2_ := (Option.bind_some _ _).symm.trans H; with_reducible exact H2_) | with_reducible exact H | (rw [hy475]; exact H) | exact H
    have Ny475 := Aside0.mk hy475
    clear hy475
    have H' := Aside0.mk H
    clear H
    try go_wp2_with (first | ((with_reducible refine gate_callee (f := 87) rfl ?_); refine goesL_ (some 63) rfl rfl Tryd.func87 dq23 rfl #[.pointer (some ⟨g, 0, none⟩)] rfl dq22 ?_; (with_reducible refine (spec_l1Rd_name.calls g s0_0 x1001_3 t469 t470 w0 _ ?side1 ?side2 A43.out).mono ?_); (case side1 => exact dq11); (case side2 => exact dq12); rintro e w49 ⟨rfl, hi, hb, hk⟩; refine ⟨_, rfl, ?_⟩; have n0_ := Aside0.mk (Kd.S_mono (Kd.S_keep (IsS99.apartS (show IsS99 w0 _ g s0_0 x1001_3 from by repeat (first | (with_reducible first | exact HI0.out | apply IsS99.alloc | apply IsS99.drewN | apply IsS99.drew | apply IsS99.set_1 | refine IsS99.far ?_ NB0_466.out _) | exact HI0.out)) dq62 dq52) hk (fun _ h => h.2)) (fun _ h => h.1)); have n1_ := Aside0.mk (Kd.R_mono (Kd.R_keep (IsS99.apart (show IsS99 w0 _ g s0_0 x1001_3 from by repeat (first | (with_reducible first | exact HI0.out | apply IsS99.alloc | apply IsS99.drewN | apply IsS99.drew | apply IsS99.set_1 | refine IsS99.far ?_ NB0_466.out _) | exact HI0.out)) dq74 dq52) hk (fun _ h => h.2)) (fun _ h => h.1)); have n2_ := Aside0.mk (KeepBut.blk hk (g' := gb466) (o := .cells #[.int .i64 a2, .string t464, .string (⟨#[]⟩ : ByteArray), u467003] 39 (0, 0)) dq73 NB466_0.out dq21); have n3_ := Aside0.mk (KeepBut.trans dq70 hk (.inl rfl)); have n4_ := Aside0.mk (hb); have n5_ := Aside0.mk (hi); clear HO_1; clear HO_467003; clear BK466; clear HK; clear HB; clear HI0; have HO_1 := n0_; have HO_467003 := n1_; have BK466 := n2_; have HK := n3_; have HB := n4_; have HI0 := n5_; clear n0_ n1_ n2_ n3_ n4_ n5_; (try clear hb); (try clear hb2); (try clear hk); (try clear hi)) | ((with_reducible refine gate_callee (f := 52) rfl ?_); refine goesL_ (some 65) rfl rfl Tryd.func52 dq23 rfl #[.pointer (some ⟨g, 0, none⟩), .int .i64 4] rfl dq22 ?_; (with_reducible refine (spec_l1Rd_once.calls g s0_0 t470 4 true t472 w0 _ ?side1 ?side2 A44.out).mono ?_); (case side1 => exact dq11); (case side2 => exact dq12); rintro e w50 ⟨rfl, hi, hb, hk⟩; refine ⟨_, rfl, ?_⟩; have n0_ := Aside0.mk (Kd.S_mono (Kd.S_keep (IsS99.apartS (show IsS99 w0 _ g s0_0 t470 from by repeat (first | (with_reducible first | exact HI0.out | apply IsS99.alloc | apply IsS99.drewN | apply IsS99.drew | apply IsS99.set_1 | refine IsS99.far ?_ NB0_466.out _) | exact HI0.out)) dq62 dq52) hk (fun _ h => h.2)) (fun _ h => h.1)); have n1_ := Aside0.mk (Kd.R_mono (Kd.R_keep (IsS99.apart (show IsS99 w0 _ g s0_0 t470 from by repeat (first | (with_reducible first | exact HI0.out | apply IsS99.alloc | apply IsS99.drewN | apply IsS99.drew | apply IsS99.set_1 | refine IsS99.far ?_ NB0_466.out _) | exact HI0.out)) dq74 dq52) hk (fun _ h => h.2)) (fun _ h => h.1)); have n2_ := Aside0.mk (KeepBut.blk hk (g' := gb466) (o := .cells #[.int .i64 a2, .string t464, .string (⟨#[]⟩ : ByteArray), u467003] 39 (0, 0)) dq73 NB466_0.out dq21); have n3_ := Aside0.mk (KeepBut.trans dq70 hk (.inl rfl)); have n4_ := Aside0.mk (hb); have n5_ := Aside0.mk (hi); clear HO_1; clear HO_467003; clear BK466; clear HK; clear HB; clear HI0; have HO_1 := n0_; have HO_467003 := n1_; have BK466 := n2_; have HK := n3_; have HB := n4_; have HI0 := n5_; clear n0_ n1_ n2_ n3_ n4_ n5_; (try clear hb); (try clear hb2); (try clear hk); (try clear hi)))
    have n0_ := Aside0.mk (Kd.S_drew HO_1.out)
    have n1_ := Aside0.mk (Kd.R_drew HO_467003.out)
    have n2_ := Aside0.mk (blk_drew BK466.out)
    have n3_ := Aside0.mk (IsS99.drew HI0.out)
    have n4_ := Aside0.mk (keep_drew HK.out)
    have n5_ := Aside0.mk (below_drew1 HB.out)
    clear HO_1
    clear HO_467003
    clear BK466
    clear HI0
    clear HK
    clear HB
    have HO_1 := n0_
    have HO_467003 := n1_
    have BK466 := n2_
    have HI0 := n3_
    have HK := n4_
    have HB := n5_
    clear n0_ n1_ n2_ n3_ n4_ n5_
    refine start_ (n := 10) (S := fun w' => w'.cell? ⟨gb466, 0, none⟩ = some (.int .i64 a2) ∧ w'.cell? ⟨gb466, 1, none⟩ = some (.string t464) ∧ w'.cell? ⟨gb466, 2, none⟩ = some (.string (⟨#[]⟩ : ByteArray)) ∧ w'.cell? ⟨gb466, 3, none⟩ = some (u467003)) (ds := [9]) #[false, false, false, false, false, false, false, false, false, false] dq23 rfl rfl ⟨(blk_cell BK466.out 0).trans rfl, (blk_cell BK466.out 1).trans rfl, (blk_cell BK466.out 2).trans rfl, (blk_cell BK466.out 3).trans rfl⟩ (fun hHeld => ?_); refine with_tabW spec_l1Rd_grow.tab16 spec_l1Rd_grow.bits16 (fun HT_ HW_ => ?_)
    generalize w50.drew = w51 at HO_1 HO_467003 BK466 HI0 HK HB hHeld ⊢
    refine pureA (i := 0) (N := some 68) #[true, false, false, false, false, false, false, false, false, false] ?_
    refine pureA (i := 2) (N := some 70) #[true, false, true, false, false, false, false, false, false, false] ?_
    refine pureA (i := 3) (N := some 71) #[true, false, true, true, false, false, false, false, false, false] ?_
    refine takeA4 (i := 1) (N := some 69) #[true, true, true, true, false, false, false, false, false, false] ?_
    refine one_ (i := 4) (N := some 72) #[true, true, true, true, true, false, false, false, false, false] rfl rfl (one_of HT_.out dq23) dq52 (fun K hK => ?_)
    refine goes_ Tryd.func88 dq23 rfl #[.pointer (some ⟨g, 0, none⟩)] (by rfl) rfl rfl dq22 ?_
    with_reducible refine (spec_l1Rd_text.calls g s0_0 t472 t473 t474 w0 _ ?side1 ?side2 A47.out).mono ?_
    (case side1 => exact dq11)
    (case side2 => exact dq12)
    rintro e w52 ⟨rfl, hi, hb, hk⟩
    refine ⟨_, rfl, ?_⟩
    have n0_ := Aside0.mk (Kd.S_mono (Kd.S_keep (IsS99.apartS (show IsS99 w0 _ g s0_0 t472 from by repeat (first | (with_reducible first | exact HI0.out | apply IsS99.alloc | apply IsS99.drewN | apply IsS99.drew | apply IsS99.set_1 | refine IsS99.far ?_ NB0_466.out _) | exact HI0.out)) dq62 dq52) hk (fun _ h => h.2)) (fun _ h => h.1))
    have n1_ := Aside0.mk (Kd.R_mono (Kd.R_keep (IsS99.apart (show IsS99 w0 _ g s0_0 t472 from by repeat (first | (with_reducible first | exact HI0.out | apply IsS99.alloc | apply IsS99.drewN | apply IsS99.drew | apply IsS99.set_1 | refine IsS99.far ?_ NB0_466.out _) | exact HI0.out)) dq74 dq52) hk (fun _ h => h.2)) (fun _ h => h.1))
    have n2_ := Aside0.mk (KeepBut.blk hk (g' := gb466) (o := .cells #[.int .i64 a2, .string t464, .string (⟨#[]⟩ : ByteArray), u467003] 39 (0, 0)) dq73 NB466_0.out dq21)
    have n3_ := Aside0.mk (KeepBut.trans dq70 hk (.inl rfl))
    have n4_ := Aside0.mk (hb)
    have n5_ := Aside0.mk (hi)
    clear HO_1
    clear HO_467003
    clear BK466
    clear HK
    clear HB
    clear HI0
    have HO_1 := n0_
    have HO_467003 := n1_
    have BK466 := n2_
    have HK := n3_
    have HB := n4_
    have HI0 := n5_
    clear n0_ n1_ n2_ n3_ n4_ n5_
    (try clear hb)
    (try clear hb2)
    (try clear hk)
    (try clear hi)
    refine hK.out _ _ ⟨(blk_cell BK466.out 0).trans rfl, (blk_cell BK466.out 1).trans rfl, (blk_cell BK466.out 2).trans rfl, (blk_cell BK466.out 3).trans rfl⟩ (fun hHeld => ?_)
    clear hK K
    refine norm_ (a' := ?_) ?_ ?_
    rotate_left
    ·show Act.put _ (some 72) _ = _
     simp only [Act.put, List.setIfInBounds_toArray, List.set_cons_zero, List.set_cons_succ, i64_w, i32_w]
     rfl
    refine pureA (i := 5) (N := some 73) #[true, true, true, true, true, true, false, false, false, false] ?_
    refine one_ (i := 6) (N := some 74) #[true, true, true, true, true, true, true, false, false, false] rfl rfl (one_of HT_.out dq23) dq52 (fun K hK => ?_)
    refine value_ (w1 := ?_) (v := ?_) (by rfl) rfl ?_ ?_
    rotate_left 2
    ·go_simp
     constructor
     ·rfl
     rfl
    refine hK.out _ _ ⟨(blk_cell (blk_alloc BK466.out _) 0).trans rfl, (blk_cell (blk_alloc BK466.out _) 1).trans rfl, (blk_cell (blk_alloc BK466.out _) 2).trans rfl, (blk_cell (blk_alloc BK466.out _) 3).trans rfl⟩ (fun hHeld => ?_)
    clear hK K
    refine norm_ (a' := ?_) ?_ ?_
    rotate_left
    ·show Act.put _ (some 74) _ = _
     simp only [Act.put, List.setIfInBounds_toArray, List.set_cons_zero, List.set_cons_succ, i64_w, i32_w]
     rfl
    refine one_ (i := 7) (N := some 75) #[true, true, true, true, true, true, true, true, false, false] rfl rfl (one_of HT_.out dq23) dq52 (fun K hK => ?_)
    refine Kd.R_append_step k46 w.heap.size (by rfl) (.tmp 69) (.tmp 74) 37 46 (.agg #[(.string ⟨#[]⟩), (.string ⟨#[]⟩)]) 32 rfl Tryd.underlying37 info46 rfl dq52 dq37 u467003 x467003_3 (⟨(⟨#[112, 58]⟩ : ByteArray) ++ t469, t473⟩ : S46) [.string ((⟨#[112, 58]⟩ : ByteArray) ++ t469), .string t473] (fun _ => True) (fun _ => False) rfl rfl ?aP (fun _ hk => hk.elim) ?aF ?aO (Below.refl _ _) ?aS ?aL ?_
    (case aP => exact k46_mkM _ _ _ (⟨(⟨#[112, 58]⟩ : ByteArray) ++ t469, t473⟩ : S46))
    (case aF => exact (fun _ _ => trivial))
    (case aO => exact dq74)
    (case aS => exact (keep_size (w := w) (g := g) (row := none) dq70))
    (case aL => have := LMc48.out; omega)
    intro v476 w53 ho hb hg hat
    rw [← Ny475.out] at ho
    have n0_ := Aside0.mk (Kd.S_after (ok := (fun k_ => k_ ≠ gb466)) dq75 hg hat)
    have n1_ := Aside0.mk (blk_grown (g := gb466) (o := .cells #[.int .i64 a2, .string t464, .string (⟨#[]⟩ : ByteArray), u467003] 39 (0, 0)) dq73 hg (Kd.R_ne HO_467003.out BK466.out dq52))
    have n2_ := Aside0.mk (IsS99.grown dq72 hg (IsS99.own_ne HI0.out HO_467003.out dq52))
    have n3_ := Aside0.mk (below_weaken dq71 HL.out hb)
    have n4_ := Aside0.mk (KeepBut.trans dq70 (KeepBut.of_grown hg g) (Kd.R_base2 HO_467003.out))
    have n5_ := Aside0.mk (ho)
    clear HO_1
    clear BK466
    clear HI0
    clear HB
    clear HK
    clear HO_467003
    have HO_1 := n0_
    have BK466 := n1_
    have HI0 := n2_
    have HB := n3_
    have HK := n4_
    have HO477 := n5_
    clear n0_ n1_ n2_ n3_ n4_ n5_
    clear ho hb hg hat
    obtain ⟨Ao54, co54, eo54⟩ := Kd.R_slice HO477.out
    (first | subst eo54 | (injection eo54 with f1_ f2_ f3_; have f4_ := f1_.symm; have f5_ := f3_.symm; clear f1_ f2_ f3_; subst f4_; subst f5_))
    refine hK.out _ _ ⟨(blk_cell BK466.out 0).trans rfl, (blk_cell BK466.out 1).trans rfl, (blk_cell BK466.out 2).trans rfl, (blk_cell BK466.out 3).trans rfl⟩ (fun hHeld => ?_)
    clear hK K
    refine norm_ (a' := ?_) ?_ ?_
    rotate_left
    ·show Act.put _ (some 75) _ = _
     simp only [Act.put, List.setIfInBounds_toArray, List.set_cons_zero, List.set_cons_succ, i64_w, i32_w]
     rfl
    refine pureA (i := 8) (N := some 76) #[true, true, true, true, true, true, true, true, true, false] ?_
    refine last_ (i := 9) (N := none) #[true, true, true, true, true, true, true, true, true, true] rfl rfl (one_of HT_.out dq23) dq52 (fun K hK => ?_)
    have hs55 : w53.cell? ⟨gb466, 3, none⟩ = some (u467003) := (blk_cell BK466.out 3).trans rfl
    have hfs55 := blk_frozen BK466.out 3
    refine skip_ (w1 := ?_) (by rfl) rfl ?_ ?_
    rotate_left
    ·go_simp
     rfl
    refine hK.out _ _ ?_
    clear hK K
    refine done_ (done_of HT_.out dq23) ?_
    try go_wp2
    go_roundg k3
    case measure => have := HK1.out; have := HJ12.out; have := HK3.out; omega
    case rel => exact ⟨(wrap64 (x13_3 - 1)), (t474), (y475), (.slice Ao54 y475.length co54), dq18, H', ⟨by have := HK1.out; have := HJ12.out; have := HK3.out; omega⟩, ⟨by (with_reducible repeat (first | apply Kd.S_alloc | apply Kd.S_drewN | apply Kd.S_drew)); exact Kd.S_mono (Kd.S_far (p := ⟨gb466, 3, none⟩) (Kd.S_mono HO_1.out (fun k_ hk => (⟨hk, hk.1⟩ : _ ∧ k_ ≠ gb466))) (fun _ hk => hk.2) (.slice Ao54 y475.length co54)) (fun _ hk => ⟨hk.1.2, hk.1.1⟩)⟩, ⟨by (with_reducible repeat (first | apply Kd.R_alloc | apply Kd.R_drewN | apply Kd.R_drew)); exact Kd.R_mono (Kd.R_far (p := ⟨gb466, 3, none⟩) (Kd.R_types HO477.out BK466.out dq52) (fun _ hk => hk.2) (.slice Ao54 y475.length co54)) (fun _ hk => trivial)⟩, ⟨dq76⟩, ⟨dq72⟩, ⟨dq70⟩, ⟨dq71⟩⟩

end Go.Proofs.YtpmjpbaeecnpiaaDoor.L
