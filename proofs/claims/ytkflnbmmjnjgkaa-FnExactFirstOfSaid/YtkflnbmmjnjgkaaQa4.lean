/- Words and contracts for the row RowFnExactFirstOf: what the Go functions answer that it calls; printed by programs of the kit and of this session, and merged. -/
import Derived.Test.YtkflnbmmjnjgkaaQa3
namespace Go.Proofs.Ytkflnbmmjnjgkaa.L
open Go.RowKit Go.Proofs.YtkflnbmmjnjgkaaW.PrintWords Go.Proofs.YtkflnbmmjnjgkaaW.PrintLast Go.Proofs.YtkflnbmmjnjgkaaW.PrintMore
attribute [local go_sem] max2_int min2_int max_two min_two max_three min_three max_four min_four
set_option linter.unusedVariables false
set_option linter.unusedSimpArgs false

/-! ### laws_toPNode: function 36 -/
def laws_toPNode.f (k : Nat) (a0_0 : Int) (a0_1 : ByteArray) (l0_2 : List Int) (a0_3 : Int) : Option (Int × ByteArray × List Int × Int) := (laws_toInt64S.f k l0_2).bind fun t217 => (some (a0_0, a0_1, t217, a0_3))
set_option maxHeartbeats 8000000 in
set_option maxRecDepth 100000 in
theorem laws_toPNode.calls (k : Nat) (a0_0 : Int) (a0_1 : ByteArray) (A0_2 : Option Addr) (c0_2 : Nat) (l0_2 : List Int) (a0_3 : Int) (r1 : Int) (r2 : ByteArray) (r3 : List Int) (r4 : Int) (w : World) (hr0_2 : Kd.C (Kd.int .i64) w A0_2 l0_2.length l0_2) (hc0_2 : l0_2.length ≤ c0_2) (h : laws_toPNode.f k a0_0 a0_1 l0_2 a0_3 = some (r1, r2, r3, r4)) :
  Calls Try.prog 36 #[.agg #[.int .i64 a0_0, .string a0_1, .slice A0_2 l0_2.length c0_2, .int .i64 a0_3]] w fun e w' => ∃ v2_ : Value, e = .returned (.agg #[.int .i64 r1, .string r2, v2_, .int .i64 r4]) ∧ Kd.R (Kd.int .i64) 2 w' w.heap.size (fun _ => True) v2_ r3 ∧ Below w.heap.size w w' := by
 have hu46 := Try.underlying46
 have hu49 := Try.underlying49
 have HR0_2 := Aside0.mk hr0_2
 have HC0_2 := Aside0.mk hc0_2
 clear hr0_2 hc0_2
 have HB := Aside0.mk (Below.refl w.heap.size w)
 have H : ((laws_toInt64S.f k l0_2).bind fun t217 => (some (a0_0, a0_1, t217, a0_3))) = some (r1, r2, r3, r4) := h
 clear h
 replace H := Option.bind_eq_some_iff.mp H
 obtain ⟨t217, A20, H⟩ := H
 replace H : (some (a0_0, a0_1, t217, a0_3)) = some (r1, r2, r3, r4) := H
 have A2 := Aside0.mk A20
 clear A20
 simp only [Option.some.injEq, Prod.mk.injEq] at H
 obtain ⟨rfl, rfl, rfl, rfl⟩ := H
 go_enter Try.func36, Try.ntmps36
 go_wp2_with (first | ((with_reducible refine gate_dst (N := 1) rfl ?_); refine box_event ?hg (N := 1) ?hd (cs := #[.int .i64 a0_0, .string a0_1, .slice A0_2 l0_2.length c0_2, .int .i64 a0_3]) (t := 46) ?hr ?_; (case hd => rfl); (case hg => rfl); (case hr => exact dq0); intro gb214 hg w3 hbox hb; have n0_ := Aside0.mk (below_step dq19 hb); have n1_ := Aside0.mk (hbox); have n2_ := Aside0.mk ((dq18 : w.heap.size ≤ gb214)); have n3_ := Aside0.mk ((dq18 : w.heap.size ≤ gb214)); clear HB; have HB := n0_; have BK214 := n1_; have GW214 := n2_; have GE214 := n3_; clear n0_ n1_ n2_ n3_; clear hb hbox hg) | ((with_reducible refine gate_dst (N := 2) rfl ?_); refine box_event ?hg (N := 2) ?hd (cs := #[.int .i64 0, .string (⟨#[]⟩ : ByteArray), .slice none 0 0, .int .i64 0]) (t := 49) ?hr ?_; (case hd => rfl); (case hg => rfl); (case hr => exact dq0); intro gb215 hg w4 hbox hb; have n0_ := Aside0.mk (blk_below (g := gb214) (o := .cells #[.int .i64 a0_0, .string a0_1, .slice A0_2 l0_2.length c0_2, .int .i64 a0_3] 46 (0, 0)) dq64 hb); have n1_ := Aside0.mk (below_step dq66 hb); have n2_ := Aside0.mk (hbox); have n3_ := Aside0.mk ((dq65 : w.heap.size ≤ gb215)); have n4_ := Aside0.mk ((dq65 : w.heap.size ≤ gb215)); have n5_ := Aside0.mk ((dq61 : gb214 ≠ gb215)); have n6_ := Aside0.mk ((dq60 : gb215 ≠ gb214)); clear BK214; clear HB; have BK214 := n0_; have HB := n1_; have BK215 := n2_; have GW215 := n3_; have GE215 := n4_; have NB214_215 := n5_; have NB215_214 := n6_; clear n0_ n1_ n2_ n3_ n4_ n5_ n6_; clear hb hbox hg) | ((with_reducible refine gate_dst (N := 3) rfl ?_); refine box_event ?hg (N := 3) ?hd (cs := #[.int .i64 0, .string (⟨#[]⟩ : ByteArray), .slice none 0 0, .int .i64 0]) (t := 49) ?hr ?_; (case hd => rfl); (case hg => rfl); (case hr => exact dq0); intro gb216 hg w5 hbox hb; have n0_ := Aside0.mk (blk_below (g := gb214) (o := .cells #[.int .i64 a0_0, .string a0_1, .slice A0_2 l0_2.length c0_2, .int .i64 a0_3] 46 (0, 0)) dq64 hb); have n1_ := Aside0.mk (blk_below (g := gb215) (o := .cells #[.int .i64 0, .string (⟨#[]⟩ : ByteArray), .slice none 0 0, .int .i64 0] 49 (0, 0)) (by refine blk_up ?_; exact BK215.out) hb); have n2_ := Aside0.mk (below_step dq63 hb); have n3_ := Aside0.mk (hbox); have n4_ := Aside0.mk ((dq62 : w.heap.size ≤ gb216)); have n5_ := Aside0.mk ((dq62 : w.heap.size ≤ gb216)); have n6_ := Aside0.mk ((dq61 : gb214 ≠ gb216)); have n7_ := Aside0.mk ((dq60 : gb216 ≠ gb214)); have n8_ := Aside0.mk ((by rw [hg]; exact Nat.ne_of_lt (blk_lt (g := gb215) (o := .cells #[.int .i64 0, .string (⟨#[]⟩ : ByteArray), .slice none 0 0, .int .i64 0] 49 (0, 0)) (by refine blk_up ?_; exact BK215.out)) : gb215 ≠ gb216)); have n9_ := Aside0.mk ((by rw [hg]; exact Nat.ne_of_gt (blk_lt (g := gb215) (o := .cells #[.int .i64 0, .string (⟨#[]⟩ : ByteArray), .slice none 0 0, .int .i64 0] 49 (0, 0)) (by refine blk_up ?_; exact BK215.out)) : gb216 ≠ gb215)); clear BK214; clear BK215; clear HB; have BK214 := n0_; have BK215 := n1_; have HB := n2_; have BK216 := n3_; have GW216 := n4_; have GE216 := n5_; have NB214_216 := n6_; have NB216_214 := n7_; have NB215_216 := n8_; have NB216_215 := n9_; clear n0_ n1_ n2_ n3_ n4_ n5_ n6_ n7_ n8_ n9_; clear hb hbox hg; have hnb6 := NB214_215.out; have hnc6 := NB215_214.out; have hnb7 := NB214_216.out; have hnc7 := NB216_214.out; obtain ⟨⟨hcz8_0, hcz8_1, hcz8_2, hcz8_3⟩, hfz8_0, hfz8_1, hfz8_2, hfz8_3⟩ := blkC4 BK214.out; have hnb9 := NB216_215.out; have hnc9 := NB215_216.out; obtain ⟨⟨hcz10_0, hcz10_1, hcz10_2, hcz10_3⟩, hfz10_0, hfz10_1, hfz10_2, hfz10_3⟩ := blkC4 BK216.out) | ((with_reducible refine gate_callee (f := 63) rfl ?_); refine goesL_ (some 12) rfl rfl Try.func63 dq23 rfl #[.slice A0_2 l0_2.length c0_2] rfl dq22 ?_; (with_reducible refine (laws_toInt64S.calls k _ _ l0_2 t217 _ ?side1 ?side2 A2.out).mono ?_); (case side1 => exact Kd.C_below HR0_2.out dq59); (case side2 => exact HC0_2.out); rintro e w11 ⟨v218, rfl, ho0, hb⟩; refine ⟨_, rfl, ?_⟩; have n0_ := Aside0.mk (Kd.R_lower ho0 (below_size dq59)); have n1_ := Aside0.mk (blk_below (g := gb214) (o := .cells #[.int .i64 a0_0, .string a0_1, .slice A0_2 l0_2.length c0_2, .int .i64 a0_3] 46 (0, 0)) (by refine blk_up ?_; refine blk_far ?_ NB214_216.out _; refine blk_up ?_; refine blk_far ?_ NB214_216.out _; refine blk_up ?_; exact BK214.out) hb); have n2_ := Aside0.mk (blk_below (g := gb215) (o := .cells #[.int .i64 0, .string (⟨#[]⟩ : ByteArray), .slice none 0 0, .int .i64 0] 49 (0, 0)) (by refine blk_up ?_; refine blk_far ?_ NB215_216.out _; refine blk_up ?_; refine blk_far ?_ NB215_216.out _; refine blk_up ?_; exact BK215.out) hb); have n3_ := Aside0.mk (blk_below (g := gb216) (o := .cells #[.int .i64 a0_0, .string a0_1, .slice none 0 0, .int .i64 0] 49 (0, 0)) (by refine blk_up ?_; refine blk_put (cs := #[.int .i64 a0_0, .string (⟨#[]⟩ : ByteArray), .slice none 0 0, .int .i64 0]) ?_ 1 _ rfl; refine blk_up ?_; refine blk_put (cs := #[.int .i64 0, .string (⟨#[]⟩ : ByteArray), .slice none 0 0, .int .i64 0]) ?_ 0 _ rfl; refine blk_up ?_; exact BK216.out) hb); have n4_ := Aside0.mk (below_step dq59 hb); clear BK214; clear BK215; clear BK216; clear HB; have HO219 := n0_; have BK214 := n1_; have BK215 := n2_; have BK216 := n3_; have HB := n4_; clear n0_ n1_ n2_ n3_ n4_; (try clear hb); (try clear hb2); (try clear hk); (try clear hi); (try clear ho0); obtain ⟨Ao12, co12, eo12⟩ := Kd.R_slice HO219.out; subst eo12; obtain ⟨⟨hcz13_0, hcz13_1, hcz13_2, hcz13_3⟩, hfz13_0, hfz13_1, hfz13_2, hfz13_3⟩ := blkC4 BK216.out; obtain ⟨⟨hcz14_0, hcz14_1, hcz14_2, hcz14_3⟩, hfz14_0, hfz14_1, hfz14_2, hfz14_3⟩ := blkC4 BK214.out; obtain ⟨⟨hcz15_0, hcz15_1, hcz15_2, hcz15_3⟩, hfz15_0, hfz15_1, hfz15_2, hfz15_3⟩ := blkC4 BK215.out))
 refine bodyPost_ret (results_cell_row rfl _ _ gb215 49 #[.int .i64 a0_0, .string a0_1, .slice Ao12 t217.length co12, .int .i64 a0_3] (0, 0) _ rfl (by refine blk_up ?_; refine blk_put (cs := #[.int .i64 a0_0, .string a0_1, .slice Ao12 t217.length co12, .int .i64 0]) ?_ 3 _ rfl; refine blk_up ?_; refine blk_put (cs := #[.int .i64 a0_0, .string a0_1, .slice none 0 0, .int .i64 0]) ?_ 2 _ rfl; refine blk_up ?_; refine blk_put (cs := #[.int .i64 a0_0, .string (⟨#[]⟩ : ByteArray), .slice none 0 0, .int .i64 0]) ?_ 1 _ rfl; refine blk_up ?_; refine blk_put (cs := #[.int .i64 0, .string (⟨#[]⟩ : ByteArray), .slice none 0 0, .int .i64 0]) ?_ 0 _ rfl; refine blk_up ?_; refine blk_far ?_ NB215_216.out _; refine blk_up ?_; refine blk_far ?_ NB215_216.out _; refine blk_up ?_; exact BK215.out) Try.underlying49 rfl dq23) rfl ?_
 exact ⟨_, dq21, by (with_reducible repeat (first | apply Kd.R_alloc | apply Kd.R_drewN | apply Kd.R_drew)); exact Kd.R_mono (Kd.R_far (p := ⟨gb215, 3, none⟩) (Kd.R_far (p := ⟨gb215, 2, none⟩) (Kd.R_far (p := ⟨gb215, 1, none⟩) (Kd.R_far (p := ⟨gb215, 0, none⟩) (Kd.R_far (p := ⟨gb216, 3, none⟩) (Kd.R_far (p := ⟨gb216, 2, none⟩) (Kd.R_types (Kd.R_types HO219.out BK216.out dq38) BK215.out dq38) (fun _ hk => hk.1.2) (.slice Ao12 t217.length co12)) (fun _ hk => hk.1.2) (.int .i64 a0_3)) (fun _ hk => hk.2) (.int .i64 a0_0)) (fun _ hk => hk.2) (.string a0_1)) (fun _ hk => hk.2) (.slice Ao12 t217.length co12)) (fun _ hk => hk.2) (.int .i64 a0_3)) (fun _ hk => trivial), dq59⟩

/-! ### laws_toPNodeS: function 11 -/
def laws_toPNodeS.l0 : Nat → List (S46) → List (S49) → Int → Option ((List (S49)))
 | 0, _, _, _ => none
 | k + 1, x0, x3, x4 => if x4 < (x0.length : Int) then (if 0 ≤ x4 then ((laws_toPNode.f k ((rd_T46 x0 x4).f0) ((rd_T46 x0 x4).f1) ((rd_T46 x0 x4).f2) ((rd_T46 x0 x4).f3)).bind fun bt224 => (if x4 < (x3.length : Int) then (laws_toPNodeS.l0 k x0 (x3.set (x4 : Int).toNat (⟨bt224.1, bt224.2.1, bt224.2.2.1, bt224.2.2.2⟩ : S49)) (wrap64 (x4 + 1))) else (none))) else (none)) else (some x3)
def laws_toPNodeS.f (k : Nat) (l0 : List (S46)) : Option ((List (S49))) := if 0 ≤ (l0.length : Int) then (if ((l0.length : Int) : Int).toNat ≤ 5026338869833 then (laws_toPNodeS.l0 k l0 (List.replicate ((l0.length : Int) : Int).toNat z49) 0) else (none)) else (none)
set_option maxHeartbeats 8000000 in
set_option maxRecDepth 100000 in
theorem laws_toPNodeS.calls (k : Nat) (A0 : Option Addr) (c0 : Nat) (l0 : List (S46)) (r : List (S49)) (w : World) (hr0 : Kd.C k46 w A0 l0.length l0) (hc0 : l0.length ≤ c0) (h : laws_toPNodeS.f k l0 = some r) :
  Calls Try.prog 11 #[.slice A0 l0.length c0] w fun e w' => ∃ v0_ : Value, e = .returned (v0_) ∧ Kd.S k49 49 w' w.heap.size (fun _ => True) v0_ r ∧ Below w.heap.size w w' := by
 have hu46 := Try.underlying46
 have hu49 := Try.underlying49
 have HR0 := Aside0.mk hr0
 have HC0 := Aside0.mk hc0
 clear hr0 hc0
 have HB := Aside0.mk (Below.refl w.heap.size w)
 have H : (if 0 ≤ (l0.length : Int) then (if ((l0.length : Int) : Int).toNat ≤ 5026338869833 then (laws_toPNodeS.l0 k l0 (List.replicate ((l0.length : Int) : Int).toNat z49) 0) else (none)) else (none)) = some r := h
 clear h
 by_cases c2 : 0 ≤ (l0.length : Int)
 rotate_left
 ·rw [if_neg c2] at H
  exact absurd H dq26
 rw [if_pos c2] at H
 have c2b0 := eq_true c2
 have c2b1 := decide_eq_true c2
 clear c2
 by_cases c3 : ((l0.length : Int) : Int).toNat ≤ 5026338869833
 rotate_left
 ·rw [if_neg c3] at H
  exact absurd H dq26
 rw [if_pos c3] at H
 have c3b0 := eq_true c3
 have c3b1 := decide_eq_true c3
 clear c3
 obtain ⟨y220, hy220⟩ : ∃ y_ : List (S49), y_ = (List.replicate ((l0.length : Int) : Int).toNat z49) := ⟨_, rfl⟩
 replace H : (laws_toPNodeS.l0 k l0 y220 0) = some r := by first | (rw [hy220]; with_reducible exact H) | (have H2_ := (Option.bind_some _ _).symm.trans H; rw [hy220]; with_reducible exact H2_) | (have H2_ := (Option.bind_some _ _).symm.trans H; with_reducible exact H2_) | with_reducible exact H | (rw [hy220]; exact H) | exact H
 have Ny220 := Aside0.mk hy220
 clear hy220
 have H' := Aside0.mk H
 clear H
 go_enter Try.func11, Try.ntmps11
 go_wp2_with (first | ((with_reducible refine gate_dst (N := 7) rfl ?_); refine Kd.S_make k49 _ 49 rfl (N := 7) rfl 26 _ _ rfl (l0.length : Int) rfl rfl Try.underlying26 (.agg #[(.int .i64 0), (.string ⟨#[]⟩), (.slice none 0 0), (.int .i64 0)]) 56 info49 rfl dq38 dq27 z49 (ok := fun _ => True) (okp := fun _ => True) (k49_mkM _ _ _ z49 (Kd.R_nil _ _ _ _ _)) (fun _ hk => hk) trivial (of_decide_eq_true dq24) (Nat.le_trans (Nat.mul_le_mul_right _ (of_decide_eq_true dq24 : (l0.length : Int).toNat ≤ 5026338869833)) dq27) (Below.refl _ _) (Nat.le_refl _) ?_; intro v221 w4 ho5 hb hg_ hnew_; clear hg_ hnew_; (first | rw [← Ny220.out] at ho5 | (simp only [Int.reduceToNat] at ho5; rw [← Ny220.out] at ho5)); have n0_ := Aside0.mk (Kd.S_lower ho5 (below_size dq19)); have n1_ := Aside0.mk (below_step dq19 hb); clear HB; have HO222 := n0_; have HB := n1_; clear n0_ n1_; clear hb ho5))
 go_loopg [4] k (fun kq v4 w' => ∃ (x3_1 : List (S49)) (x4_1 : Int), v4 = .int .i64 x4_1 ∧ Aside0 (laws_toPNodeS.l0 kq l0 x3_1 x4_1 = some r) ∧ Aside0 (kq ≤ k) ∧ Aside0 (Kd.S k49 49 w' w.heap.size (fun _ => True) v221 x3_1) ∧ Aside0 (Below w.heap.size w w'))
 case atStart => exact ⟨(y220), (0), dq17, H', ⟨Nat.le_refl _⟩, ⟨by (with_reducible repeat (first | apply Kd.S_alloc | apply Kd.S_drewN | apply Kd.S_drew)); exact HO222.out⟩, ⟨dq19⟩⟩
 clear H'
 try clear c1
 try clear c2
 try clear c2b0
 try clear c2b1
 try clear p2
 try clear c3
 try clear c3b0
 try clear c3b1
 obtain ⟨x3_1, x4_1, rfl, HA, HK1, HO_3, HB⟩ := hrel
 cases gk with
 | zero => exact absurd HA.out (by simp [laws_toPNodeS.l0])
 | succ k1 =>
  have H := HA.out
  clear HA
  simp only [laws_toPNodeS.l0] at H
  by_cases c6 : x4_1 < (l0.length : Int)
  rotate_left
  ·rw [if_neg c6] at H
   have c6b0 := decide_eq_false c6
   clear c6
   obtain rfl := Option.some.inj H
   go_wp2
   go_ret
   exact ⟨_, dq21, dq67, dq19⟩
  rw [if_pos c6] at H
  have c6b0 := decide_eq_true c6
  clear c6
  by_cases c7 : 0 ≤ x4_1
  rotate_left
  ·rw [if_neg c7] at H
   exact absurd H dq26
  rw [if_pos c7] at H
  have c7b0 := decide_eq_true c7
  clear c7
  replace H := Option.bind_eq_some_iff.mp H
  obtain ⟨⟨t224, t225, t226, t229⟩, A80, H⟩ := H
  replace H : (if x4_1 < (x3_1.length : Int) then (laws_toPNodeS.l0 k1 l0 (x3_1.set (x4_1 : Int).toNat (⟨t224, t225, t226, t229⟩ : S49)) (wrap64 (x4_1 + 1))) else (none)) = some r := H
  have A8 := Aside0.mk A80
  clear A80
  by_cases c9 : x4_1 < (x3_1.length : Int)
  rotate_left
  ·rw [if_neg c9] at H
   exact absurd H dq26
  rw [if_pos c9] at H
  have c9b0 := decide_eq_true c9
  clear c9
  obtain ⟨y230, hy230⟩ : ∃ y_ : List (S49), y_ = (x3_1.set (x4_1 : Int).toNat (⟨t224, t225, t226, t229⟩ : S49)) := ⟨_, rfl⟩
  replace H : (laws_toPNodeS.l0 k1 l0 y230 (wrap64 (x4_1 + 1))) = some r := by first | (rw [hy230]; with_reducible exact H) | (have H2_ := (Option.bind_some _ _).symm.trans H; rw [hy230]; with_reducible exact H2_) | (have H2_ := (Option.bind_some _ _).symm.trans H; with_reducible exact H2_) | with_reducible exact H | (rw [hy230]; exact H) | exact H
  have Ny230 := Aside0.mk hy230
  clear hy230
  have H' := Aside0.mk H
  clear H
  have p223 : 0 ≤ (x4_1 : Int) := of_decide_eq_true dq24
  have q223 : x4_1 < (l0.length : Int) := of_decide_eq_true dq24
  obtain ⟨ad223, A223_2, c223_2, e223, hx223_0, hx223_1, hx223_2, hx223_3, hl223_2, hi223_2⟩ := at_T46 HR0.out x4_1 p223 q223
  cases e223
  replace hx223_0 := (HB.out.cell (World.block_lt_of_cell? w _ hx223_0)).trans hx223_0
  replace hx223_1 := (HB.out.cell (World.block_lt_of_cell? w _ hx223_1)).trans hx223_1
  replace hx223_2 := (HB.out.cell (World.block_lt_of_cell? w _ hx223_2)).trans hx223_2
  replace hx223_3 := (HB.out.cell (World.block_lt_of_cell? w _ hx223_3)).trans hx223_3
  have HR223_2 := Aside0.mk hi223_2
  have HC223_2 := Aside0.mk hl223_2
  clear hi223_2 hl223_2
  replace p223 := eq_true p223
  replace q223 := eq_true q223
  go_wp2_with (first | ((with_reducible refine gate_callee (f := 36) rfl ?_); refine goesL_ (some 20) rfl rfl Try.func36 dq23 rfl #[.agg #[.int .i64 ((rd_T46 l0 x4_1).f0), .string ((rd_T46 l0 x4_1).f1), .slice A223_2 ((rd_T46 l0 x4_1).f2).length c223_2, .int .i64 ((rd_T46 l0 x4_1).f3)]] rfl dq22 ?_; (with_reducible refine (laws_toPNode.calls k1 ((rd_T46 l0 x4_1).f0) ((rd_T46 l0 x4_1).f1) _ _ ((rd_T46 l0 x4_1).f2) ((rd_T46 l0 x4_1).f3) t224 t225 t226 t229 _ ?side1 ?side2 A8.out).mono ?_); (case side1 => repeat (first | exact (Kd.C_below HR223_2.out HB.out) | (with_reducible refine Kd.C_alloc ?_ _) | (with_reducible refine Kd.C_drewN ?_ _) | (with_reducible refine Kd.C_drew ?_))); (case side2 => exact HC223_2.out); rintro e w11 ⟨v227, rfl, ho0, hb⟩; refine ⟨_, rfl, ?_⟩; have n0_ := Aside0.mk (Kd.S_elder' dq67 (Kd.R_base ho0) hb); have n1_ := Aside0.mk (Kd.R_lower ho0 (below_size dq19)); have n2_ := Aside0.mk (below_step dq19 hb); clear HO_3; clear HB; have HO_3 := n0_; have HO228 := n1_; have HB := n2_; clear n0_ n1_ n2_; (try clear hb); (try clear hb2); (try clear hk); (try clear hi); (try clear ho0); have p10 : 0 ≤ (x4_1 : Int) := of_decide_eq_true dq24; have q10 : (x4_1 : Int) < ((x3_1.length : Int) : Int) := of_decide_eq_true dq24; obtain ⟨go10, co10, eo10, gb10, gl10, cl10, HG10⟩ := Kd.S_form HO_3.out dq27; (first | cases eo10 | (injection eo10 with ea_ en_ ec_; (first | subst ea_ | (injection ea_ with ea_; subst ea_)); subst ec_; clear en_)); have GB10 := Aside0.mk gb10; have GG10 := Aside0.mk HG10; clear gb10 gl10 HG10; obtain ⟨_, ce10, hcl10, hM10, hcc10, hfr10, _, _⟩ := Kd.S_elem HO_3.out z49 (x4_1 : Int) p10 q10; obtain ⟨ve10_2, rfl, ge10_2⟩ := k49_openM hM10; have hx10_0 : w11.cell? ⟨go10, (x4_1 : Int).toNat * 4, none⟩ = some (.int .i64 ((rd_T49 x3_1 x4_1).f0)) := hcc10 0 _ rfl; have hx10_1 : w11.cell? ⟨go10, (x4_1 : Int).toNat * 4 + 1, none⟩ = some (.string ((rd_T49 x3_1 x4_1).f1)) := hcc10 1 _ rfl; have hx10_2 : w11.cell? ⟨go10, (x4_1 : Int).toNat * 4 + 2, none⟩ = some (ve10_2) := hcc10 2 _ rfl; have hx10_3 : w11.cell? ⟨go10, (x4_1 : Int).toNat * 4 + 3, none⟩ = some (.int .i64 ((rd_T49 x3_1 x4_1).f3)) := hcc10 3 _ rfl; have hf10_0 : w11.frozen? ⟨go10, (x4_1 : Int).toNat * 4, none⟩ = false := hfr10 0; have hf10_1 : w11.frozen? ⟨go10, (x4_1 : Int).toNat * 4 + 1, none⟩ = false := hfr10 1; have hf10_2 : w11.frozen? ⟨go10, (x4_1 : Int).toNat * 4 + 2, none⟩ = false := hfr10 2; have hf10_3 : w11.frozen? ⟨go10, (x4_1 : Int).toNat * 4 + 3, none⟩ = false := hfr10 3; clear hcl10 hcc10 hfr10 hM10; replace p10 := eq_true p10; replace q10 := eq_true q10; obtain ⟨Ao12, co12, eo12⟩ := Kd.R_slice HO228.out; subst eo12; have n_ := Aside0.mk (Kd.S_mono (ok' := (fun k_ => some k_ ≠ (.slice Ao12 t226.length co12 : Value).ownBlock)) HO_3.out (fun k_ hk => hk.2)); clear HO_3; have HO_3 := n_; clear n_; have HX13 := Aside0.mk (show Kd.S k49 49 w11 w.heap.size (fun k_ => ((fun _ => True)) k_ ∧ ¬ ((fun k_ => some k_ = (.slice Ao12 t226.length co12 : Value).ownBlock)) k_) (.slice (some ⟨go10, 0, none⟩) x3_1.length co10) x3_1 from (by (with_reducible repeat (first | apply Kd.S_alloc | apply Kd.S_drewN | apply Kd.S_drew)); exact Kd.S_mono HO_3.out (fun k_ hk => ⟨trivial, fun e_ => hk e_⟩))); obtain ⟨oki13, ce13, hcl13, hM13, hcc13, hfr13, hoki13, hH13⟩ := Kd.S_elem HX13.out z49 (x4_1 : Int) (of_decide_eq_true dq24) (by have h_ : (x4_1 : Int) < ((x3_1.length : Int) : Int) := of_decide_eq_true dq24; first | exact h_ | (have e_ := (Kd.S_reads' HO_3.out).1; omega) | simpa using h_); obtain ⟨ve13_2, rfl, ge13_2⟩ := k49_openM hM13; have HP13 := Kd.S_seg hH13 (of_decide_eq_true dq24) (by have h_ : (x4_1 : Int) < ((x3_1.length : Int) : Int) := of_decide_eq_true dq24; first | exact h_ | (have e_ := (Kd.S_reads' HO_3.out).1; omega) | simpa using h_) (seg := [.int .i64 t224, .string t225, .slice Ao12 t226.length co12, .int .i64 t229]) (j := 0) (show 4 ≤ 4 from by decide) (x' := (⟨t224, t225, t226, t229⟩ : S49)) (k49_mkM _ _ _ (⟨t224, t225, t226, t229⟩ : S49) (Kd.R_mono (Kd.R_tight rfl (Kd.R_mono (ok' := fun k_ => ((fun _ => True)) k_ ∧ k_ ≠ go10) (Kd.R_apart' (HO228.out) (Kd.S_typed HO_3.out) dq38) (fun k_ hk => ⟨trivial, fun e_ => (hk.2) (by rw [e_]; rfl)⟩))) (fun _ h_ => Or.inr (h_)))) (fun _ hk => hk) (fun k_ hk_ => ((Kd.R_mono (ok' := fun k_ => ((fun _ => True)) k_ ∧ k_ ≠ go10) (Kd.R_apart' (HO228.out) (Kd.S_typed HO_3.out) dq38) (fun k_ hk => ⟨trivial, fun e_ => (hk.2) (by rw [e_]; rfl)⟩))).1 k_ hk_.symm); have hx13_0 := hcc13 0 _ rfl; (try simp only [show (k49).sz = 4 from rfl, Nat.mul_one, Nat.add_zero] at hx13_0); have hf13_0 := hfr13 0; (try simp only [show (k49).sz = 4 from rfl, Nat.mul_one, Nat.add_zero] at hf13_0); have hx13_1 := hcc13 1 _ rfl; (try simp only [show (k49).sz = 4 from rfl, Nat.mul_one, Nat.add_zero] at hx13_1); have hf13_1 := hfr13 1; (try simp only [show (k49).sz = 4 from rfl, Nat.mul_one, Nat.add_zero] at hf13_1); have hx13_2 := hcc13 2 _ rfl; (try simp only [show (k49).sz = 4 from rfl, Nat.mul_one, Nat.add_zero] at hx13_2); have hf13_2 := hfr13 2; (try simp only [show (k49).sz = 4 from rfl, Nat.mul_one, Nat.add_zero] at hf13_2); have hx13_3 := hcc13 3 _ rfl; (try simp only [show (k49).sz = 4 from rfl, Nat.mul_one, Nat.add_zero] at hx13_3); have hf13_3 := hfr13 3; (try simp only [show (k49).sz = 4 from rfl, Nat.mul_one, Nat.add_zero] at hf13_3); clear hcl13 hcc13 hfr13 hM13 hoki13 hH13) | ((with_reducible refine gate_store (t := 49) (p := 21) rfl ?_); refine store_event (t := 49) (p := 21) (v := ?vo_w14) (w1 := ((((w11.setCell ⟨go10, (x4_1 : Int).toNat * 4, none⟩ (.int .i64 t224)).setCell ⟨go10, (x4_1 : Int).toNat * 4 + 1, none⟩ (.string t225)).setCell ⟨go10, (x4_1 : Int).toNat * 4 + 2, none⟩ (.slice Ao12 t226.length co12)).setCell ⟨go10, (x4_1 : Int).toNat * 4 + 3, none⟩ (.int .i64 t229))) ?hg ?ho ?hn ?hr ?_; (case ho => rfl); (case hg => rfl); (case hn => rfl); (case hr => exact dq0); intro w14 hw; have hg : w11.grownBy w14 (some go10) := (by rw [hw]; exact HP13.2); have hp_ : Kd.S k49 49 w14 w.heap.size (fun _ => True) (.slice (some ⟨go10, 0, none⟩) x3_1.length co10) y230 := (by rw [hw, Ny230.out]; exact HP13.1); clear HP13; have n0_ := Aside0.mk (hp_); have n1_ := Aside0.mk ((by rw [hw]; exact below_set (below_set (below_set (below_set (HB.out) GB10.out) GB10.out) GB10.out) GB10.out : Below w.heap.size w w14)); clear HO_3; clear HB; clear HO228; have HO_3 := n0_; have HB := n1_; clear n0_ n1_; clear hg hw hp_))
  go_roundg k1
  case measure => have := HK1.out; omega
  case rel => exact ⟨(y230), (wrap64 (x4_1 + 1)), dq17, H', ⟨dq25⟩, ⟨dq67⟩, ⟨dq19⟩⟩

/-! ### laws_eqInt64S: function 13 -/
def laws_eqInt64S.l0 : Nat → List Int → List Int → Int → Option (Bool)
 | 0, _, _, _ => none
 | k + 1, x0, x1, x5 => if x5 < (x0.length : Int) then (if 0 ≤ x5 then (if x5 < (x1.length : Int) then (if (rd x0 x5) = (rd x1 x5) then (laws_eqInt64S.l0 k x0 x1 (wrap64 (x5 + 1))) else (some false)) else (none)) else (none)) else (some true)
def laws_eqInt64S.f (k : Nat) (l0 : List Int) (l1 : List Int) : Option (Bool) := if (l0.length : Int) = (l1.length : Int) then (laws_eqInt64S.l0 k l0 l1 0) else (some false)
set_option maxHeartbeats 8000000 in
set_option maxRecDepth 100000 in
theorem laws_eqInt64S.calls (k : Nat) (A0 : Option Addr) (c0 : Nat) (l0 : List Int) (A1 : Option Addr) (c1 : Nat) (l1 : List Int) (r : Bool) (w : World) (hr0 : Kd.C (Kd.int .i64) w A0 l0.length l0) (hc0 : l0.length ≤ c0) (hr1 : Kd.C (Kd.int .i64) w A1 l1.length l1) (hc1 : l1.length ≤ c1) (h : laws_eqInt64S.f k l0 l1 = some r) :
  Calls Try.prog 13 #[.slice A0 l0.length c0, .slice A1 l1.length c1] w fun e w' => e = .returned (.bool r) ∧ Drawn0 w w' := by
 have HR0 := Aside0.mk hr0
 have HC0 := Aside0.mk hc0
 clear hr0 hc0
 have HR1 := Aside0.mk hr1
 have HC1 := Aside0.mk hc1
 clear hr1 hc1
 have H : (if (l0.length : Int) = (l1.length : Int) then (laws_eqInt64S.l0 k l0 l1 0) else (some false)) = some r := h
 clear h
 by_cases c3 : (l0.length : Int) = (l1.length : Int)
 rotate_left
 ·rw [if_neg c3] at H
  have c3b0 := beq_eq_false_iff_ne.mpr c3
  have c3b1 := bne_iff_ne.mpr c3
  have c3b2 : (l0.length == l1.length) = false := by first | simpa using c3 | (simp at c3 ⊢; omega)
  obtain rfl := Option.some.inj H
  go_enter Try.func13, Try.ntmps13
  go_wp2
  repeat (go_quiet (fail); try go_wp2)
  go_ret
  exact ⟨dq17, dq16⟩
 rw [if_pos c3] at H
 have c3b0 := beq_iff_eq.mpr c3
 have c3b1 := bne_eq_false_iff_eq.mpr c3
 have c3b2 : (l0.length == l1.length) = true := by first | simpa using c3 | (simp at c3 ⊢; omega)
 clear c3
 have H' := Aside0.mk H
 clear H
 go_enter Try.func13, Try.ntmps13
 go_wp2
 repeat (go_quiet (fail); try go_wp2)
 go_loopg [5] k (fun kq v5 w' => ∃ (x5_1 : Int), v5 = .int .i64 x5_1 ∧ Aside0 (laws_eqInt64S.l0 kq l0 l1 x5_1 = some r) ∧ Aside0 (kq ≤ k) ∧ Drawn0 w w')
 case atStart => exact ⟨(0), dq17, H', ⟨Nat.le_refl _⟩, dq16⟩
 clear H'
 try clear c1
 try clear p2
 try clear c3
 try clear c3b0
 try clear c3b1
 try clear c3b2
 obtain ⟨x5_1, rfl, HA, HK1, ⟨m1, rfl⟩⟩ := hrel
 cases gk with
 | zero => exact absurd HA.out (by simp [laws_eqInt64S.l0])
 | succ k1 =>
  have H := HA.out
  clear HA
  simp only [laws_eqInt64S.l0] at H
  by_cases c4 : x5_1 < (l0.length : Int)
  rotate_left
  ·rw [if_neg c4] at H
   have c4b0 := decide_eq_false c4
   clear c4
   obtain rfl := Option.some.inj H
   go_wp2
   repeat (go_quiet (fail); try go_wp2)
   go_ret
   exact ⟨dq17, dq16⟩
  rw [if_pos c4] at H
  have c4b0 := decide_eq_true c4
  clear c4
  by_cases c5 : 0 ≤ x5_1
  rotate_left
  ·rw [if_neg c5] at H
   exact absurd H dq26
  rw [if_pos c5] at H
  have c5b0 := decide_eq_true c5
  clear c5
  by_cases c6 : x5_1 < (l1.length : Int)
  rotate_left
  ·rw [if_neg c6] at H
   exact absurd H dq26
  rw [if_pos c6] at H
  have c6b0 := decide_eq_true c6
  clear c6
  by_cases c7 : (rd l0 x5_1) = (rd l1 x5_1)
  rotate_left
  ·rw [if_neg c7] at H
   have c7b0 := beq_eq_false_iff_ne.mpr c7
   have c7b1 := bne_iff_ne.mpr c7
   obtain rfl := Option.some.inj H
   have p258 : 0 ≤ (x5_1 : Int) := of_decide_eq_true dq24
   have q258 : x5_1 < (l0.length : Int) := of_decide_eq_true dq24
   obtain ⟨ad258, e258, hx258_0⟩ := Kd.at_int HR0.out x5_1 p258 q258
   cases e258
   replace p258 := eq_true p258
   replace q258 := eq_true q258
   have p259 : 0 ≤ (x5_1 : Int) := of_decide_eq_true dq24
   have q259 : x5_1 < (l1.length : Int) := of_decide_eq_true dq24
   obtain ⟨ad259, e259, hx259_0⟩ := Kd.at_int HR1.out x5_1 p259 q259
   cases e259
   replace p259 := eq_true p259
   replace q259 := eq_true q259
   go_wp2
   repeat (go_quiet (fail); try go_wp2)
   go_ret
   exact ⟨dq17, dq16⟩
  rw [if_pos c7] at H
  have c7b0 := beq_iff_eq.mpr c7
  have c7b1 := bne_eq_false_iff_eq.mpr c7
  clear c7
  have H' := Aside0.mk H
  clear H
  have p258 : 0 ≤ (x5_1 : Int) := of_decide_eq_true dq24
  have q258 : x5_1 < (l0.length : Int) := of_decide_eq_true dq24
  obtain ⟨ad258, e258, hx258_0⟩ := Kd.at_int HR0.out x5_1 p258 q258
  cases e258
  replace p258 := eq_true p258
  replace q258 := eq_true q258
  have p259 : 0 ≤ (x5_1 : Int) := of_decide_eq_true dq24
  have q259 : x5_1 < (l1.length : Int) := of_decide_eq_true dq24
  obtain ⟨ad259, e259, hx259_0⟩ := Kd.at_int HR1.out x5_1 p259 q259
  cases e259
  replace p259 := eq_true p259
  replace q259 := eq_true q259
  go_wp2
  repeat (go_quiet (fail); try go_wp2)
  go_roundg k1
  case measure => have := HK1.out; omega
  case rel => exact ⟨(wrap64 (x5_1 + 1)), dq17, H', ⟨dq25⟩, dq16⟩

/-! ### laws_eqPNode: function 40 -/
def laws_eqPNode.f (k : Nat) (a0_0 : Int) (a0_1 : ByteArray) (l0_2 : List Int) (a0_3 : Int) (a1_0 : Int) (a1_1 : ByteArray) (l1_2 : List Int) (a1_3 : Int) : Option (Bool) := if a0_0 = a1_0 then (if a0_1.toList = a1_1.toList then ((laws_eqInt64S.f k l0_2 l1_2).bind fun t262 => (if t262 = true then (if a0_3 = a1_3 then (some true) else (some false)) else (some false))) else (some false)) else (some false)
set_option maxHeartbeats 8000000 in
set_option maxRecDepth 100000 in
theorem laws_eqPNode.calls (k : Nat) (a0_0 : Int) (a0_1 : ByteArray) (A0_2 : Option Addr) (c0_2 : Nat) (l0_2 : List Int) (a0_3 : Int) (a1_0 : Int) (a1_1 : ByteArray) (A1_2 : Option Addr) (c1_2 : Nat) (l1_2 : List Int) (a1_3 : Int) (r : Bool) (w : World) (hr0_2 : Kd.C (Kd.int .i64) w A0_2 l0_2.length l0_2) (hc0_2 : l0_2.length ≤ c0_2) (hr1_2 : Kd.C (Kd.int .i64) w A1_2 l1_2.length l1_2) (hc1_2 : l1_2.length ≤ c1_2) (h : laws_eqPNode.f k a0_0 a0_1 l0_2 a0_3 a1_0 a1_1 l1_2 a1_3 = some r) :
  Calls Try.prog 40 #[.agg #[.int .i64 a0_0, .string a0_1, .slice A0_2 l0_2.length c0_2, .int .i64 a0_3], .agg #[.int .i64 a1_0, .string a1_1, .slice A1_2 l1_2.length c1_2, .int .i64 a1_3]] w fun e w' => e = .returned (.bool r) ∧ Below w.heap.size w w' := by
 have hu49 := Try.underlying49
 have HR0_2 := Aside0.mk hr0_2
 have HC0_2 := Aside0.mk hc0_2
 clear hr0_2 hc0_2
 have HR1_2 := Aside0.mk hr1_2
 have HC1_2 := Aside0.mk hc1_2
 clear hr1_2 hc1_2
 have HB := Aside0.mk (Below.refl w.heap.size w)
 have H : (if a0_0 = a1_0 then (if a0_1.toList = a1_1.toList then ((laws_eqInt64S.f k l0_2 l1_2).bind fun t262 => (if t262 = true then (if a0_3 = a1_3 then (some true) else (some false)) else (some false))) else (some false)) else (some false)) = some r := h
 clear h
 by_cases c3 : a0_0 = a1_0
 rotate_left
 ·rw [if_neg c3] at H
  have c3b0 := beq_eq_false_iff_ne.mpr c3
  have c3b1 := bne_iff_ne.mpr c3
  obtain rfl := Option.some.inj H
  go_enter Try.func40, Try.ntmps40
  go_wp2_with (first | ((with_reducible refine gate_dst (N := 2) rfl ?_); refine box_event ?hg (N := 2) ?hd (cs := #[.int .i64 a0_0, .string a0_1, .slice A0_2 l0_2.length c0_2, .int .i64 a0_3]) (t := 49) ?hr ?_; (case hd => rfl); (case hg => rfl); (case hr => exact dq0); intro gb260 hg w28 hbox hb; have n0_ := Aside0.mk (below_step dq19 hb); have n1_ := Aside0.mk (hbox); have n2_ := Aside0.mk ((dq18 : w.heap.size ≤ gb260)); have n3_ := Aside0.mk ((dq18 : w.heap.size ≤ gb260)); clear HB; have HB := n0_; have BK260 := n1_; have GW260 := n2_; have GE260 := n3_; clear n0_ n1_ n2_ n3_; clear hb hbox hg) | ((with_reducible refine gate_dst (N := 3) rfl ?_); refine box_event ?hg (N := 3) ?hd (cs := #[.int .i64 a1_0, .string a1_1, .slice A1_2 l1_2.length c1_2, .int .i64 a1_3]) (t := 49) ?hr ?_; (case hd => rfl); (case hg => rfl); (case hr => exact dq0); intro gb261 hg w29 hbox hb; have n0_ := Aside0.mk (blk_below (g := gb260) (o := .cells #[.int .i64 a0_0, .string a0_1, .slice A0_2 l0_2.length c0_2, .int .i64 a0_3] 49 (0, 0)) dq72 hb); have n1_ := Aside0.mk (below_step dq71 hb); have n2_ := Aside0.mk (hbox); have n3_ := Aside0.mk ((dq70 : w.heap.size ≤ gb261)); have n4_ := Aside0.mk ((dq70 : w.heap.size ≤ gb261)); have n5_ := Aside0.mk ((dq69 : gb260 ≠ gb261)); have n6_ := Aside0.mk ((dq68 : gb261 ≠ gb260)); clear BK260; clear HB; have BK260 := n0_; have HB := n1_; have BK261 := n2_; have GW261 := n3_; have GE261 := n4_; have NB260_261 := n5_; have NB261_260 := n6_; clear n0_ n1_ n2_ n3_ n4_ n5_ n6_; clear hb hbox hg; have hnb30 := NB260_261.out; have hnc30 := NB261_260.out; obtain ⟨⟨hcz31_0, hcz31_1, hcz31_2, hcz31_3⟩, hfz31_0, hfz31_1, hfz31_2, hfz31_3⟩ := blkC4 BK260.out; obtain ⟨⟨hcz32_0, hcz32_1, hcz32_2, hcz32_3⟩, hfz32_0, hfz32_1, hfz32_2, hfz32_3⟩ := blkC4 BK261.out))
  go_ret
  exact ⟨dq21, dq73⟩
 rw [if_pos c3] at H
 have c3b0 := beq_iff_eq.mpr c3
 have c3b1 := bne_eq_false_iff_eq.mpr c3
 clear c3
 by_cases c4 : a0_1.toList = a1_1.toList
 rotate_left
 ·rw [if_neg c4] at H
  have c4b0 := beq_eq_false_iff_ne.mpr c4
  have c4b1 := bne_iff_ne.mpr c4
  obtain rfl := Option.some.inj H
  go_enter Try.func40, Try.ntmps40
  go_wp2_with (first | ((with_reducible refine gate_dst (N := 2) rfl ?_); refine box_event ?hg (N := 2) ?hd (cs := #[.int .i64 a0_0, .string a0_1, .slice A0_2 l0_2.length c0_2, .int .i64 a0_3]) (t := 49) ?hr ?_; (case hd => rfl); (case hg => rfl); (case hr => exact dq0); intro gb260 hg w23 hbox hb; have n0_ := Aside0.mk (below_step dq19 hb); have n1_ := Aside0.mk (hbox); have n2_ := Aside0.mk ((dq18 : w.heap.size ≤ gb260)); have n3_ := Aside0.mk ((dq18 : w.heap.size ≤ gb260)); clear HB; have HB := n0_; have BK260 := n1_; have GW260 := n2_; have GE260 := n3_; clear n0_ n1_ n2_ n3_; clear hb hbox hg) | ((with_reducible refine gate_dst (N := 3) rfl ?_); refine box_event ?hg (N := 3) ?hd (cs := #[.int .i64 a1_0, .string a1_1, .slice A1_2 l1_2.length c1_2, .int .i64 a1_3]) (t := 49) ?hr ?_; (case hd => rfl); (case hg => rfl); (case hr => exact dq0); intro gb261 hg w24 hbox hb; have n0_ := Aside0.mk (blk_below (g := gb260) (o := .cells #[.int .i64 a0_0, .string a0_1, .slice A0_2 l0_2.length c0_2, .int .i64 a0_3] 49 (0, 0)) dq72 hb); have n1_ := Aside0.mk (below_step dq71 hb); have n2_ := Aside0.mk (hbox); have n3_ := Aside0.mk ((dq70 : w.heap.size ≤ gb261)); have n4_ := Aside0.mk ((dq70 : w.heap.size ≤ gb261)); have n5_ := Aside0.mk ((dq69 : gb260 ≠ gb261)); have n6_ := Aside0.mk ((dq68 : gb261 ≠ gb260)); clear BK260; clear HB; have BK260 := n0_; have HB := n1_; have BK261 := n2_; have GW261 := n3_; have GE261 := n4_; have NB260_261 := n5_; have NB261_260 := n6_; clear n0_ n1_ n2_ n3_ n4_ n5_ n6_; clear hb hbox hg; have hnb25 := NB260_261.out; have hnc25 := NB261_260.out; obtain ⟨⟨hcz26_0, hcz26_1, hcz26_2, hcz26_3⟩, hfz26_0, hfz26_1, hfz26_2, hfz26_3⟩ := blkC4 BK260.out; obtain ⟨⟨hcz27_0, hcz27_1, hcz27_2, hcz27_3⟩, hfz27_0, hfz27_1, hfz27_2, hfz27_3⟩ := blkC4 BK261.out))
  go_ret
  exact ⟨dq21, dq73⟩
 rw [if_pos c4] at H
 have c4b0 := beq_iff_eq.mpr c4
 have c4b1 := bne_eq_false_iff_eq.mpr c4
 clear c4
 replace H := Option.bind_eq_some_iff.mp H
 obtain ⟨t262, A50, H⟩ := H
 replace H : (if t262 = true then (if a0_3 = a1_3 then (some true) else (some false)) else (some false)) = some r := H
 have A5 := Aside0.mk A50
 clear A50
 by_cases c6 : t262 = true
 rotate_left
 ·replace c6 := Bool.eq_false_iff.mpr c6
  subst c6
  have H1 : (some false) = some r := by rw [if_neg (show ¬ (false = true) by decide)] at H; exact H
  clear H
  have H := H1
  clear H1
  obtain rfl := Option.some.inj H
  go_enter Try.func40, Try.ntmps40
  go_wp2_with (first | ((with_reducible refine gate_dst (N := 2) rfl ?_); refine box_event ?hg (N := 2) ?hd (cs := #[.int .i64 a0_0, .string a0_1, .slice A0_2 l0_2.length c0_2, .int .i64 a0_3]) (t := 49) ?hr ?_; (case hd => rfl); (case hg => rfl); (case hr => exact dq0); intro gb260 hg w18 hbox hb; have n0_ := Aside0.mk (below_step dq19 hb); have n1_ := Aside0.mk (hbox); have n2_ := Aside0.mk ((dq18 : w.heap.size ≤ gb260)); have n3_ := Aside0.mk ((dq18 : w.heap.size ≤ gb260)); clear HB; have HB := n0_; have BK260 := n1_; have GW260 := n2_; have GE260 := n3_; clear n0_ n1_ n2_ n3_; clear hb hbox hg) | ((with_reducible refine gate_dst (N := 3) rfl ?_); refine box_event ?hg (N := 3) ?hd (cs := #[.int .i64 a1_0, .string a1_1, .slice A1_2 l1_2.length c1_2, .int .i64 a1_3]) (t := 49) ?hr ?_; (case hd => rfl); (case hg => rfl); (case hr => exact dq0); intro gb261 hg w19 hbox hb; have n0_ := Aside0.mk (blk_below (g := gb260) (o := .cells #[.int .i64 a0_0, .string a0_1, .slice A0_2 l0_2.length c0_2, .int .i64 a0_3] 49 (0, 0)) dq72 hb); have n1_ := Aside0.mk (below_step dq71 hb); have n2_ := Aside0.mk (hbox); have n3_ := Aside0.mk ((dq70 : w.heap.size ≤ gb261)); have n4_ := Aside0.mk ((dq70 : w.heap.size ≤ gb261)); have n5_ := Aside0.mk ((dq69 : gb260 ≠ gb261)); have n6_ := Aside0.mk ((dq68 : gb261 ≠ gb260)); clear BK260; clear HB; have BK260 := n0_; have HB := n1_; have BK261 := n2_; have GW261 := n3_; have GE261 := n4_; have NB260_261 := n5_; have NB261_260 := n6_; clear n0_ n1_ n2_ n3_ n4_ n5_ n6_; clear hb hbox hg; have hnb20 := NB260_261.out; have hnc20 := NB261_260.out; obtain ⟨⟨hcz21_0, hcz21_1, hcz21_2, hcz21_3⟩, hfz21_0, hfz21_1, hfz21_2, hfz21_3⟩ := blkC4 BK260.out; obtain ⟨⟨hcz22_0, hcz22_1, hcz22_2, hcz22_3⟩, hfz22_0, hfz22_1, hfz22_2, hfz22_3⟩ := blkC4 BK261.out) | ((with_reducible refine gate_callee (f := 13) rfl ?_); refine goesL_ (some 19) rfl rfl Try.func13 dq23 rfl #[.slice A0_2 l0_2.length c0_2, .slice A1_2 l1_2.length c1_2] rfl dq22 ?_; (with_reducible refine (laws_eqInt64S.calls k _ _ l0_2 _ _ l1_2 false _ ?side1 ?side2 ?side3 ?side4 A5.out).mono ?_); (case side1 => exact dq1); (case side2 => exact HC0_2.out); (case side3 => exact dq4); (case side4 => exact HC1_2.out); rintro e w' ⟨rfl, ⟨nd, rfl⟩⟩; refine ⟨_, rfl, ?_⟩))
  go_ret
  exact ⟨dq21, dq73⟩
 subst c6
 have H1 : (if a0_3 = a1_3 then (some true) else (some false)) = some r := by rw [if_pos rfl] at H; exact H
 clear H
 have H := H1
 clear H1
 by_cases c7 : a0_3 = a1_3
 rotate_left
 ·rw [if_neg c7] at H
  have c7b0 := beq_eq_false_iff_ne.mpr c7
  have c7b1 := bne_iff_ne.mpr c7
  obtain rfl := Option.some.inj H
  go_enter Try.func40, Try.ntmps40
  go_wp2_with (first | ((with_reducible refine gate_dst (N := 2) rfl ?_); refine box_event ?hg (N := 2) ?hd (cs := #[.int .i64 a0_0, .string a0_1, .slice A0_2 l0_2.length c0_2, .int .i64 a0_3]) (t := 49) ?hr ?_; (case hd => rfl); (case hg => rfl); (case hr => exact dq0); intro gb260 hg w13 hbox hb; have n0_ := Aside0.mk (below_step dq19 hb); have n1_ := Aside0.mk (hbox); have n2_ := Aside0.mk ((dq18 : w.heap.size ≤ gb260)); have n3_ := Aside0.mk ((dq18 : w.heap.size ≤ gb260)); clear HB; have HB := n0_; have BK260 := n1_; have GW260 := n2_; have GE260 := n3_; clear n0_ n1_ n2_ n3_; clear hb hbox hg) | ((with_reducible refine gate_dst (N := 3) rfl ?_); refine box_event ?hg (N := 3) ?hd (cs := #[.int .i64 a1_0, .string a1_1, .slice A1_2 l1_2.length c1_2, .int .i64 a1_3]) (t := 49) ?hr ?_; (case hd => rfl); (case hg => rfl); (case hr => exact dq0); intro gb261 hg w14 hbox hb; have n0_ := Aside0.mk (blk_below (g := gb260) (o := .cells #[.int .i64 a0_0, .string a0_1, .slice A0_2 l0_2.length c0_2, .int .i64 a0_3] 49 (0, 0)) dq72 hb); have n1_ := Aside0.mk (below_step dq71 hb); have n2_ := Aside0.mk (hbox); have n3_ := Aside0.mk ((dq70 : w.heap.size ≤ gb261)); have n4_ := Aside0.mk ((dq70 : w.heap.size ≤ gb261)); have n5_ := Aside0.mk ((dq69 : gb260 ≠ gb261)); have n6_ := Aside0.mk ((dq68 : gb261 ≠ gb260)); clear BK260; clear HB; have BK260 := n0_; have HB := n1_; have BK261 := n2_; have GW261 := n3_; have GE261 := n4_; have NB260_261 := n5_; have NB261_260 := n6_; clear n0_ n1_ n2_ n3_ n4_ n5_ n6_; clear hb hbox hg; have hnb15 := NB260_261.out; have hnc15 := NB261_260.out; obtain ⟨⟨hcz16_0, hcz16_1, hcz16_2, hcz16_3⟩, hfz16_0, hfz16_1, hfz16_2, hfz16_3⟩ := blkC4 BK260.out; obtain ⟨⟨hcz17_0, hcz17_1, hcz17_2, hcz17_3⟩, hfz17_0, hfz17_1, hfz17_2, hfz17_3⟩ := blkC4 BK261.out) | ((with_reducible refine gate_callee (f := 13) rfl ?_); refine goesL_ (some 19) rfl rfl Try.func13 dq23 rfl #[.slice A0_2 l0_2.length c0_2, .slice A1_2 l1_2.length c1_2] rfl dq22 ?_; (with_reducible refine (laws_eqInt64S.calls k _ _ l0_2 _ _ l1_2 true _ ?side1 ?side2 ?side3 ?side4 A5.out).mono ?_); (case side1 => exact dq1); (case side2 => exact HC0_2.out); (case side3 => exact dq4); (case side4 => exact HC1_2.out); rintro e w' ⟨rfl, ⟨nd, rfl⟩⟩; refine ⟨_, rfl, ?_⟩))
  go_ret
  exact ⟨dq21, dq73⟩
 rw [if_pos c7] at H
 have c7b0 := beq_iff_eq.mpr c7
 have c7b1 := bne_eq_false_iff_eq.mpr c7
 clear c7
 obtain rfl := Option.some.inj H
 go_enter Try.func40, Try.ntmps40
 go_wp2_with (first | ((with_reducible refine gate_dst (N := 2) rfl ?_); refine box_event ?hg (N := 2) ?hd (cs := #[.int .i64 a0_0, .string a0_1, .slice A0_2 l0_2.length c0_2, .int .i64 a0_3]) (t := 49) ?hr ?_; (case hd => rfl); (case hg => rfl); (case hr => exact dq0); intro gb260 hg w8 hbox hb; have n0_ := Aside0.mk (below_step dq19 hb); have n1_ := Aside0.mk (hbox); have n2_ := Aside0.mk ((dq18 : w.heap.size ≤ gb260)); have n3_ := Aside0.mk ((dq18 : w.heap.size ≤ gb260)); clear HB; have HB := n0_; have BK260 := n1_; have GW260 := n2_; have GE260 := n3_; clear n0_ n1_ n2_ n3_; clear hb hbox hg) | ((with_reducible refine gate_dst (N := 3) rfl ?_); refine box_event ?hg (N := 3) ?hd (cs := #[.int .i64 a1_0, .string a1_1, .slice A1_2 l1_2.length c1_2, .int .i64 a1_3]) (t := 49) ?hr ?_; (case hd => rfl); (case hg => rfl); (case hr => exact dq0); intro gb261 hg w9 hbox hb; have n0_ := Aside0.mk (blk_below (g := gb260) (o := .cells #[.int .i64 a0_0, .string a0_1, .slice A0_2 l0_2.length c0_2, .int .i64 a0_3] 49 (0, 0)) dq72 hb); have n1_ := Aside0.mk (below_step dq71 hb); have n2_ := Aside0.mk (hbox); have n3_ := Aside0.mk ((dq70 : w.heap.size ≤ gb261)); have n4_ := Aside0.mk ((dq70 : w.heap.size ≤ gb261)); have n5_ := Aside0.mk ((dq69 : gb260 ≠ gb261)); have n6_ := Aside0.mk ((dq68 : gb261 ≠ gb260)); clear BK260; clear HB; have BK260 := n0_; have HB := n1_; have BK261 := n2_; have GW261 := n3_; have GE261 := n4_; have NB260_261 := n5_; have NB261_260 := n6_; clear n0_ n1_ n2_ n3_ n4_ n5_ n6_; clear hb hbox hg; have hnb10 := NB260_261.out; have hnc10 := NB261_260.out; obtain ⟨⟨hcz11_0, hcz11_1, hcz11_2, hcz11_3⟩, hfz11_0, hfz11_1, hfz11_2, hfz11_3⟩ := blkC4 BK260.out; obtain ⟨⟨hcz12_0, hcz12_1, hcz12_2, hcz12_3⟩, hfz12_0, hfz12_1, hfz12_2, hfz12_3⟩ := blkC4 BK261.out) | ((with_reducible refine gate_callee (f := 13) rfl ?_); refine goesL_ (some 19) rfl rfl Try.func13 dq23 rfl #[.slice A0_2 l0_2.length c0_2, .slice A1_2 l1_2.length c1_2] rfl dq22 ?_; (with_reducible refine (laws_eqInt64S.calls k _ _ l0_2 _ _ l1_2 true _ ?side1 ?side2 ?side3 ?side4 A5.out).mono ?_); (case side1 => exact dq1); (case side2 => exact HC0_2.out); (case side3 => exact dq4); (case side4 => exact HC1_2.out); rintro e w' ⟨rfl, ⟨nd, rfl⟩⟩; refine ⟨_, rfl, ?_⟩))
 go_ret
 exact ⟨dq21, dq73⟩

/-! ### laws_eqPNodeS: function 14 -/
def laws_eqPNodeS.l0 : Nat → List (S49) → List (S49) → Int → Option (Bool)
 | 0, _, _, _ => none
 | k + 1, x0, x1, x5 => if x5 < (x0.length : Int) then (if 0 ≤ x5 then (if x5 < (x1.length : Int) then ((laws_eqPNode.f k ((rd_T49 x0 x5).f0) ((rd_T49 x0 x5).f1) ((rd_T49 x0 x5).f2) ((rd_T49 x0 x5).f3) ((rd_T49 x1 x5).f0) ((rd_T49 x1 x5).f1) ((rd_T49 x1 x5).f2) ((rd_T49 x1 x5).f3)).bind fun t265 => (if t265 = true then (laws_eqPNodeS.l0 k x0 x1 (wrap64 (x5 + 1))) else (some false))) else (none)) else (none)) else (some true)
def laws_eqPNodeS.f (k : Nat) (l0 : List (S49)) (l1 : List (S49)) : Option (Bool) := if (l0.length : Int) = (l1.length : Int) then (laws_eqPNodeS.l0 k l0 l1 0) else (some false)
def laws_eqPNodeS.T6 : Bool × List (List Nat × List Nat) := (true, [([], []), ([], []), ([0, 1], [0, 1]), ([2], [2]), ([], []), ([], []), ([4, 5], [4, 5]), ([6], [6]), ([3, 7], [3, 7]), ([8], [8])])
def laws_eqPNodeS.B6 : List Nat := [0, 0, 3, 7, 0, 0, 48, 112, 255, 511]
theorem laws_eqPNodeS.tab6 : rtab .any (opsOf Try.f14 6) = laws_eqPNodeS.T6 := by kernel_rfl
theorem laws_eqPNodeS.bits6 : waitsOk laws_eqPNodeS.T6.2 laws_eqPNodeS.B6 = true := by kernel_rfl
set_option maxHeartbeats 8000000 in
set_option maxRecDepth 100000 in
theorem laws_eqPNodeS.calls (k : Nat) (A0 : Option Addr) (c0 : Nat) (l0 : List (S49)) (A1 : Option Addr) (c1 : Nat) (l1 : List (S49)) (r : Bool) (w : World) (hr0 : Kd.C k49 w A0 l0.length l0) (hc0 : l0.length ≤ c0) (hr1 : Kd.C k49 w A1 l1.length l1) (hc1 : l1.length ≤ c1) (h : laws_eqPNodeS.f k l0 l1 = some r) :
  Calls Try.prog 14 #[.slice A0 l0.length c0, .slice A1 l1.length c1] w fun e w' => e = .returned (.bool r) ∧ Below w.heap.size w w' := by
 have hu49 := Try.underlying49
 have HR0 := Aside0.mk hr0
 have HC0 := Aside0.mk hc0
 clear hr0 hc0
 have HR1 := Aside0.mk hr1
 have HC1 := Aside0.mk hc1
 clear hr1 hc1
 have HB := Aside0.mk (Below.refl w.heap.size w)
 have H : (if (l0.length : Int) = (l1.length : Int) then (laws_eqPNodeS.l0 k l0 l1 0) else (some false)) = some r := h
 clear h
 by_cases c3 : (l0.length : Int) = (l1.length : Int)
 rotate_left
 ·rw [if_neg c3] at H
  have c3b0 := beq_eq_false_iff_ne.mpr c3
  have c3b1 := bne_iff_ne.mpr c3
  have c3b2 : (l0.length == l1.length) = false := by first | simpa using c3 | (simp at c3 ⊢; omega)
  obtain rfl := Option.some.inj H
  go_enter Try.func14, Try.ntmps14
  go_wp2
  go_ret
  exact ⟨dq21, dq19⟩
 rw [if_pos c3] at H
 have c3b0 := beq_iff_eq.mpr c3
 have c3b1 := bne_eq_false_iff_eq.mpr c3
 have c3b2 : (l0.length == l1.length) = true := by first | simpa using c3 | (simp at c3 ⊢; omega)
 clear c3
 have H' := Aside0.mk H
 clear H
 go_enter Try.func14, Try.ntmps14
 go_wp2
 go_loopg [5] k (fun kq v5 w' => ∃ (x5_1 : Int), v5 = .int .i64 x5_1 ∧ Aside0 (laws_eqPNodeS.l0 kq l0 l1 x5_1 = some r) ∧ Aside0 (kq ≤ k) ∧ Aside0 (Below w.heap.size w w'))
 case atStart => exact ⟨(0), dq17, H', ⟨Nat.le_refl _⟩, ⟨dq19⟩⟩
 clear H'
 try clear c1
 try clear p2
 try clear c3
 try clear c3b0
 try clear c3b1
 try clear c3b2
 obtain ⟨x5_1, rfl, HA, HK1, HB⟩ := hrel
 cases gk with
 | zero => exact absurd HA.out (by simp [laws_eqPNodeS.l0])
 | succ k1 =>
  have H := HA.out
  clear HA
  simp only [laws_eqPNodeS.l0] at H
  by_cases c4 : x5_1 < (l0.length : Int)
  rotate_left
  ·rw [if_neg c4] at H
   have c4b0 := decide_eq_false c4
   clear c4
   obtain rfl := Option.some.inj H
   go_wp2
   go_ret
   exact ⟨dq21, dq19⟩
  rw [if_pos c4] at H
  have c4b0 := decide_eq_true c4
  clear c4
  by_cases c5 : 0 ≤ x5_1
  rotate_left
  ·rw [if_neg c5] at H
   exact absurd H dq26
  rw [if_pos c5] at H
  have c5b0 := decide_eq_true c5
  clear c5
  by_cases c6 : x5_1 < (l1.length : Int)
  rotate_left
  ·rw [if_neg c6] at H
   exact absurd H dq26
  rw [if_pos c6] at H
  have c6b0 := decide_eq_true c6
  clear c6
  replace H := Option.bind_eq_some_iff.mp H
  obtain ⟨t265, A70, H⟩ := H
  replace H : (if t265 = true then (laws_eqPNodeS.l0 k1 l0 l1 (wrap64 (x5_1 + 1))) else (some false)) = some r := H
  have A7 := Aside0.mk A70
  clear A70
  by_cases c8 : t265 = true
  rotate_left
  ·replace c8 := Bool.eq_false_iff.mpr c8
   subst c8
   have H1 : (some false) = some r := by rw [if_neg (show ¬ (false = true) by decide)] at H; exact H
   clear H
   have H := H1
   clear H1
   obtain rfl := Option.some.inj H
   try go_wp2
   have n0_ := Aside0.mk (below_drew1 HB.out)
   clear HB
   have HB := n0_
   clear n0_
   have p263 : 0 ≤ (x5_1 : Int) := of_decide_eq_true dq24
   have q263 : x5_1 < (l0.length : Int) := of_decide_eq_true dq24
   obtain ⟨ad263, A263_2, c263_2, e263, hx263_0, hx263_1, hx263_2, hx263_3, hl263_2, hi263_2⟩ := at_T49 HR0.out x5_1 p263 q263
   have hw263_3 := hx263_3
   have hw263_2 := hx263_2
   have hw263_1 := hx263_1
   have hw263_0 := hx263_0
   cases e263
   replace hx263_0 := (HB.out.cell (World.block_lt_of_cell? w _ hx263_0)).trans hx263_0
   replace hx263_1 := (HB.out.cell (World.block_lt_of_cell? w _ hx263_1)).trans hx263_1
   replace hx263_2 := (HB.out.cell (World.block_lt_of_cell? w _ hx263_2)).trans hx263_2
   replace hx263_3 := (HB.out.cell (World.block_lt_of_cell? w _ hx263_3)).trans hx263_3
   have HR263_2 := Aside0.mk hi263_2
   have HC263_2 := Aside0.mk hl263_2
   clear hi263_2 hl263_2
   replace p263 := eq_true p263
   replace q263 := eq_true q263
   have p264 : 0 ≤ (x5_1 : Int) := of_decide_eq_true dq24
   have q264 : x5_1 < (l1.length : Int) := of_decide_eq_true dq24
   obtain ⟨ad264, A264_2, c264_2, e264, hx264_0, hx264_1, hx264_2, hx264_3, hl264_2, hi264_2⟩ := at_T49 HR1.out x5_1 p264 q264
   have hw264_3 := hx264_3
   have hw264_2 := hx264_2
   have hw264_1 := hx264_1
   have hw264_0 := hx264_0
   cases e264
   replace hx264_0 := (HB.out.cell (World.block_lt_of_cell? w _ hx264_0)).trans hx264_0
   replace hx264_1 := (HB.out.cell (World.block_lt_of_cell? w _ hx264_1)).trans hx264_1
   replace hx264_2 := (HB.out.cell (World.block_lt_of_cell? w _ hx264_2)).trans hx264_2
   replace hx264_3 := (HB.out.cell (World.block_lt_of_cell? w _ hx264_3)).trans hx264_3
   have HR264_2 := Aside0.mk hi264_2
   have HC264_2 := Aside0.mk hl264_2
   clear hi264_2 hl264_2
   replace p264 := eq_true p264
   replace q264 := eq_true q264
   refine start_ (n := 10) (S := fun w' => w'.cell? (ad263.add ((x5_1).toNat * 4)) = some (.int .i64 ((rd_T49 l0 x5_1).f0)) ∧ w'.cell? ⟨(ad263.add ((x5_1).toNat * 4)).block, (ad263.add ((x5_1).toNat * 4)).off + 1, none⟩ = some (.string ((rd_T49 l0 x5_1).f1)) ∧ w'.cell? ⟨(ad263.add ((x5_1).toNat * 4)).block, (ad263.add ((x5_1).toNat * 4)).off + 2, none⟩ = some (.slice A263_2 ((rd_T49 l0 x5_1).f2).length c263_2) ∧ w'.cell? ⟨(ad263.add ((x5_1).toNat * 4)).block, (ad263.add ((x5_1).toNat * 4)).off + 3, none⟩ = some (.int .i64 ((rd_T49 l0 x5_1).f3)) ∧ w'.cell? (ad264.add ((x5_1).toNat * 4)) = some (.int .i64 ((rd_T49 l1 x5_1).f0)) ∧ w'.cell? ⟨(ad264.add ((x5_1).toNat * 4)).block, (ad264.add ((x5_1).toNat * 4)).off + 1, none⟩ = some (.string ((rd_T49 l1 x5_1).f1)) ∧ w'.cell? ⟨(ad264.add ((x5_1).toNat * 4)).block, (ad264.add ((x5_1).toNat * 4)).off + 2, none⟩ = some (.slice A264_2 ((rd_T49 l1 x5_1).f2).length c264_2) ∧ w'.cell? ⟨(ad264.add ((x5_1).toNat * 4)).block, (ad264.add ((x5_1).toNat * 4)).off + 3, none⟩ = some (.int .i64 ((rd_T49 l1 x5_1).f3))) (ds := []) #[false, false, false, false, false, false, false, false, false, false] dq23 rfl rfl ⟨((HB.out.cell (World.block_lt_of_cell? w _ hw263_0)).trans hw263_0), ((HB.out.cell (World.block_lt_of_cell? w _ hw263_1)).trans hw263_1), ((HB.out.cell (World.block_lt_of_cell? w _ hw263_2)).trans hw263_2), ((HB.out.cell (World.block_lt_of_cell? w _ hw263_3)).trans hw263_3), ((HB.out.cell (World.block_lt_of_cell? w _ hw264_0)).trans hw264_0), ((HB.out.cell (World.block_lt_of_cell? w _ hw264_1)).trans hw264_1), ((HB.out.cell (World.block_lt_of_cell? w _ hw264_2)).trans hw264_2), ((HB.out.cell (World.block_lt_of_cell? w _ hw264_3)).trans hw264_3)⟩ (fun hHeld => ?_); refine with_tabW laws_eqPNodeS.tab6 laws_eqPNodeS.bits6 (fun HT_ HW_ => ?_)
   generalize wr.drew = w11 at HB HR263_2 HR264_2 hx263_0 hx263_1 hx263_2 hx263_3 hx264_0 hx264_1 hx264_2 hx264_3 hHeld ⊢
   refine pureA (i := 0) (N := some 17) #[true, false, false, false, false, false, false, false, false, false] ?_
   refine pureA (i := 1) (N := some 18) #[true, true, false, false, false, false, false, false, false, false] ?_
   refine pureA (i := 2) (N := some 19) #[true, true, true, false, false, false, false, false, false, false] ?_
   refine pureA (i := 4) (N := some 21) #[true, true, true, false, true, false, false, false, false, false] ?_
   refine pureA (i := 5) (N := some 22) #[true, true, true, false, true, true, false, false, false, false] ?_
   refine pureA (i := 6) (N := some 23) #[true, true, true, false, true, true, true, false, false, false] ?_
   refine takeA8 (i := 3) (N := some 20) #[true, true, true, true, true, true, true, false, false, false] ?_
   refine takeA8 (i := 7) (N := some 24) #[true, true, true, true, true, true, true, true, false, false] ?_
   refine one_ (i := 8) (N := some 25) #[true, true, true, true, true, true, true, true, true, false] rfl rfl (one_of HT_.out dq23) dq38 (fun K hK => ?_)
   refine goes_ Try.func40 dq23 rfl #[.agg #[.int .i64 ((rd_T49 l0 x5_1).f0), .string ((rd_T49 l0 x5_1).f1), .slice A263_2 ((rd_T49 l0 x5_1).f2).length c263_2, .int .i64 ((rd_T49 l0 x5_1).f3)], .agg #[.int .i64 ((rd_T49 l1 x5_1).f0), .string ((rd_T49 l1 x5_1).f1), .slice A264_2 ((rd_T49 l1 x5_1).f2).length c264_2, .int .i64 ((rd_T49 l1 x5_1).f3)]] (by rfl) rfl rfl dq22 ?_
   with_reducible refine (laws_eqPNode.calls k1 ((rd_T49 l0 x5_1).f0) ((rd_T49 l0 x5_1).f1) _ _ ((rd_T49 l0 x5_1).f2) ((rd_T49 l0 x5_1).f3) ((rd_T49 l1 x5_1).f0) ((rd_T49 l1 x5_1).f1) _ _ ((rd_T49 l1 x5_1).f2) ((rd_T49 l1 x5_1).f3) false _ ?side1 ?side2 ?side3 ?side4 A7.out).mono ?_
   (case side1 => repeat (first | exact (Kd.C_below HR263_2.out HB.out) | (with_reducible refine Kd.C_alloc ?_ _) | (with_reducible refine Kd.C_drewN ?_ _) | (with_reducible refine Kd.C_drew ?_)))
   (case side2 => exact HC263_2.out)
   (case side3 => repeat (first | exact (Kd.C_below HR264_2.out HB.out) | (with_reducible refine Kd.C_alloc ?_ _) | (with_reducible refine Kd.C_drewN ?_ _) | (with_reducible refine Kd.C_drew ?_)))
   (case side4 => exact HC264_2.out)
   rintro e w12 ⟨rfl, hb⟩
   refine ⟨_, rfl, ?_⟩
   have n0_ := Aside0.mk (below_step dq19 hb)
   clear HB
   have HB := n0_
   clear n0_
   (try clear hb)
   (try clear hb2)
   (try clear hk)
   (try clear hi)
   refine hK.out _ _ ⟨((HB.out.cell (World.block_lt_of_cell? w _ hw263_0)).trans hw263_0), ((HB.out.cell (World.block_lt_of_cell? w _ hw263_1)).trans hw263_1), ((HB.out.cell (World.block_lt_of_cell? w _ hw263_2)).trans hw263_2), ((HB.out.cell (World.block_lt_of_cell? w _ hw263_3)).trans hw263_3), ((HB.out.cell (World.block_lt_of_cell? w _ hw264_0)).trans hw264_0), ((HB.out.cell (World.block_lt_of_cell? w _ hw264_1)).trans hw264_1), ((HB.out.cell (World.block_lt_of_cell? w _ hw264_2)).trans hw264_2), ((HB.out.cell (World.block_lt_of_cell? w _ hw264_3)).trans hw264_3)⟩ (fun hHeld => ?_)
   clear hK K
   refine norm_ (a' := ?_) ?_ ?_
   rotate_left
   ·show Act.put _ (some 25) _ = _
    simp only [Act.put, List.setIfInBounds_toArray, List.set_cons_zero, List.set_cons_succ, i64_w, i32_w]
    rfl
   refine pureA (i := 9) (N := some 26) #[true, true, true, true, true, true, true, true, true, true] ?_
   refine done_ (done_of HT_.out dq23) ?_
   try go_wp2
   go_ret
   exact ⟨dq21, dq19⟩
  subst c8
  have H1 : (laws_eqPNodeS.l0 k1 l0 l1 (wrap64 (x5_1 + 1))) = some r := by rw [if_pos rfl] at H; exact H
  clear H
  have H := H1
  clear H1
  have H' := Aside0.mk H
  clear H
  try go_wp2
  have n0_ := Aside0.mk (below_drew1 HB.out)
  clear HB
  have HB := n0_
  clear n0_
  have p263 : 0 ≤ (x5_1 : Int) := of_decide_eq_true dq24
  have q263 : x5_1 < (l0.length : Int) := of_decide_eq_true dq24
  obtain ⟨ad263, A263_2, c263_2, e263, hx263_0, hx263_1, hx263_2, hx263_3, hl263_2, hi263_2⟩ := at_T49 HR0.out x5_1 p263 q263
  have hw263_3 := hx263_3
  have hw263_2 := hx263_2
  have hw263_1 := hx263_1
  have hw263_0 := hx263_0
  cases e263
  replace hx263_0 := (HB.out.cell (World.block_lt_of_cell? w _ hx263_0)).trans hx263_0
  replace hx263_1 := (HB.out.cell (World.block_lt_of_cell? w _ hx263_1)).trans hx263_1
  replace hx263_2 := (HB.out.cell (World.block_lt_of_cell? w _ hx263_2)).trans hx263_2
  replace hx263_3 := (HB.out.cell (World.block_lt_of_cell? w _ hx263_3)).trans hx263_3
  have HR263_2 := Aside0.mk hi263_2
  have HC263_2 := Aside0.mk hl263_2
  clear hi263_2 hl263_2
  replace p263 := eq_true p263
  replace q263 := eq_true q263
  have p264 : 0 ≤ (x5_1 : Int) := of_decide_eq_true dq24
  have q264 : x5_1 < (l1.length : Int) := of_decide_eq_true dq24
  obtain ⟨ad264, A264_2, c264_2, e264, hx264_0, hx264_1, hx264_2, hx264_3, hl264_2, hi264_2⟩ := at_T49 HR1.out x5_1 p264 q264
  have hw264_3 := hx264_3
  have hw264_2 := hx264_2
  have hw264_1 := hx264_1
  have hw264_0 := hx264_0
  cases e264
  replace hx264_0 := (HB.out.cell (World.block_lt_of_cell? w _ hx264_0)).trans hx264_0
  replace hx264_1 := (HB.out.cell (World.block_lt_of_cell? w _ hx264_1)).trans hx264_1
  replace hx264_2 := (HB.out.cell (World.block_lt_of_cell? w _ hx264_2)).trans hx264_2
  replace hx264_3 := (HB.out.cell (World.block_lt_of_cell? w _ hx264_3)).trans hx264_3
  have HR264_2 := Aside0.mk hi264_2
  have HC264_2 := Aside0.mk hl264_2
  clear hi264_2 hl264_2
  replace p264 := eq_true p264
  replace q264 := eq_true q264
  refine start_ (n := 10) (S := fun w' => w'.cell? (ad263.add ((x5_1).toNat * 4)) = some (.int .i64 ((rd_T49 l0 x5_1).f0)) ∧ w'.cell? ⟨(ad263.add ((x5_1).toNat * 4)).block, (ad263.add ((x5_1).toNat * 4)).off + 1, none⟩ = some (.string ((rd_T49 l0 x5_1).f1)) ∧ w'.cell? ⟨(ad263.add ((x5_1).toNat * 4)).block, (ad263.add ((x5_1).toNat * 4)).off + 2, none⟩ = some (.slice A263_2 ((rd_T49 l0 x5_1).f2).length c263_2) ∧ w'.cell? ⟨(ad263.add ((x5_1).toNat * 4)).block, (ad263.add ((x5_1).toNat * 4)).off + 3, none⟩ = some (.int .i64 ((rd_T49 l0 x5_1).f3)) ∧ w'.cell? (ad264.add ((x5_1).toNat * 4)) = some (.int .i64 ((rd_T49 l1 x5_1).f0)) ∧ w'.cell? ⟨(ad264.add ((x5_1).toNat * 4)).block, (ad264.add ((x5_1).toNat * 4)).off + 1, none⟩ = some (.string ((rd_T49 l1 x5_1).f1)) ∧ w'.cell? ⟨(ad264.add ((x5_1).toNat * 4)).block, (ad264.add ((x5_1).toNat * 4)).off + 2, none⟩ = some (.slice A264_2 ((rd_T49 l1 x5_1).f2).length c264_2) ∧ w'.cell? ⟨(ad264.add ((x5_1).toNat * 4)).block, (ad264.add ((x5_1).toNat * 4)).off + 3, none⟩ = some (.int .i64 ((rd_T49 l1 x5_1).f3))) (ds := []) #[false, false, false, false, false, false, false, false, false, false] dq23 rfl rfl ⟨((HB.out.cell (World.block_lt_of_cell? w _ hw263_0)).trans hw263_0), ((HB.out.cell (World.block_lt_of_cell? w _ hw263_1)).trans hw263_1), ((HB.out.cell (World.block_lt_of_cell? w _ hw263_2)).trans hw263_2), ((HB.out.cell (World.block_lt_of_cell? w _ hw263_3)).trans hw263_3), ((HB.out.cell (World.block_lt_of_cell? w _ hw264_0)).trans hw264_0), ((HB.out.cell (World.block_lt_of_cell? w _ hw264_1)).trans hw264_1), ((HB.out.cell (World.block_lt_of_cell? w _ hw264_2)).trans hw264_2), ((HB.out.cell (World.block_lt_of_cell? w _ hw264_3)).trans hw264_3)⟩ (fun hHeld => ?_); refine with_tabW laws_eqPNodeS.tab6 laws_eqPNodeS.bits6 (fun HT_ HW_ => ?_)
  generalize wr.drew = w9 at HB HR263_2 HR264_2 hx263_0 hx263_1 hx263_2 hx263_3 hx264_0 hx264_1 hx264_2 hx264_3 hHeld ⊢
  refine pureA (i := 0) (N := some 17) #[true, false, false, false, false, false, false, false, false, false] ?_
  refine pureA (i := 1) (N := some 18) #[true, true, false, false, false, false, false, false, false, false] ?_
  refine pureA (i := 2) (N := some 19) #[true, true, true, false, false, false, false, false, false, false] ?_
  refine pureA (i := 4) (N := some 21) #[true, true, true, false, true, false, false, false, false, false] ?_
  refine pureA (i := 5) (N := some 22) #[true, true, true, false, true, true, false, false, false, false] ?_
  refine pureA (i := 6) (N := some 23) #[true, true, true, false, true, true, true, false, false, false] ?_
  refine takeA8 (i := 3) (N := some 20) #[true, true, true, true, true, true, true, false, false, false] ?_
  refine takeA8 (i := 7) (N := some 24) #[true, true, true, true, true, true, true, true, false, false] ?_
  refine one_ (i := 8) (N := some 25) #[true, true, true, true, true, true, true, true, true, false] rfl rfl (one_of HT_.out dq23) dq38 (fun K hK => ?_)
  refine goes_ Try.func40 dq23 rfl #[.agg #[.int .i64 ((rd_T49 l0 x5_1).f0), .string ((rd_T49 l0 x5_1).f1), .slice A263_2 ((rd_T49 l0 x5_1).f2).length c263_2, .int .i64 ((rd_T49 l0 x5_1).f3)], .agg #[.int .i64 ((rd_T49 l1 x5_1).f0), .string ((rd_T49 l1 x5_1).f1), .slice A264_2 ((rd_T49 l1 x5_1).f2).length c264_2, .int .i64 ((rd_T49 l1 x5_1).f3)]] (by rfl) rfl rfl dq22 ?_
  with_reducible refine (laws_eqPNode.calls k1 ((rd_T49 l0 x5_1).f0) ((rd_T49 l0 x5_1).f1) _ _ ((rd_T49 l0 x5_1).f2) ((rd_T49 l0 x5_1).f3) ((rd_T49 l1 x5_1).f0) ((rd_T49 l1 x5_1).f1) _ _ ((rd_T49 l1 x5_1).f2) ((rd_T49 l1 x5_1).f3) true _ ?side1 ?side2 ?side3 ?side4 A7.out).mono ?_
  (case side1 => repeat (first | exact (Kd.C_below HR263_2.out HB.out) | (with_reducible refine Kd.C_alloc ?_ _) | (with_reducible refine Kd.C_drewN ?_ _) | (with_reducible refine Kd.C_drew ?_)))
  (case side2 => exact HC263_2.out)
  (case side3 => repeat (first | exact (Kd.C_below HR264_2.out HB.out) | (with_reducible refine Kd.C_alloc ?_ _) | (with_reducible refine Kd.C_drewN ?_ _) | (with_reducible refine Kd.C_drew ?_)))
  (case side4 => exact HC264_2.out)
  rintro e w10 ⟨rfl, hb⟩
  refine ⟨_, rfl, ?_⟩
  have n0_ := Aside0.mk (below_step dq19 hb)
  clear HB
  have HB := n0_
  clear n0_
  (try clear hb)
  (try clear hb2)
  (try clear hk)
  (try clear hi)
  refine hK.out _ _ ⟨((HB.out.cell (World.block_lt_of_cell? w _ hw263_0)).trans hw263_0), ((HB.out.cell (World.block_lt_of_cell? w _ hw263_1)).trans hw263_1), ((HB.out.cell (World.block_lt_of_cell? w _ hw263_2)).trans hw263_2), ((HB.out.cell (World.block_lt_of_cell? w _ hw263_3)).trans hw263_3), ((HB.out.cell (World.block_lt_of_cell? w _ hw264_0)).trans hw264_0), ((HB.out.cell (World.block_lt_of_cell? w _ hw264_1)).trans hw264_1), ((HB.out.cell (World.block_lt_of_cell? w _ hw264_2)).trans hw264_2), ((HB.out.cell (World.block_lt_of_cell? w _ hw264_3)).trans hw264_3)⟩ (fun hHeld => ?_)
  clear hK K
  refine norm_ (a' := ?_) ?_ ?_
  rotate_left
  ·show Act.put _ (some 25) _ = _
   simp only [Act.put, List.setIfInBounds_toArray, List.set_cons_zero, List.set_cons_succ, i64_w, i32_w]
   rfl
  refine pureA (i := 9) (N := some 26) #[true, true, true, true, true, true, true, true, true, true] ?_
  refine done_ (done_of HT_.out dq23) ?_
  try go_wp2
  go_roundg k1
  case measure => have := HK1.out; omega
  case rel => exact ⟨(wrap64 (x5_1 + 1)), dq17, H', ⟨dq25⟩, ⟨dq19⟩⟩

/-! ### laws_markInt64S: function 16 -/
def laws_markInt64S.l0 : Nat → List Int → Int → Int → Option (Int × List Int)
 | 0, _, _, _ => none
 | k + 1, x0, x1, x5 => if x5 < (x0.length : Int) then (if 0 ≤ x5 then (laws_markInt64S.l0 k (x0.set (x5 : Int).toNat x1) (wrap64 (x1 + 1)) (wrap64 (x5 + 1))) else (none)) else (some (x1, x0))
def laws_markInt64S.f (k : Nat) (l0 : List Int) (a1 : Int) : Option (Int × List Int) := laws_markInt64S.l0 k l0 a1 0
set_option maxHeartbeats 8000000 in
set_option maxRecDepth 100000 in
theorem laws_markInt64S.calls (k : Nat) (P0_ : Nat → Prop) (u9000_ : Value) (l0 : List Int) (a1 : Int) (r1 : Int) (r2 : List Int) (w0 w : World) (hB : Below w0.heap.size w0 w) (ho0 : Kd.R (Kd.int .i64) 2 w w0.heap.size P0_ u9000_ l0) (h : laws_markInt64S.f k l0 a1 = some (r1, r2)) :
  Calls Try.prog 16 #[u9000_, .int .i64 a1] w fun e w' => e = .returned (.int .i64 r1) ∧ Kd.R (Kd.int .i64) 2 w' w0.heap.size (fun k_ => (P0_ k_ ∨ w.heap.size ≤ k_)) u9000_ r2 ∧ Below w0.heap.size w0 w' ∧ Kept w w' (fun k_ => P0_ k_) := by
 have HO0 := Aside0.mk (show Kd.R (Kd.int .i64) 2 w w0.heap.size (fun k_ => (P0_ k_ ∨ w.heap.size ≤ k_)) u9000_ l0 from Kd.R_mono ho0 (fun k_ hk => (.inl hk)))
 have HK := Aside0.mk (Kept.refl w (fun k_ => P0_ k_))
 have HW0 := Aside0.mk hB.size
 have HB := Aside0.mk hB
 clear hB
 have H : (laws_markInt64S.l0 k l0 a1 0) = some (r1, r2) := h
 clear h
 have H' := Aside0.mk H
 clear H
 go_enter Try.func16, Try.ntmps16
 go_wp2
 go_loopg [1, 5] k (fun kq v1 v5 w' => ∃ (x0_1 : List Int) (x1_1 : Int) (x5_1 : Int), v1 = .int .i64 x1_1 ∧ v5 = .int .i64 x5_1 ∧ Aside0 (laws_markInt64S.l0 kq x0_1 x1_1 x5_1 = some (r1, r2)) ∧ Aside0 (kq ≤ k) ∧ Aside0 (Kd.R (Kd.int .i64) 2 w' w0.heap.size (fun k_ => (P0_ k_ ∨ w.heap.size ≤ k_)) u9000_ x0_1) ∧ Aside0 (Kept w w' (fun k_ => P0_ k_)) ∧ Aside0 (Below w0.heap.size w0 w'))
 case atStart => exact ⟨(l0), (a1), (0), dq17, dq17, H', ⟨Nat.le_refl _⟩, ⟨by (with_reducible repeat (first | apply Kd.R_alloc | apply Kd.R_drewN | apply Kd.R_drew)); exact HO0.out⟩, ⟨dq74⟩, ⟨dq19⟩⟩
 clear H'
 try clear c1
 try clear p2
 obtain ⟨x0_1, x1_1, x5_1, rfl, rfl, HA, HK1, HO_0, HK, HB⟩ := hrel
 cases gk with
 | zero => exact absurd HA.out (by simp [laws_markInt64S.l0])
 | succ k1 =>
  have H := HA.out
  clear HA
  simp only [laws_markInt64S.l0] at H
  by_cases c3 : x5_1 < (x0_1.length : Int)
  rotate_left
  ·rw [if_neg c3] at H
   have c3b0 := decide_eq_false c3
   clear c3
   simp only [Option.some.injEq, Prod.mk.injEq] at H
   obtain ⟨rfl, rfl⟩ := H
   obtain ⟨Ao9, co9, eo9⟩ := Kd.R_slice HO_0.out
   subst eo9
   go_wp2
   go_ret
   exact ⟨dq21, by (with_reducible repeat (first | apply Kd.R_alloc | apply Kd.R_drewN | apply Kd.R_drew)); exact HO_0.out, dq19, dq74⟩
  rw [if_pos c3] at H
  have c3b0 := decide_eq_true c3
  clear c3
  by_cases c4 : 0 ≤ x5_1
  rotate_left
  ·rw [if_neg c4] at H
   exact absurd H dq26
  rw [if_pos c4] at H
  have c4b0 := decide_eq_true c4
  clear c4
  obtain ⟨y269, hy269⟩ : ∃ y_ : List Int, y_ = (x0_1.set (x5_1 : Int).toNat x1_1) := ⟨_, rfl⟩
  replace H : (laws_markInt64S.l0 k1 y269 (wrap64 (x1_1 + 1)) (wrap64 (x5_1 + 1))) = some (r1, r2) := by first | (rw [hy269]; with_reducible exact H) | (have H2_ := (Option.bind_some _ _).symm.trans H; rw [hy269]; with_reducible exact H2_) | (have H2_ := (Option.bind_some _ _).symm.trans H; with_reducible exact H2_) | with_reducible exact H | (rw [hy269]; exact H) | exact H
  have Ny269 := Aside0.mk hy269
  clear hy269
  have H' := Aside0.mk H
  clear H
  obtain ⟨Ao6, co6, eo6⟩ := Kd.R_slice HO_0.out
  subst eo6
  have p5 : 0 ≤ (x5_1 : Int) := of_decide_eq_true dq24
  have q5 : (x5_1 : Int) < ((x0_1.length : Int) : Int) := of_decide_eq_true dq24
  obtain ⟨go5, co5, eo5, gb5, gl5, cl5, HG5⟩ := Kd.R_form HO_0.out dq27
  (first | cases eo5 | (injection eo5 with ea_ en_ ec_; (first | subst ea_ | (injection ea_ with ea_; subst ea_)); subst ec_; clear en_))
  have GB5 := Aside0.mk gb5
  have GG5 := Aside0.mk HG5
  clear gb5 gl5 HG5
  have HMgo5 := Aside0.mk (show (P0_ go5 ∨ w.heap.size ≤ go5) from (HO_0.out.1 _ rfl))
  obtain ⟨hx5_0, hf5_0⟩ := Kd.R_celln 0 HO_0.out (x5_1 : Int) p5 q5
  replace p5 := eq_true p5
  replace q5 := eq_true q5
  have HP7 := Kd.R_putg HO_0.out (x5_1 : Int) x1_1
  go_wp2_with (first | ((with_reducible refine gate_store (t := 2) (p := 15) rfl ?_); refine store_event (t := 2) (p := 15) (v := ?vo_w8) (w1 := (wr.setCell ⟨go5, (x5_1 : Int).toNat, none⟩ (.int .i64 x1_1))) ?hg ?ho ?hn ?hr ?_; (case ho => rfl); (case hg => rfl); (case hn => rfl); (case hr => exact dq0); intro w8 hw; have hg : wr.grownBy w8 (some go5) := (by rw [hw]; exact HP7.2); have hp_ : Kd.R (Kd.int .i64) 2 w8 w0.heap.size (fun k_ => (P0_ k_ ∨ w.heap.size ≤ k_)) (.slice (some ⟨go5, 0, none⟩) x0_1.length co6) y269 := (by rw [hw, Ny269.out]; exact HP7.1); clear HP7; have n0_ := Aside0.mk (hp_); have n1_ := Aside0.mk ((by rw [hw]; exact below_set (HB.out) GB5.out : Below w0.heap.size w0 w8)); have n2_ := Aside0.mk (Kept.of_grown (S := (fun k_ => P0_ k_)) hg dq74 (fun k_ e_ => (HO_0.out.1 k_ e_))); clear HO_0; clear HB; clear HK; have HO_0 := n0_; have HB := n1_; have HK := n2_; clear n0_ n1_ n2_; clear hg hw hp_))
  go_roundg k1
  case measure => have := HK1.out; omega
  case rel => exact ⟨(y269), (wrap64 (x1_1 + 1)), (wrap64 (x5_1 + 1)), dq17, dq17, H', ⟨dq25⟩, ⟨by (with_reducible repeat (first | apply Kd.R_alloc | apply Kd.R_drewN | apply Kd.R_drew)); exact HO_0.out⟩, ⟨dq74⟩, ⟨dq19⟩⟩

/-! ### laws_heldInt64S: function 17 -/
def laws_heldInt64S.l0 : Nat → List Int → Int → Int → Option (Int)
 | 0, _, _, _ => none
 | k + 1, x0, x1, x5 => if x5 < (x0.length : Int) then (if 0 ≤ x5 then (if (rd x0 x5) = x1 then (laws_heldInt64S.l0 k x0 (wrap64 (x1 + 1)) (wrap64 (x5 + 1))) else (some (-1))) else (none)) else (some x1)
def laws_heldInt64S.f (k : Nat) (l0 : List Int) (a1 : Int) : Option (Int) := laws_heldInt64S.l0 k l0 a1 0
set_option maxHeartbeats 8000000 in
set_option maxRecDepth 100000 in
theorem laws_heldInt64S.calls (k : Nat) (A0 : Option Addr) (c0 : Nat) (l0 : List Int) (a1 : Int) (r : Int) (w : World) (hr0 : Kd.C (Kd.int .i64) w A0 l0.length l0) (hc0 : l0.length ≤ c0) (h : laws_heldInt64S.f k l0 a1 = some r) :
  Calls Try.prog 17 #[.slice A0 l0.length c0, .int .i64 a1] w fun e w' => e = .returned (.int .i64 r) ∧ Drawn0 w w' := by
 have HR0 := Aside0.mk hr0
 have HC0 := Aside0.mk hc0
 clear hr0 hc0
 have H : (laws_heldInt64S.l0 k l0 a1 0) = some r := h
 clear h
 have H' := Aside0.mk H
 clear H
 go_enter Try.func17, Try.ntmps17
 go_wp2
 go_loopg [1, 5] k (fun kq v1 v5 w' => ∃ (x1_1 : Int) (x5_1 : Int), v1 = .int .i64 x1_1 ∧ v5 = .int .i64 x5_1 ∧ Aside0 (laws_heldInt64S.l0 kq l0 x1_1 x5_1 = some r) ∧ Aside0 (kq ≤ k) ∧ Drawn0 w w')
 case atStart => exact ⟨(a1), (0), dq17, dq17, H', ⟨Nat.le_refl _⟩, dq16⟩
 clear H'
 try clear c1
 try clear p2
 obtain ⟨x1_1, x5_1, rfl, rfl, HA, HK1, ⟨m1, rfl⟩⟩ := hrel
 cases gk with
 | zero => exact absurd HA.out (by simp [laws_heldInt64S.l0])
 | succ k1 =>
  have H := HA.out
  clear HA
  simp only [laws_heldInt64S.l0] at H
  by_cases c3 : x5_1 < (l0.length : Int)
  rotate_left
  ·rw [if_neg c3] at H
   have c3b0 := decide_eq_false c3
   clear c3
   obtain rfl := Option.some.inj H
   go_wp2
   go_ret
   exact ⟨dq17, dq16⟩
  rw [if_pos c3] at H
  have c3b0 := decide_eq_true c3
  clear c3
  by_cases c4 : 0 ≤ x5_1
  rotate_left
  ·rw [if_neg c4] at H
   exact absurd H dq26
  rw [if_pos c4] at H
  have c4b0 := decide_eq_true c4
  clear c4
  by_cases c5 : (rd l0 x5_1) = x1_1
  rotate_left
  ·rw [if_neg c5] at H
   have c5b0 := beq_eq_false_iff_ne.mpr c5
   have c5b1 := bne_iff_ne.mpr c5
   obtain rfl := Option.some.inj H
   have p270 : 0 ≤ (x5_1 : Int) := of_decide_eq_true dq24
   have q270 : x5_1 < (l0.length : Int) := of_decide_eq_true dq24
   obtain ⟨ad270, e270, hx270_0⟩ := Kd.at_int HR0.out x5_1 p270 q270
   cases e270
   replace p270 := eq_true p270
   replace q270 := eq_true q270
   go_wp2
   go_ret
   exact ⟨dq17, dq16⟩
  rw [if_pos c5] at H
  have c5b0 := beq_iff_eq.mpr c5
  have c5b1 := bne_eq_false_iff_eq.mpr c5
  clear c5
  have H' := Aside0.mk H
  clear H
  have p270 : 0 ≤ (x5_1 : Int) := of_decide_eq_true dq24
  have q270 : x5_1 < (l0.length : Int) := of_decide_eq_true dq24
  obtain ⟨ad270, e270, hx270_0⟩ := Kd.at_int HR0.out x5_1 p270 q270
  cases e270
  replace p270 := eq_true p270
  replace q270 := eq_true q270
  go_wp2
  go_roundg k1
  case measure => have := HK1.out; omega
  case rel => exact ⟨(wrap64 (x1_1 + 1)), (wrap64 (x5_1 + 1)), dq17, dq17, H', ⟨dq25⟩, dq16⟩

/-! ### impl_in: function 47 -/
def impl_in.f (a0 : Int) (a1 : Int) (a2 : Int) : Option (Bool) := if a1 ≤ a0 then (some (decide (a0 ≤ a2))) else (some false)
set_option maxHeartbeats 8000000 in
set_option maxRecDepth 100000 in
theorem impl_in.calls (a0 : Int) (a1 : Int) (a2 : Int) (r : Bool) (w : World) (h : impl_in.f a0 a1 a2 = some r) :
  Calls Try.prog 47 #[.int .i64 a0, .int .i64 a1, .int .i64 a2] w fun e w' => e = .returned (.bool r) ∧ Drawn0 w w' := by
 have H : (if a1 ≤ a0 then (some (decide (a0 ≤ a2))) else (some false)) = some r := h
 clear h
 by_cases c4 : a1 ≤ a0
 ·rw [if_pos c4] at H
  have c4b0 := decide_eq_true c4
  clear c4
  obtain rfl := Option.some.inj H
  go_enter Try.func47, Try.ntmps47
  go_wp2
  go_ret
  exact ⟨dq17, dq16⟩
 rw [if_neg c4] at H
 have c4b0 := decide_eq_false c4
 clear c4
 obtain rfl := Option.some.inj H
 go_enter Try.func47, Try.ntmps47
 go_wp2
 go_ret
 exact ⟨dq17, dq16⟩

/-! ### impl_PNode_isPosition: function 48 -/
def impl_PNode_isPosition.f (a0_0 : Int) (a0_1 : ByteArray) (l0_2 : List Int) (a0_3 : Int) : Option (Bool) := if a0_0 = 1 then (some true) else (some (a0_0 == 4))
set_option maxHeartbeats 8000000 in
set_option maxRecDepth 100000 in
theorem impl_PNode_isPosition.calls (a0_0 : Int) (a0_1 : ByteArray) (A0_2 : Option Addr) (c0_2 : Nat) (l0_2 : List Int) (a0_3 : Int) (r : Bool) (w : World) (hr0_2 : Kd.C (Kd.int .i64) w A0_2 l0_2.length l0_2) (hc0_2 : l0_2.length ≤ c0_2) (h : impl_PNode_isPosition.f a0_0 a0_1 l0_2 a0_3 = some r) :
  Calls Try.prog 48 #[.agg #[.int .i64 a0_0, .string a0_1, .slice A0_2 l0_2.length c0_2, .int .i64 a0_3]] w fun e w' => e = .returned (.bool r) ∧ Below w.heap.size w w' := by
 have hu49 := Try.underlying49
 have HR0_2 := Aside0.mk hr0_2
 have HC0_2 := Aside0.mk hc0_2
 clear hr0_2 hc0_2
 have HB := Aside0.mk (Below.refl w.heap.size w)
 have H : (if a0_0 = 1 then (some true) else (some (a0_0 == 4))) = some r := h
 clear h
 by_cases c2 : a0_0 = 1
 rotate_left
 ·rw [if_neg c2] at H
  have c2b0 := beq_eq_false_iff_ne.mpr c2
  have c2b1 := bne_iff_ne.mpr c2
  obtain rfl := Option.some.inj H
  go_enter Try.func48, Try.ntmps48
  go_wp2_with (first | ((with_reducible refine gate_dst (N := 1) rfl ?_); refine box_event ?hg (N := 1) ?hd (cs := #[.int .i64 a0_0, .string a0_1, .slice A0_2 l0_2.length c0_2, .int .i64 a0_3]) (t := 49) ?hr ?_; (case hd => rfl); (case hg => rfl); (case hr => exact dq0); intro gb231 hg w5 hbox hb; have n0_ := Aside0.mk (below_step dq19 hb); have n1_ := Aside0.mk (hbox); have n2_ := Aside0.mk ((dq18 : w.heap.size ≤ gb231)); have n3_ := Aside0.mk ((dq18 : w.heap.size ≤ gb231)); clear HB; have HB := n0_; have BK231 := n1_; have GW231 := n2_; have GE231 := n3_; clear n0_ n1_ n2_ n3_; clear hb hbox hg; obtain ⟨⟨hcz6_0, hcz6_1, hcz6_2, hcz6_3⟩, hfz6_0, hfz6_1, hfz6_2, hfz6_3⟩ := blkC4 BK231.out))
  go_ret
  exact ⟨dq21, dq75⟩
 rw [if_pos c2] at H
 have c2b0 := beq_iff_eq.mpr c2
 have c2b1 := bne_eq_false_iff_eq.mpr c2
 clear c2
 obtain rfl := Option.some.inj H
 go_enter Try.func48, Try.ntmps48
 go_wp2_with (first | ((with_reducible refine gate_dst (N := 1) rfl ?_); refine box_event ?hg (N := 1) ?hd (cs := #[.int .i64 a0_0, .string a0_1, .slice A0_2 l0_2.length c0_2, .int .i64 a0_3]) (t := 49) ?hr ?_; (case hd => rfl); (case hg => rfl); (case hr => exact dq0); intro gb231 hg w3 hbox hb; have n0_ := Aside0.mk (below_step dq19 hb); have n1_ := Aside0.mk (hbox); have n2_ := Aside0.mk ((dq18 : w.heap.size ≤ gb231)); have n3_ := Aside0.mk ((dq18 : w.heap.size ≤ gb231)); clear HB; have HB := n0_; have BK231 := n1_; have GW231 := n2_; have GE231 := n3_; clear n0_ n1_ n2_ n3_; clear hb hbox hg; obtain ⟨⟨hcz4_0, hcz4_1, hcz4_2, hcz4_3⟩, hfz4_0, hfz4_1, hfz4_2, hfz4_3⟩ := blkC4 BK231.out))
 go_ret
 exact ⟨dq21, dq75⟩

/-! ### impl_NameOk: function 75 -/
def impl_NameOk.l0 : Nat → ByteArray → Int → Int → Option (Bool)
 | 0, _, _, _ => none
 | k + 1, x0, x7, x8 => if x8 < x7 then (if 0 ≤ x8 then (if x8 < (x0.size : Int) then (if (bt x0 x8) ≥ 97 then (if (bt x0 x8) ≤ 122 then (impl_NameOk.l0 k x0 x7 (wrap64 (x8 + 1))) else (if (bt x0 x8) ≥ 65 then (if (bt x0 x8) ≤ 90 then (impl_NameOk.l0 k x0 x7 (wrap64 (x8 + 1))) else (if ((bt x0 x8) = 95) then (impl_NameOk.l0 k x0 x7 (wrap64 (x8 + 1))) else (if x8 = 0 then (some false) else (if (bt x0 x8) ≥ 48 then (if ((bt x0 x8) ≤ 57) then (impl_NameOk.l0 k x0 x7 (wrap64 (x8 + 1))) else (if (bt x0 x8) = 46 then (impl_NameOk.l0 k x0 x7 (wrap64 (x8 + 1))) else (if (bt x0 x8) = 45 then (impl_NameOk.l0 k x0 x7 (wrap64 (x8 + 1))) else (some false)))) else (if (bt x0 x8) = 46 then (impl_NameOk.l0 k x0 x7 (wrap64 (x8 + 1))) else (if (bt x0 x8) = 45 then (impl_NameOk.l0 k x0 x7 (wrap64 (x8 + 1))) else (some false))))))) else (if ((bt x0 x8) = 95) then (impl_NameOk.l0 k x0 x7 (wrap64 (x8 + 1))) else (if x8 = 0 then (some false) else (if (bt x0 x8) ≥ 48 then (if ((bt x0 x8) ≤ 57) then (impl_NameOk.l0 k x0 x7 (wrap64 (x8 + 1))) else (if (bt x0 x8) = 46 then (impl_NameOk.l0 k x0 x7 (wrap64 (x8 + 1))) else (if (bt x0 x8) = 45 then (impl_NameOk.l0 k x0 x7 (wrap64 (x8 + 1))) else (some false)))) else (if (bt x0 x8) = 46 then (impl_NameOk.l0 k x0 x7 (wrap64 (x8 + 1))) else (if (bt x0 x8) = 45 then (impl_NameOk.l0 k x0 x7 (wrap64 (x8 + 1))) else (some false)))))))) else (if (bt x0 x8) ≥ 65 then (if (bt x0 x8) ≤ 90 then (impl_NameOk.l0 k x0 x7 (wrap64 (x8 + 1))) else (if ((bt x0 x8) = 95) then (impl_NameOk.l0 k x0 x7 (wrap64 (x8 + 1))) else (if x8 = 0 then (some false) else (if (bt x0 x8) ≥ 48 then (if ((bt x0 x8) ≤ 57) then (impl_NameOk.l0 k x0 x7 (wrap64 (x8 + 1))) else (if (bt x0 x8) = 46 then (impl_NameOk.l0 k x0 x7 (wrap64 (x8 + 1))) else (if (bt x0 x8) = 45 then (impl_NameOk.l0 k x0 x7 (wrap64 (x8 + 1))) else (some false)))) else (if (bt x0 x8) = 46 then (impl_NameOk.l0 k x0 x7 (wrap64 (x8 + 1))) else (if (bt x0 x8) = 45 then (impl_NameOk.l0 k x0 x7 (wrap64 (x8 + 1))) else (some false))))))) else (if ((bt x0 x8) = 95) then (impl_NameOk.l0 k x0 x7 (wrap64 (x8 + 1))) else (if x8 = 0 then (some false) else (if (bt x0 x8) ≥ 48 then (if ((bt x0 x8) ≤ 57) then (impl_NameOk.l0 k x0 x7 (wrap64 (x8 + 1))) else (if (bt x0 x8) = 46 then (impl_NameOk.l0 k x0 x7 (wrap64 (x8 + 1))) else (if (bt x0 x8) = 45 then (impl_NameOk.l0 k x0 x7 (wrap64 (x8 + 1))) else (some false)))) else (if (bt x0 x8) = 46 then (impl_NameOk.l0 k x0 x7 (wrap64 (x8 + 1))) else (if (bt x0 x8) = 45 then (impl_NameOk.l0 k x0 x7 (wrap64 (x8 + 1))) else (some false)))))))) else (none)) else (none)) else ((impl_in.f (x0.size : Int) 1 40).bind fun t232 => (some t232))
def impl_NameOk.f (k : Nat) (a0 : ByteArray) : Option (Bool) := impl_NameOk.l0 k a0 (a0.size : Int) 0
set_option maxHeartbeats 8000000 in
set_option maxRecDepth 100000 in
theorem impl_NameOk.calls (k : Nat) (a0 : ByteArray) (r : Bool) (w : World) (h : impl_NameOk.f k a0 = some r) :
  Calls Try.prog 75 #[.string a0] w fun e w' => e = .returned (.bool r) ∧ Drawn0 w w' := by
 have H : (impl_NameOk.l0 k a0 (a0.size : Int) 0) = some r := h
 clear h
 have H' := Aside0.mk H
 clear H
 go_enter Try.func75, Try.ntmps75
 go_wp2
 go_loopg [8] k (fun kq v8 w' => ∃ (x8_1 : Int), v8 = .int .i64 x8_1 ∧ Aside0 (impl_NameOk.l0 kq a0 (a0.size : Int) x8_1 = some r) ∧ Aside0 (kq ≤ k) ∧ Drawn0 w w')
 case atStart => exact ⟨(0), dq17, H', ⟨Nat.le_refl _⟩, dq16⟩
 clear H'
 obtain ⟨x8_1, rfl, HA, HK1, ⟨m1, rfl⟩⟩ := hrel
 cases gk with
 | zero => exact absurd HA.out (by simp [impl_NameOk.l0])
 | succ k1 =>
  have H := HA.out
  clear HA
  simp only [impl_NameOk.l0] at H
  by_cases c2 : x8_1 < (a0.size : Int)
  rotate_left
  ·rw [if_neg c2] at H
   have c2b0 := decide_eq_false c2
   clear c2
   replace H := Option.bind_eq_some_iff.mp H
   obtain ⟨t232, A440, H⟩ := H
   replace H : (some t232) = some r := H
   have A44 := Aside0.mk A440
   clear A440
   obtain rfl := Option.some.inj H
   go_wp2_with (first | ((with_reducible refine gate_callee (f := 47) rfl ?_); refine goesL_ (some 58) rfl rfl Try.func47 dq23 rfl #[.int .i64 (a0.size : Int), .int .i64 1, .int .i64 40] rfl dq22 ?_; (with_reducible refine (impl_in.calls (a0.size : Int) 1 40 t232 _ A44.out).mono ?_); rintro e w' ⟨rfl, ⟨nd, rfl⟩⟩; refine ⟨_, rfl, ?_⟩))
   go_ret
   exact ⟨dq17, dq16⟩
  rw [if_pos c2] at H
  have c2b0 := decide_eq_true c2
  clear c2
  by_cases c3 : 0 ≤ x8_1
  rotate_left
  ·rw [if_neg c3] at H
   exact absurd H dq26
  rw [if_pos c3] at H
  have c3b0 := decide_eq_true c3
  clear c3
  by_cases c4 : x8_1 < (a0.size : Int)
  rotate_left
  ·rw [if_neg c4] at H
   exact absurd H dq26
  rw [if_pos c4] at H
  have c4b0 := decide_eq_true c4
  clear c4
  by_cases c6 : (bt a0 x8_1) ≥ 97
  rotate_left
  ·rw [if_neg c6] at H
   have c6b0 : decide (97 ≤ (bt a0 x8_1)) = false := decide_eq_false c6
   clear c6
   by_cases c26 : (bt a0 x8_1) ≥ 65
   rotate_left
   ·rw [if_neg c26] at H
    have c26b0 : decide (65 ≤ (bt a0 x8_1)) = false := decide_eq_false c26
    clear c26
    by_cases c36 : ((bt a0 x8_1) = 95)
    ·rw [if_pos c36] at H
     have c36b0 : ((bt a0 x8_1) == 95) = true := beq_iff_eq.mpr c36
     have c36b1 : ((bt a0 x8_1) != 95) = false := bne_eq_false_iff_eq.mpr c36
     clear c36
     have H' := Aside0.mk H
     clear H
     have p5 : 0 ≤ (x8_1 : Int) := of_decide_eq_true dq24
     have q5 : x8_1 < (a0.size : Int) := of_decide_eq_true dq24
     have hx5 := bt_at a0 x8_1
     replace p5 := eq_true p5
     replace q5 := eq_true q5
     go_wp2
     go_roundg k1
     case measure => have := HK1.out; omega
     case rel => exact ⟨(wrap64 (x8_1 + 1)), dq17, H', ⟨dq25⟩, dq16⟩
    rw [if_neg c36] at H
    have c36b0 : ((bt a0 x8_1) == 95) = false := beq_eq_false_iff_ne.mpr c36
    have c36b1 : ((bt a0 x8_1) != 95) = true := bne_iff_ne.mpr c36
    by_cases c37 : x8_1 = 0
    ·rw [if_pos c37] at H
     have c37b0 := beq_iff_eq.mpr c37
     have c37b1 := bne_eq_false_iff_eq.mpr c37
     clear c37
     obtain rfl := Option.some.inj H
     have p5 : 0 ≤ (x8_1 : Int) := of_decide_eq_true dq24
     have q5 : x8_1 < (a0.size : Int) := of_decide_eq_true dq24
     have hx5 := bt_at a0 x8_1
     replace p5 := eq_true p5
     replace q5 := eq_true q5
     go_wp2
     go_ret
     exact ⟨dq17, dq16⟩
    rw [if_neg c37] at H
    have c37b0 := beq_eq_false_iff_ne.mpr c37
    have c37b1 := bne_iff_ne.mpr c37
    by_cases c38 : (bt a0 x8_1) ≥ 48
    rotate_left
    ·rw [if_neg c38] at H
     have c38b0 : decide (48 ≤ (bt a0 x8_1)) = false := decide_eq_false c38
     clear c38
     by_cases c42 : (bt a0 x8_1) = 46
     ·rw [if_pos c42] at H
      have c42b0 := beq_iff_eq.mpr c42
      have c42b1 := bne_eq_false_iff_eq.mpr c42
      clear c42
      have H' := Aside0.mk H
      clear H
      have p5 : 0 ≤ (x8_1 : Int) := of_decide_eq_true dq24
      have q5 : x8_1 < (a0.size : Int) := of_decide_eq_true dq24
      have hx5 := bt_at a0 x8_1
      replace p5 := eq_true p5
      replace q5 := eq_true q5
      go_wp2
      go_roundg k1
      case measure => have := HK1.out; omega
      case rel => exact ⟨(wrap64 (x8_1 + 1)), dq17, H', ⟨dq25⟩, dq16⟩
     rw [if_neg c42] at H
     have c42b0 := beq_eq_false_iff_ne.mpr c42
     have c42b1 := bne_iff_ne.mpr c42
     by_cases c43 : (bt a0 x8_1) = 45
     rotate_left
     ·rw [if_neg c43] at H
      have c43b0 := beq_eq_false_iff_ne.mpr c43
      have c43b1 := bne_iff_ne.mpr c43
      obtain rfl := Option.some.inj H
      have p5 : 0 ≤ (x8_1 : Int) := of_decide_eq_true dq24
      have q5 : x8_1 < (a0.size : Int) := of_decide_eq_true dq24
      have hx5 := bt_at a0 x8_1
      replace p5 := eq_true p5
      replace q5 := eq_true q5
      go_wp2
      go_ret
      exact ⟨dq17, dq16⟩
     rw [if_pos c43] at H
     have c43b0 := beq_iff_eq.mpr c43
     have c43b1 := bne_eq_false_iff_eq.mpr c43
     clear c43
     have H' := Aside0.mk H
     clear H
     have p5 : 0 ≤ (x8_1 : Int) := of_decide_eq_true dq24
     have q5 : x8_1 < (a0.size : Int) := of_decide_eq_true dq24
     have hx5 := bt_at a0 x8_1
     replace p5 := eq_true p5
     replace q5 := eq_true q5
     go_wp2
     go_roundg k1
     case measure => have := HK1.out; omega
     case rel => exact ⟨(wrap64 (x8_1 + 1)), dq17, H', ⟨dq25⟩, dq16⟩
    rw [if_pos c38] at H
    have c38b0 : decide (48 ≤ (bt a0 x8_1)) = true := decide_eq_true c38
    clear c38
    by_cases c39 : ((bt a0 x8_1) ≤ 57)
    ·rw [if_pos c39] at H
     have c39b0 : decide ((bt a0 x8_1) ≤ 57) = true := decide_eq_true c39
     clear c39
     have H' := Aside0.mk H
     clear H
     have p5 : 0 ≤ (x8_1 : Int) := of_decide_eq_true dq24
     have q5 : x8_1 < (a0.size : Int) := of_decide_eq_true dq24
     have hx5 := bt_at a0 x8_1
     replace p5 := eq_true p5
     replace q5 := eq_true q5
     go_wp2
     go_roundg k1
     case measure => have := HK1.out; omega
     case rel => exact ⟨(wrap64 (x8_1 + 1)), dq17, H', ⟨dq25⟩, dq16⟩
    rw [if_neg c39] at H
    have c39b0 : decide ((bt a0 x8_1) ≤ 57) = false := decide_eq_false c39
    clear c39
    by_cases c40 : (bt a0 x8_1) = 46
    ·rw [if_pos c40] at H
     have c40b0 := beq_iff_eq.mpr c40
     have c40b1 := bne_eq_false_iff_eq.mpr c40
     clear c40
     have H' := Aside0.mk H
     clear H
     have p5 : 0 ≤ (x8_1 : Int) := of_decide_eq_true dq24
     have q5 : x8_1 < (a0.size : Int) := of_decide_eq_true dq24
     have hx5 := bt_at a0 x8_1
     replace p5 := eq_true p5
     replace q5 := eq_true q5
     go_wp2
     go_roundg k1
     case measure => have := HK1.out; omega
     case rel => exact ⟨(wrap64 (x8_1 + 1)), dq17, H', ⟨dq25⟩, dq16⟩
    rw [if_neg c40] at H
    have c40b0 := beq_eq_false_iff_ne.mpr c40
    have c40b1 := bne_iff_ne.mpr c40
    by_cases c41 : (bt a0 x8_1) = 45
    rotate_left
    ·rw [if_neg c41] at H
     have c41b0 := beq_eq_false_iff_ne.mpr c41
     have c41b1 := bne_iff_ne.mpr c41
     obtain rfl := Option.some.inj H
     have p5 : 0 ≤ (x8_1 : Int) := of_decide_eq_true dq24
     have q5 : x8_1 < (a0.size : Int) := of_decide_eq_true dq24
     have hx5 := bt_at a0 x8_1
     replace p5 := eq_true p5
     replace q5 := eq_true q5
     go_wp2
     go_ret
     exact ⟨dq17, dq16⟩
    rw [if_pos c41] at H
    have c41b0 := beq_iff_eq.mpr c41
    have c41b1 := bne_eq_false_iff_eq.mpr c41
    clear c41
    have H' := Aside0.mk H
    clear H
    have p5 : 0 ≤ (x8_1 : Int) := of_decide_eq_true dq24
    have q5 : x8_1 < (a0.size : Int) := of_decide_eq_true dq24
    have hx5 := bt_at a0 x8_1
    replace p5 := eq_true p5
    replace q5 := eq_true q5
    go_wp2
    go_roundg k1
    case measure => have := HK1.out; omega
    case rel => exact ⟨(wrap64 (x8_1 + 1)), dq17, H', ⟨dq25⟩, dq16⟩
   rw [if_pos c26] at H
   have c26b0 : decide (65 ≤ (bt a0 x8_1)) = true := decide_eq_true c26
   clear c26
   by_cases c27 : (bt a0 x8_1) ≤ 90
   ·rw [if_pos c27] at H
    have c27b0 := decide_eq_true c27
    clear c27
    have H' := Aside0.mk H
    clear H
    have p5 : 0 ≤ (x8_1 : Int) := of_decide_eq_true dq24
    have q5 : x8_1 < (a0.size : Int) := of_decide_eq_true dq24
    have hx5 := bt_at a0 x8_1
    replace p5 := eq_true p5
    replace q5 := eq_true q5
    go_wp2
    go_roundg k1
    case measure => have := HK1.out; omega
    case rel => exact ⟨(wrap64 (x8_1 + 1)), dq17, H', ⟨dq25⟩, dq16⟩
   rw [if_neg c27] at H
   have c27b0 := decide_eq_false c27
   clear c27
   by_cases c28 : ((bt a0 x8_1) = 95)
   ·rw [if_pos c28] at H
    have c28b0 : ((bt a0 x8_1) == 95) = true := beq_iff_eq.mpr c28
    have c28b1 : ((bt a0 x8_1) != 95) = false := bne_eq_false_iff_eq.mpr c28
    clear c28
    have H' := Aside0.mk H
    clear H
    have p5 : 0 ≤ (x8_1 : Int) := of_decide_eq_true dq24
    have q5 : x8_1 < (a0.size : Int) := of_decide_eq_true dq24
    have hx5 := bt_at a0 x8_1
    replace p5 := eq_true p5
    replace q5 := eq_true q5
    go_wp2
    go_roundg k1
    case measure => have := HK1.out; omega
    case rel => exact ⟨(wrap64 (x8_1 + 1)), dq17, H', ⟨dq25⟩, dq16⟩
   rw [if_neg c28] at H
   have c28b0 : ((bt a0 x8_1) == 95) = false := beq_eq_false_iff_ne.mpr c28
   have c28b1 : ((bt a0 x8_1) != 95) = true := bne_iff_ne.mpr c28
   by_cases c29 : x8_1 = 0
   ·rw [if_pos c29] at H
    have c29b0 := beq_iff_eq.mpr c29
    have c29b1 := bne_eq_false_iff_eq.mpr c29
    clear c29
    obtain rfl := Option.some.inj H
    have p5 : 0 ≤ (x8_1 : Int) := of_decide_eq_true dq24
    have q5 : x8_1 < (a0.size : Int) := of_decide_eq_true dq24
    have hx5 := bt_at a0 x8_1
    replace p5 := eq_true p5
    replace q5 := eq_true q5
    go_wp2
    go_ret
    exact ⟨dq17, dq16⟩
   rw [if_neg c29] at H
   have c29b0 := beq_eq_false_iff_ne.mpr c29
   have c29b1 := bne_iff_ne.mpr c29
   by_cases c30 : (bt a0 x8_1) ≥ 48
   rotate_left
   ·rw [if_neg c30] at H
    have c30b0 : decide (48 ≤ (bt a0 x8_1)) = false := decide_eq_false c30
    clear c30
    by_cases c34 : (bt a0 x8_1) = 46
    ·rw [if_pos c34] at H
     have c34b0 := beq_iff_eq.mpr c34
     have c34b1 := bne_eq_false_iff_eq.mpr c34
     clear c34
     have H' := Aside0.mk H
     clear H
     have p5 : 0 ≤ (x8_1 : Int) := of_decide_eq_true dq24
     have q5 : x8_1 < (a0.size : Int) := of_decide_eq_true dq24
     have hx5 := bt_at a0 x8_1
     replace p5 := eq_true p5
     replace q5 := eq_true q5
     go_wp2
     go_roundg k1
     case measure => have := HK1.out; omega
     case rel => exact ⟨(wrap64 (x8_1 + 1)), dq17, H', ⟨dq25⟩, dq16⟩
    rw [if_neg c34] at H
    have c34b0 := beq_eq_false_iff_ne.mpr c34
    have c34b1 := bne_iff_ne.mpr c34
    by_cases c35 : (bt a0 x8_1) = 45
    rotate_left
    ·rw [if_neg c35] at H
     have c35b0 := beq_eq_false_iff_ne.mpr c35
     have c35b1 := bne_iff_ne.mpr c35
     obtain rfl := Option.some.inj H
     have p5 : 0 ≤ (x8_1 : Int) := of_decide_eq_true dq24
     have q5 : x8_1 < (a0.size : Int) := of_decide_eq_true dq24
     have hx5 := bt_at a0 x8_1
     replace p5 := eq_true p5
     replace q5 := eq_true q5
     go_wp2
     go_ret
     exact ⟨dq17, dq16⟩
    rw [if_pos c35] at H
    have c35b0 := beq_iff_eq.mpr c35
    have c35b1 := bne_eq_false_iff_eq.mpr c35
    clear c35
    have H' := Aside0.mk H
    clear H
    have p5 : 0 ≤ (x8_1 : Int) := of_decide_eq_true dq24
    have q5 : x8_1 < (a0.size : Int) := of_decide_eq_true dq24
    have hx5 := bt_at a0 x8_1
    replace p5 := eq_true p5
    replace q5 := eq_true q5
    go_wp2
    go_roundg k1
    case measure => have := HK1.out; omega
    case rel => exact ⟨(wrap64 (x8_1 + 1)), dq17, H', ⟨dq25⟩, dq16⟩
   rw [if_pos c30] at H
   have c30b0 : decide (48 ≤ (bt a0 x8_1)) = true := decide_eq_true c30
   clear c30
   by_cases c31 : ((bt a0 x8_1) ≤ 57)
   ·rw [if_pos c31] at H
    have c31b0 : decide ((bt a0 x8_1) ≤ 57) = true := decide_eq_true c31
    clear c31
    have H' := Aside0.mk H
    clear H
    have p5 : 0 ≤ (x8_1 : Int) := of_decide_eq_true dq24
    have q5 : x8_1 < (a0.size : Int) := of_decide_eq_true dq24
    have hx5 := bt_at a0 x8_1
    replace p5 := eq_true p5
    replace q5 := eq_true q5
    go_wp2
    go_roundg k1
    case measure => have := HK1.out; omega
    case rel => exact ⟨(wrap64 (x8_1 + 1)), dq17, H', ⟨dq25⟩, dq16⟩
   rw [if_neg c31] at H
   have c31b0 : decide ((bt a0 x8_1) ≤ 57) = false := decide_eq_false c31
   clear c31
   by_cases c32 : (bt a0 x8_1) = 46
   ·rw [if_pos c32] at H
    have c32b0 := beq_iff_eq.mpr c32
    have c32b1 := bne_eq_false_iff_eq.mpr c32
    clear c32
    have H' := Aside0.mk H
    clear H
    have p5 : 0 ≤ (x8_1 : Int) := of_decide_eq_true dq24
    have q5 : x8_1 < (a0.size : Int) := of_decide_eq_true dq24
    have hx5 := bt_at a0 x8_1
    replace p5 := eq_true p5
    replace q5 := eq_true q5
    go_wp2
    go_roundg k1
    case measure => have := HK1.out; omega
    case rel => exact ⟨(wrap64 (x8_1 + 1)), dq17, H', ⟨dq25⟩, dq16⟩
   rw [if_neg c32] at H
   have c32b0 := beq_eq_false_iff_ne.mpr c32
   have c32b1 := bne_iff_ne.mpr c32
   by_cases c33 : (bt a0 x8_1) = 45
   rotate_left
   ·rw [if_neg c33] at H
    have c33b0 := beq_eq_false_iff_ne.mpr c33
    have c33b1 := bne_iff_ne.mpr c33
    obtain rfl := Option.some.inj H
    have p5 : 0 ≤ (x8_1 : Int) := of_decide_eq_true dq24
    have q5 : x8_1 < (a0.size : Int) := of_decide_eq_true dq24
    have hx5 := bt_at a0 x8_1
    replace p5 := eq_true p5
    replace q5 := eq_true q5
    go_wp2
    go_ret
    exact ⟨dq17, dq16⟩
   rw [if_pos c33] at H
   have c33b0 := beq_iff_eq.mpr c33
   have c33b1 := bne_eq_false_iff_eq.mpr c33
   clear c33
   have H' := Aside0.mk H
   clear H
   have p5 : 0 ≤ (x8_1 : Int) := of_decide_eq_true dq24
   have q5 : x8_1 < (a0.size : Int) := of_decide_eq_true dq24
   have hx5 := bt_at a0 x8_1
   replace p5 := eq_true p5
   replace q5 := eq_true q5
   go_wp2
   go_roundg k1
   case measure => have := HK1.out; omega
   case rel => exact ⟨(wrap64 (x8_1 + 1)), dq17, H', ⟨dq25⟩, dq16⟩
  rw [if_pos c6] at H
  have c6b0 : decide (97 ≤ (bt a0 x8_1)) = true := decide_eq_true c6
  clear c6
  by_cases c7 : (bt a0 x8_1) ≤ 122
  ·rw [if_pos c7] at H
   have c7b0 := decide_eq_true c7
   clear c7
   have H' := Aside0.mk H
   clear H
   have p5 : 0 ≤ (x8_1 : Int) := of_decide_eq_true dq24
   have q5 : x8_1 < (a0.size : Int) := of_decide_eq_true dq24
   have hx5 := bt_at a0 x8_1
   replace p5 := eq_true p5
   replace q5 := eq_true q5
   go_wp2
   go_roundg k1
   case measure => have := HK1.out; omega
   case rel => exact ⟨(wrap64 (x8_1 + 1)), dq17, H', ⟨dq25⟩, dq16⟩
  rw [if_neg c7] at H
  have c7b0 := decide_eq_false c7
  clear c7
  by_cases c8 : (bt a0 x8_1) ≥ 65
  rotate_left
  ·rw [if_neg c8] at H
   have c8b0 : decide (65 ≤ (bt a0 x8_1)) = false := decide_eq_false c8
   clear c8
   by_cases c18 : ((bt a0 x8_1) = 95)
   ·rw [if_pos c18] at H
    have c18b0 : ((bt a0 x8_1) == 95) = true := beq_iff_eq.mpr c18
    have c18b1 : ((bt a0 x8_1) != 95) = false := bne_eq_false_iff_eq.mpr c18
    clear c18
    have H' := Aside0.mk H
    clear H
    have p5 : 0 ≤ (x8_1 : Int) := of_decide_eq_true dq24
    have q5 : x8_1 < (a0.size : Int) := of_decide_eq_true dq24
    have hx5 := bt_at a0 x8_1
    replace p5 := eq_true p5
    replace q5 := eq_true q5
    go_wp2
    go_roundg k1
    case measure => have := HK1.out; omega
    case rel => exact ⟨(wrap64 (x8_1 + 1)), dq17, H', ⟨dq25⟩, dq16⟩
   rw [if_neg c18] at H
   have c18b0 : ((bt a0 x8_1) == 95) = false := beq_eq_false_iff_ne.mpr c18
   have c18b1 : ((bt a0 x8_1) != 95) = true := bne_iff_ne.mpr c18
   by_cases c19 : x8_1 = 0
   ·rw [if_pos c19] at H
    have c19b0 := beq_iff_eq.mpr c19
    have c19b1 := bne_eq_false_iff_eq.mpr c19
    clear c19
    obtain rfl := Option.some.inj H
    have p5 : 0 ≤ (x8_1 : Int) := of_decide_eq_true dq24
    have q5 : x8_1 < (a0.size : Int) := of_decide_eq_true dq24
    have hx5 := bt_at a0 x8_1
    replace p5 := eq_true p5
    replace q5 := eq_true q5
    go_wp2
    go_ret
    exact ⟨dq17, dq16⟩
   rw [if_neg c19] at H
   have c19b0 := beq_eq_false_iff_ne.mpr c19
   have c19b1 := bne_iff_ne.mpr c19
   by_cases c20 : (bt a0 x8_1) ≥ 48
   rotate_left
   ·rw [if_neg c20] at H
    have c20b0 : decide (48 ≤ (bt a0 x8_1)) = false := decide_eq_false c20
    clear c20
    by_cases c24 : (bt a0 x8_1) = 46
    ·rw [if_pos c24] at H
     have c24b0 := beq_iff_eq.mpr c24
     have c24b1 := bne_eq_false_iff_eq.mpr c24
     clear c24
     have H' := Aside0.mk H
     clear H
     have p5 : 0 ≤ (x8_1 : Int) := of_decide_eq_true dq24
     have q5 : x8_1 < (a0.size : Int) := of_decide_eq_true dq24
     have hx5 := bt_at a0 x8_1
     replace p5 := eq_true p5
     replace q5 := eq_true q5
     go_wp2
     go_roundg k1
     case measure => have := HK1.out; omega
     case rel => exact ⟨(wrap64 (x8_1 + 1)), dq17, H', ⟨dq25⟩, dq16⟩
    rw [if_neg c24] at H
    have c24b0 := beq_eq_false_iff_ne.mpr c24
    have c24b1 := bne_iff_ne.mpr c24
    by_cases c25 : (bt a0 x8_1) = 45
    rotate_left
    ·rw [if_neg c25] at H
     have c25b0 := beq_eq_false_iff_ne.mpr c25
     have c25b1 := bne_iff_ne.mpr c25
     obtain rfl := Option.some.inj H
     have p5 : 0 ≤ (x8_1 : Int) := of_decide_eq_true dq24
     have q5 : x8_1 < (a0.size : Int) := of_decide_eq_true dq24
     have hx5 := bt_at a0 x8_1
     replace p5 := eq_true p5
     replace q5 := eq_true q5
     go_wp2
     go_ret
     exact ⟨dq17, dq16⟩
    rw [if_pos c25] at H
    have c25b0 := beq_iff_eq.mpr c25
    have c25b1 := bne_eq_false_iff_eq.mpr c25
    clear c25
    have H' := Aside0.mk H
    clear H
    have p5 : 0 ≤ (x8_1 : Int) := of_decide_eq_true dq24
    have q5 : x8_1 < (a0.size : Int) := of_decide_eq_true dq24
    have hx5 := bt_at a0 x8_1
    replace p5 := eq_true p5
    replace q5 := eq_true q5
    go_wp2
    go_roundg k1
    case measure => have := HK1.out; omega
    case rel => exact ⟨(wrap64 (x8_1 + 1)), dq17, H', ⟨dq25⟩, dq16⟩
   rw [if_pos c20] at H
   have c20b0 : decide (48 ≤ (bt a0 x8_1)) = true := decide_eq_true c20
   clear c20
   by_cases c21 : ((bt a0 x8_1) ≤ 57)
   ·rw [if_pos c21] at H
    have c21b0 : decide ((bt a0 x8_1) ≤ 57) = true := decide_eq_true c21
    clear c21
    have H' := Aside0.mk H
    clear H
    have p5 : 0 ≤ (x8_1 : Int) := of_decide_eq_true dq24
    have q5 : x8_1 < (a0.size : Int) := of_decide_eq_true dq24
    have hx5 := bt_at a0 x8_1
    replace p5 := eq_true p5
    replace q5 := eq_true q5
    go_wp2
    go_roundg k1
    case measure => have := HK1.out; omega
    case rel => exact ⟨(wrap64 (x8_1 + 1)), dq17, H', ⟨dq25⟩, dq16⟩
   rw [if_neg c21] at H
   have c21b0 : decide ((bt a0 x8_1) ≤ 57) = false := decide_eq_false c21
   clear c21
   by_cases c22 : (bt a0 x8_1) = 46
   ·rw [if_pos c22] at H
    have c22b0 := beq_iff_eq.mpr c22
    have c22b1 := bne_eq_false_iff_eq.mpr c22
    clear c22
    have H' := Aside0.mk H
    clear H
    have p5 : 0 ≤ (x8_1 : Int) := of_decide_eq_true dq24
    have q5 : x8_1 < (a0.size : Int) := of_decide_eq_true dq24
    have hx5 := bt_at a0 x8_1
    replace p5 := eq_true p5
    replace q5 := eq_true q5
    go_wp2
    go_roundg k1
    case measure => have := HK1.out; omega
    case rel => exact ⟨(wrap64 (x8_1 + 1)), dq17, H', ⟨dq25⟩, dq16⟩
   rw [if_neg c22] at H
   have c22b0 := beq_eq_false_iff_ne.mpr c22
   have c22b1 := bne_iff_ne.mpr c22
   by_cases c23 : (bt a0 x8_1) = 45
   rotate_left
   ·rw [if_neg c23] at H
    have c23b0 := beq_eq_false_iff_ne.mpr c23
    have c23b1 := bne_iff_ne.mpr c23
    obtain rfl := Option.some.inj H
    have p5 : 0 ≤ (x8_1 : Int) := of_decide_eq_true dq24
    have q5 : x8_1 < (a0.size : Int) := of_decide_eq_true dq24
    have hx5 := bt_at a0 x8_1
    replace p5 := eq_true p5
    replace q5 := eq_true q5
    go_wp2
    go_ret
    exact ⟨dq17, dq16⟩
   rw [if_pos c23] at H
   have c23b0 := beq_iff_eq.mpr c23
   have c23b1 := bne_eq_false_iff_eq.mpr c23
   clear c23
   have H' := Aside0.mk H
   clear H
   have p5 : 0 ≤ (x8_1 : Int) := of_decide_eq_true dq24
   have q5 : x8_1 < (a0.size : Int) := of_decide_eq_true dq24
   have hx5 := bt_at a0 x8_1
   replace p5 := eq_true p5
   replace q5 := eq_true q5
   go_wp2
   go_roundg k1
   case measure => have := HK1.out; omega
   case rel => exact ⟨(wrap64 (x8_1 + 1)), dq17, H', ⟨dq25⟩, dq16⟩
  rw [if_pos c8] at H
  have c8b0 : decide (65 ≤ (bt a0 x8_1)) = true := decide_eq_true c8
  clear c8
  by_cases c9 : (bt a0 x8_1) ≤ 90
  ·rw [if_pos c9] at H
   have c9b0 := decide_eq_true c9
   clear c9
   have H' := Aside0.mk H
   clear H
   have p5 : 0 ≤ (x8_1 : Int) := of_decide_eq_true dq24
   have q5 : x8_1 < (a0.size : Int) := of_decide_eq_true dq24
   have hx5 := bt_at a0 x8_1
   replace p5 := eq_true p5
   replace q5 := eq_true q5
   go_wp2
   go_roundg k1
   case measure => have := HK1.out; omega
   case rel => exact ⟨(wrap64 (x8_1 + 1)), dq17, H', ⟨dq25⟩, dq16⟩
  rw [if_neg c9] at H
  have c9b0 := decide_eq_false c9
  clear c9
  by_cases c10 : ((bt a0 x8_1) = 95)
  ·rw [if_pos c10] at H
   have c10b0 : ((bt a0 x8_1) == 95) = true := beq_iff_eq.mpr c10
   have c10b1 : ((bt a0 x8_1) != 95) = false := bne_eq_false_iff_eq.mpr c10
   clear c10
   have H' := Aside0.mk H
   clear H
   have p5 : 0 ≤ (x8_1 : Int) := of_decide_eq_true dq24
   have q5 : x8_1 < (a0.size : Int) := of_decide_eq_true dq24
   have hx5 := bt_at a0 x8_1
   replace p5 := eq_true p5
   replace q5 := eq_true q5
   go_wp2
   go_roundg k1
   case measure => have := HK1.out; omega
   case rel => exact ⟨(wrap64 (x8_1 + 1)), dq17, H', ⟨dq25⟩, dq16⟩
  rw [if_neg c10] at H
  have c10b0 : ((bt a0 x8_1) == 95) = false := beq_eq_false_iff_ne.mpr c10
  have c10b1 : ((bt a0 x8_1) != 95) = true := bne_iff_ne.mpr c10
  by_cases c11 : x8_1 = 0
  ·rw [if_pos c11] at H
   have c11b0 := beq_iff_eq.mpr c11
   have c11b1 := bne_eq_false_iff_eq.mpr c11
   clear c11
   obtain rfl := Option.some.inj H
   have p5 : 0 ≤ (x8_1 : Int) := of_decide_eq_true dq24
   have q5 : x8_1 < (a0.size : Int) := of_decide_eq_true dq24
   have hx5 := bt_at a0 x8_1
   replace p5 := eq_true p5
   replace q5 := eq_true q5
   go_wp2
   go_ret
   exact ⟨dq17, dq16⟩
  rw [if_neg c11] at H
  have c11b0 := beq_eq_false_iff_ne.mpr c11
  have c11b1 := bne_iff_ne.mpr c11
  by_cases c12 : (bt a0 x8_1) ≥ 48
  rotate_left
  ·rw [if_neg c12] at H
   have c12b0 : decide (48 ≤ (bt a0 x8_1)) = false := decide_eq_false c12
   clear c12
   by_cases c16 : (bt a0 x8_1) = 46
   ·rw [if_pos c16] at H
    have c16b0 := beq_iff_eq.mpr c16
    have c16b1 := bne_eq_false_iff_eq.mpr c16
    clear c16
    have H' := Aside0.mk H
    clear H
    have p5 : 0 ≤ (x8_1 : Int) := of_decide_eq_true dq24
    have q5 : x8_1 < (a0.size : Int) := of_decide_eq_true dq24
    have hx5 := bt_at a0 x8_1
    replace p5 := eq_true p5
    replace q5 := eq_true q5
    go_wp2
    go_roundg k1
    case measure => have := HK1.out; omega
    case rel => exact ⟨(wrap64 (x8_1 + 1)), dq17, H', ⟨dq25⟩, dq16⟩
   rw [if_neg c16] at H
   have c16b0 := beq_eq_false_iff_ne.mpr c16
   have c16b1 := bne_iff_ne.mpr c16
   by_cases c17 : (bt a0 x8_1) = 45
   rotate_left
   ·rw [if_neg c17] at H
    have c17b0 := beq_eq_false_iff_ne.mpr c17
    have c17b1 := bne_iff_ne.mpr c17
    obtain rfl := Option.some.inj H
    have p5 : 0 ≤ (x8_1 : Int) := of_decide_eq_true dq24
    have q5 : x8_1 < (a0.size : Int) := of_decide_eq_true dq24
    have hx5 := bt_at a0 x8_1
    replace p5 := eq_true p5
    replace q5 := eq_true q5
    go_wp2
    go_ret
    exact ⟨dq17, dq16⟩
   rw [if_pos c17] at H
   have c17b0 := beq_iff_eq.mpr c17
   have c17b1 := bne_eq_false_iff_eq.mpr c17
   clear c17
   have H' := Aside0.mk H
   clear H
   have p5 : 0 ≤ (x8_1 : Int) := of_decide_eq_true dq24
   have q5 : x8_1 < (a0.size : Int) := of_decide_eq_true dq24
   have hx5 := bt_at a0 x8_1
   replace p5 := eq_true p5
   replace q5 := eq_true q5
   go_wp2
   go_roundg k1
   case measure => have := HK1.out; omega
   case rel => exact ⟨(wrap64 (x8_1 + 1)), dq17, H', ⟨dq25⟩, dq16⟩
  rw [if_pos c12] at H
  have c12b0 : decide (48 ≤ (bt a0 x8_1)) = true := decide_eq_true c12
  clear c12
  by_cases c13 : ((bt a0 x8_1) ≤ 57)
  ·rw [if_pos c13] at H
   have c13b0 : decide ((bt a0 x8_1) ≤ 57) = true := decide_eq_true c13
   clear c13
   have H' := Aside0.mk H
   clear H
   have p5 : 0 ≤ (x8_1 : Int) := of_decide_eq_true dq24
   have q5 : x8_1 < (a0.size : Int) := of_decide_eq_true dq24
   have hx5 := bt_at a0 x8_1
   replace p5 := eq_true p5
   replace q5 := eq_true q5
   go_wp2
   go_roundg k1
   case measure => have := HK1.out; omega
   case rel => exact ⟨(wrap64 (x8_1 + 1)), dq17, H', ⟨dq25⟩, dq16⟩
  rw [if_neg c13] at H
  have c13b0 : decide ((bt a0 x8_1) ≤ 57) = false := decide_eq_false c13
  clear c13
  by_cases c14 : (bt a0 x8_1) = 46
  ·rw [if_pos c14] at H
   have c14b0 := beq_iff_eq.mpr c14
   have c14b1 := bne_eq_false_iff_eq.mpr c14
   clear c14
   have H' := Aside0.mk H
   clear H
   have p5 : 0 ≤ (x8_1 : Int) := of_decide_eq_true dq24
   have q5 : x8_1 < (a0.size : Int) := of_decide_eq_true dq24
   have hx5 := bt_at a0 x8_1
   replace p5 := eq_true p5
   replace q5 := eq_true q5
   go_wp2
   go_roundg k1
   case measure => have := HK1.out; omega
   case rel => exact ⟨(wrap64 (x8_1 + 1)), dq17, H', ⟨dq25⟩, dq16⟩
  rw [if_neg c14] at H
  have c14b0 := beq_eq_false_iff_ne.mpr c14
  have c14b1 := bne_iff_ne.mpr c14
  by_cases c15 : (bt a0 x8_1) = 45
  rotate_left
  ·rw [if_neg c15] at H
   have c15b0 := beq_eq_false_iff_ne.mpr c15
   have c15b1 := bne_iff_ne.mpr c15
   obtain rfl := Option.some.inj H
   have p5 : 0 ≤ (x8_1 : Int) := of_decide_eq_true dq24
   have q5 : x8_1 < (a0.size : Int) := of_decide_eq_true dq24
   have hx5 := bt_at a0 x8_1
   replace p5 := eq_true p5
   replace q5 := eq_true q5
   go_wp2
   go_ret
   exact ⟨dq17, dq16⟩
  rw [if_pos c15] at H
  have c15b0 := beq_iff_eq.mpr c15
  have c15b1 := bne_eq_false_iff_eq.mpr c15
  clear c15
  have H' := Aside0.mk H
  clear H
  have p5 : 0 ≤ (x8_1 : Int) := of_decide_eq_true dq24
  have q5 : x8_1 < (a0.size : Int) := of_decide_eq_true dq24
  have hx5 := bt_at a0 x8_1
  replace p5 := eq_true p5
  replace q5 := eq_true q5
  go_wp2
  go_roundg k1
  case measure => have := HK1.out; omega
  case rel => exact ⟨(wrap64 (x8_1 + 1)), dq17, H', ⟨dq25⟩, dq16⟩

/-! ### impl_PNode_fits: function 64 -/
def impl_PNode_fits.f (k : Nat) (a0_0 : Int) (a0_1 : ByteArray) (l0_2 : List Int) (a0_3 : Int) : Option (Bool) := if a0_0 = 1 then ((impl_NameOk.f k a0_1).bind fun t234 => (if t234 = true then (some ((l0_2.length : Int) == 0)) else (some false))) else (if a0_0 = 4 then (if a0_1.toList = ([] : List UInt8) then (if a0_0 = 2 then (some true) else (some ((l0_2.length : Int) == 0))) else (some false)) else (if a0_0 = 2 then (if a0_1.toList = ([] : List UInt8) then (some true) else (some false)) else (if a0_0 = 3 then (if a0_1.toList = ([] : List UInt8) then (some (decide ((l0_2.length : Int) ≥ 2))) else (some false)) else (some false))))
set_option maxHeartbeats 8000000 in
set_option maxRecDepth 100000 in
theorem impl_PNode_fits.calls (k : Nat) (a0_0 : Int) (a0_1 : ByteArray) (A0_2 : Option Addr) (c0_2 : Nat) (l0_2 : List Int) (a0_3 : Int) (r : Bool) (w : World) (hr0_2 : Kd.C (Kd.int .i64) w A0_2 l0_2.length l0_2) (hc0_2 : l0_2.length ≤ c0_2) (h : impl_PNode_fits.f k a0_0 a0_1 l0_2 a0_3 = some r) :
  Calls Try.prog 64 #[.agg #[.int .i64 a0_0, .string a0_1, .slice A0_2 l0_2.length c0_2, .int .i64 a0_3]] w fun e w' => e = .returned (.bool r) ∧ Below w.heap.size w w' := by
 have hu49 := Try.underlying49
 have HR0_2 := Aside0.mk hr0_2
 have HC0_2 := Aside0.mk hc0_2
 clear hr0_2 hc0_2
 have HB := Aside0.mk (Below.refl w.heap.size w)
 have H : (if a0_0 = 1 then ((impl_NameOk.f k a0_1).bind fun t234 => (if t234 = true then (some ((l0_2.length : Int) == 0)) else (some false))) else (if a0_0 = 4 then (if a0_1.toList = ([] : List UInt8) then (if a0_0 = 2 then (some true) else (some ((l0_2.length : Int) == 0))) else (some false)) else (if a0_0 = 2 then (if a0_1.toList = ([] : List UInt8) then (some true) else (some false)) else (if a0_0 = 3 then (if a0_1.toList = ([] : List UInt8) then (some (decide ((l0_2.length : Int) ≥ 2))) else (some false)) else (some false))))) = some r := h
 clear h
 by_cases c2 : a0_0 = 1
 ·rw [if_pos c2] at H
  have c2b0 := beq_iff_eq.mpr c2
  have c2b1 := bne_eq_false_iff_eq.mpr c2
  clear c2
  replace H := Option.bind_eq_some_iff.mp H
  obtain ⟨t234, A30, H⟩ := H
  replace H : (if t234 = true then (some ((l0_2.length : Int) == 0)) else (some false)) = some r := H
  have A3 := Aside0.mk A30
  clear A30
  by_cases c4 : t234 = true
  ·subst c4
   have H1 : (some ((l0_2.length : Int) == 0)) = some r := by rw [if_pos rfl] at H; exact H
   clear H
   have H := H1
   clear H1
   obtain rfl := Option.some.inj H
   go_enter Try.func64, Try.ntmps64
   go_wp2_with (first | ((with_reducible refine gate_dst (N := 1) rfl ?_); (try (refine gate_guard (by rfl) ?_; dsimp only)); refine box_event ?hg (N := 1) ?hd (cs := #[.int .i64 a0_0, .string a0_1, .slice A0_2 l0_2.length c0_2, .int .i64 a0_3]) (t := 49) ?hr ?_; (case hd => rfl); (case hg => rfl); (case hr => exact dq0); intro gb233 hg w5 hbox hb; have n0_ := Aside0.mk (below_step dq19 hb); have n1_ := Aside0.mk (hbox); have n2_ := Aside0.mk ((dq18 : w.heap.size ≤ gb233)); have n3_ := Aside0.mk ((dq18 : w.heap.size ≤ gb233)); clear HB; have HB := n0_; have BK233 := n1_; have GW233 := n2_; have GE233 := n3_; clear n0_ n1_ n2_ n3_; clear hb hbox hg; obtain ⟨⟨hcz6_0, hcz6_1, hcz6_2, hcz6_3⟩, hfz6_0, hfz6_1, hfz6_2, hfz6_3⟩ := blkC4 BK233.out) | ((with_reducible refine gate_callee (f := 75) rfl ?_); refine goesL_ (some 9) rfl rfl Try.func75 dq23 rfl #[.string a0_1] rfl dq22 ?_; (with_reducible refine (impl_NameOk.calls k a0_1 true _ A3.out).mono ?_); rintro e w' ⟨rfl, ⟨nd, rfl⟩⟩; refine ⟨_, rfl, ?_⟩))
   go_ret
   exact ⟨dq21, dq76⟩
  replace c4 := Bool.eq_false_iff.mpr c4
  subst c4
  have H1 : (some false) = some r := by rw [if_neg (show ¬ (false = true) by decide)] at H; exact H
  clear H
  have H := H1
  clear H1
  obtain rfl := Option.some.inj H
  go_enter Try.func64, Try.ntmps64
  go_wp2_with (first | ((with_reducible refine gate_dst (N := 1) rfl ?_); (try (refine gate_guard (by rfl) ?_; dsimp only)); refine box_event ?hg (N := 1) ?hd (cs := #[.int .i64 a0_0, .string a0_1, .slice A0_2 l0_2.length c0_2, .int .i64 a0_3]) (t := 49) ?hr ?_; (case hd => rfl); (case hg => rfl); (case hr => exact dq0); intro gb233 hg w7 hbox hb; have n0_ := Aside0.mk (below_step dq19 hb); have n1_ := Aside0.mk (hbox); have n2_ := Aside0.mk ((dq18 : w.heap.size ≤ gb233)); have n3_ := Aside0.mk ((dq18 : w.heap.size ≤ gb233)); clear HB; have HB := n0_; have BK233 := n1_; have GW233 := n2_; have GE233 := n3_; clear n0_ n1_ n2_ n3_; clear hb hbox hg; obtain ⟨⟨hcz8_0, hcz8_1, hcz8_2, hcz8_3⟩, hfz8_0, hfz8_1, hfz8_2, hfz8_3⟩ := blkC4 BK233.out) | ((with_reducible refine gate_callee (f := 75) rfl ?_); refine goesL_ (some 9) rfl rfl Try.func75 dq23 rfl #[.string a0_1] rfl dq22 ?_; (with_reducible refine (impl_NameOk.calls k a0_1 false _ A3.out).mono ?_); rintro e w' ⟨rfl, ⟨nd, rfl⟩⟩; refine ⟨_, rfl, ?_⟩))
  go_ret
  exact ⟨dq21, dq76⟩
 rw [if_neg c2] at H
 have c2b0 := beq_eq_false_iff_ne.mpr c2
 have c2b1 := bne_iff_ne.mpr c2
 by_cases c9 : a0_0 = 4
 ·rw [if_pos c9] at H
  have c9b0 := beq_iff_eq.mpr c9
  have c9b1 := bne_eq_false_iff_eq.mpr c9
  clear c9
  by_cases c10 : a0_1.toList = ([] : List UInt8)
  rotate_left
  ·rw [if_neg c10] at H
   have c10b0 := beq_eq_false_iff_ne.mpr c10
   have c10b1 := bne_iff_ne.mpr c10
   obtain rfl := Option.some.inj H
   go_enter Try.func64, Try.ntmps64
   go_wp2_with (first | ((with_reducible refine gate_dst (N := 1) rfl ?_); (try (refine gate_guard (by rfl) ?_; dsimp only)); refine box_event ?hg (N := 1) ?hd (cs := #[.int .i64 a0_0, .string a0_1, .slice A0_2 l0_2.length c0_2, .int .i64 a0_3]) (t := 49) ?hr ?_; (case hd => rfl); (case hg => rfl); (case hr => exact dq0); intro gb233 hg w16 hbox hb; have n0_ := Aside0.mk (below_step dq19 hb); have n1_ := Aside0.mk (hbox); have n2_ := Aside0.mk ((dq18 : w.heap.size ≤ gb233)); have n3_ := Aside0.mk ((dq18 : w.heap.size ≤ gb233)); clear HB; have HB := n0_; have BK233 := n1_; have GW233 := n2_; have GE233 := n3_; clear n0_ n1_ n2_ n3_; clear hb hbox hg; obtain ⟨⟨hcz17_0, hcz17_1, hcz17_2, hcz17_3⟩, hfz17_0, hfz17_1, hfz17_2, hfz17_3⟩ := blkC4 BK233.out))
   go_ret
   exact ⟨dq21, dq76⟩
  rw [if_pos c10] at H
  have c10b0 := beq_iff_eq.mpr c10
  have c10b1 := bne_eq_false_iff_eq.mpr c10
  clear c10
  by_cases c11 : a0_0 = 2
  rotate_left
  ·rw [if_neg c11] at H
   have c11b0 := beq_eq_false_iff_ne.mpr c11
   have c11b1 := bne_iff_ne.mpr c11
   obtain rfl := Option.some.inj H
   go_enter Try.func64, Try.ntmps64
   go_wp2_with (first | ((with_reducible refine gate_dst (N := 1) rfl ?_); (try (refine gate_guard (by rfl) ?_; dsimp only)); refine box_event ?hg (N := 1) ?hd (cs := #[.int .i64 a0_0, .string a0_1, .slice A0_2 l0_2.length c0_2, .int .i64 a0_3]) (t := 49) ?hr ?_; (case hd => rfl); (case hg => rfl); (case hr => exact dq0); intro gb233 hg w14 hbox hb; have n0_ := Aside0.mk (below_step dq19 hb); have n1_ := Aside0.mk (hbox); have n2_ := Aside0.mk ((dq18 : w.heap.size ≤ gb233)); have n3_ := Aside0.mk ((dq18 : w.heap.size ≤ gb233)); clear HB; have HB := n0_; have BK233 := n1_; have GW233 := n2_; have GE233 := n3_; clear n0_ n1_ n2_ n3_; clear hb hbox hg; obtain ⟨⟨hcz15_0, hcz15_1, hcz15_2, hcz15_3⟩, hfz15_0, hfz15_1, hfz15_2, hfz15_3⟩ := blkC4 BK233.out))
   go_ret
   exact ⟨dq21, dq76⟩
  rw [if_pos c11] at H
  have c11b0 := beq_iff_eq.mpr c11
  have c11b1 := bne_eq_false_iff_eq.mpr c11
  clear c11
  obtain rfl := Option.some.inj H
  go_enter Try.func64, Try.ntmps64
  go_wp2_with (first | ((with_reducible refine gate_dst (N := 1) rfl ?_); (try (refine gate_guard (by rfl) ?_; dsimp only)); refine box_event ?hg (N := 1) ?hd (cs := #[.int .i64 a0_0, .string a0_1, .slice A0_2 l0_2.length c0_2, .int .i64 a0_3]) (t := 49) ?hr ?_; (case hd => rfl); (case hg => rfl); (case hr => exact dq0); intro gb233 hg w12 hbox hb; have n0_ := Aside0.mk (below_step dq19 hb); have n1_ := Aside0.mk (hbox); have n2_ := Aside0.mk ((dq18 : w.heap.size ≤ gb233)); have n3_ := Aside0.mk ((dq18 : w.heap.size ≤ gb233)); clear HB; have HB := n0_; have BK233 := n1_; have GW233 := n2_; have GE233 := n3_; clear n0_ n1_ n2_ n3_; clear hb hbox hg; obtain ⟨⟨hcz13_0, hcz13_1, hcz13_2, hcz13_3⟩, hfz13_0, hfz13_1, hfz13_2, hfz13_3⟩ := blkC4 BK233.out))
  go_ret
  exact ⟨dq21, dq76⟩
 rw [if_neg c9] at H
 have c9b0 := beq_eq_false_iff_ne.mpr c9
 have c9b1 := bne_iff_ne.mpr c9
 by_cases c18 : a0_0 = 2
 ·rw [if_pos c18] at H
  have c18b0 := beq_iff_eq.mpr c18
  have c18b1 := bne_eq_false_iff_eq.mpr c18
  clear c18
  by_cases c19 : a0_1.toList = ([] : List UInt8)
  rotate_left
  ·rw [if_neg c19] at H
   have c19b0 := beq_eq_false_iff_ne.mpr c19
   have c19b1 := bne_iff_ne.mpr c19
   obtain rfl := Option.some.inj H
   go_enter Try.func64, Try.ntmps64
   go_wp2_with (first | ((with_reducible refine gate_dst (N := 1) rfl ?_); (try (refine gate_guard (by rfl) ?_; dsimp only)); refine box_event ?hg (N := 1) ?hd (cs := #[.int .i64 a0_0, .string a0_1, .slice A0_2 l0_2.length c0_2, .int .i64 a0_3]) (t := 49) ?hr ?_; (case hd => rfl); (case hg => rfl); (case hr => exact dq0); intro gb233 hg w22 hbox hb; have n0_ := Aside0.mk (below_step dq19 hb); have n1_ := Aside0.mk (hbox); have n2_ := Aside0.mk ((dq18 : w.heap.size ≤ gb233)); have n3_ := Aside0.mk ((dq18 : w.heap.size ≤ gb233)); clear HB; have HB := n0_; have BK233 := n1_; have GW233 := n2_; have GE233 := n3_; clear n0_ n1_ n2_ n3_; clear hb hbox hg; obtain ⟨⟨hcz23_0, hcz23_1, hcz23_2, hcz23_3⟩, hfz23_0, hfz23_1, hfz23_2, hfz23_3⟩ := blkC4 BK233.out))
   go_ret
   exact ⟨dq21, dq76⟩
  rw [if_pos c19] at H
  have c19b0 := beq_iff_eq.mpr c19
  have c19b1 := bne_eq_false_iff_eq.mpr c19
  clear c19
  obtain rfl := Option.some.inj H
  go_enter Try.func64, Try.ntmps64
  go_wp2_with (first | ((with_reducible refine gate_dst (N := 1) rfl ?_); (try (refine gate_guard (by rfl) ?_; dsimp only)); refine box_event ?hg (N := 1) ?hd (cs := #[.int .i64 a0_0, .string a0_1, .slice A0_2 l0_2.length c0_2, .int .i64 a0_3]) (t := 49) ?hr ?_; (case hd => rfl); (case hg => rfl); (case hr => exact dq0); intro gb233 hg w20 hbox hb; have n0_ := Aside0.mk (below_step dq19 hb); have n1_ := Aside0.mk (hbox); have n2_ := Aside0.mk ((dq18 : w.heap.size ≤ gb233)); have n3_ := Aside0.mk ((dq18 : w.heap.size ≤ gb233)); clear HB; have HB := n0_; have BK233 := n1_; have GW233 := n2_; have GE233 := n3_; clear n0_ n1_ n2_ n3_; clear hb hbox hg; obtain ⟨⟨hcz21_0, hcz21_1, hcz21_2, hcz21_3⟩, hfz21_0, hfz21_1, hfz21_2, hfz21_3⟩ := blkC4 BK233.out))
  go_ret
  exact ⟨dq21, dq76⟩
 rw [if_neg c18] at H
 have c18b0 := beq_eq_false_iff_ne.mpr c18
 have c18b1 := bne_iff_ne.mpr c18
 by_cases c24 : a0_0 = 3
 rotate_left
 ·rw [if_neg c24] at H
  have c24b0 := beq_eq_false_iff_ne.mpr c24
  have c24b1 := bne_iff_ne.mpr c24
  obtain rfl := Option.some.inj H
  go_enter Try.func64, Try.ntmps64
  go_wp2_with (first | ((with_reducible refine gate_dst (N := 1) rfl ?_); (try (refine gate_guard (by rfl) ?_; dsimp only)); refine box_event ?hg (N := 1) ?hd (cs := #[.int .i64 a0_0, .string a0_1, .slice A0_2 l0_2.length c0_2, .int .i64 a0_3]) (t := 49) ?hr ?_; (case hd => rfl); (case hg => rfl); (case hr => exact dq0); intro gb233 hg w30 hbox hb; have n0_ := Aside0.mk (below_step dq19 hb); have n1_ := Aside0.mk (hbox); have n2_ := Aside0.mk ((dq18 : w.heap.size ≤ gb233)); have n3_ := Aside0.mk ((dq18 : w.heap.size ≤ gb233)); clear HB; have HB := n0_; have BK233 := n1_; have GW233 := n2_; have GE233 := n3_; clear n0_ n1_ n2_ n3_; clear hb hbox hg; obtain ⟨⟨hcz31_0, hcz31_1, hcz31_2, hcz31_3⟩, hfz31_0, hfz31_1, hfz31_2, hfz31_3⟩ := blkC4 BK233.out))
  go_ret
  exact ⟨dq21, dq76⟩
 rw [if_pos c24] at H
 have c24b0 := beq_iff_eq.mpr c24
 have c24b1 := bne_eq_false_iff_eq.mpr c24
 clear c24
 by_cases c25 : a0_1.toList = ([] : List UInt8)
 rotate_left
 ·rw [if_neg c25] at H
  have c25b0 := beq_eq_false_iff_ne.mpr c25
  have c25b1 := bne_iff_ne.mpr c25
  obtain rfl := Option.some.inj H
  go_enter Try.func64, Try.ntmps64
  go_wp2_with (first | ((with_reducible refine gate_dst (N := 1) rfl ?_); (try (refine gate_guard (by rfl) ?_; dsimp only)); refine box_event ?hg (N := 1) ?hd (cs := #[.int .i64 a0_0, .string a0_1, .slice A0_2 l0_2.length c0_2, .int .i64 a0_3]) (t := 49) ?hr ?_; (case hd => rfl); (case hg => rfl); (case hr => exact dq0); intro gb233 hg w28 hbox hb; have n0_ := Aside0.mk (below_step dq19 hb); have n1_ := Aside0.mk (hbox); have n2_ := Aside0.mk ((dq18 : w.heap.size ≤ gb233)); have n3_ := Aside0.mk ((dq18 : w.heap.size ≤ gb233)); clear HB; have HB := n0_; have BK233 := n1_; have GW233 := n2_; have GE233 := n3_; clear n0_ n1_ n2_ n3_; clear hb hbox hg; obtain ⟨⟨hcz29_0, hcz29_1, hcz29_2, hcz29_3⟩, hfz29_0, hfz29_1, hfz29_2, hfz29_3⟩ := blkC4 BK233.out))
  go_ret
  exact ⟨dq21, dq76⟩
 rw [if_pos c25] at H
 have c25b0 := beq_iff_eq.mpr c25
 have c25b1 := bne_eq_false_iff_eq.mpr c25
 clear c25
 obtain rfl := Option.some.inj H
 go_enter Try.func64, Try.ntmps64
 go_wp2_with (first | ((with_reducible refine gate_dst (N := 1) rfl ?_); (try (refine gate_guard (by rfl) ?_; dsimp only)); refine box_event ?hg (N := 1) ?hd (cs := #[.int .i64 a0_0, .string a0_1, .slice A0_2 l0_2.length c0_2, .int .i64 a0_3]) (t := 49) ?hr ?_; (case hd => rfl); (case hg => rfl); (case hr => exact dq0); intro gb233 hg w26 hbox hb; have n0_ := Aside0.mk (below_step dq19 hb); have n1_ := Aside0.mk (hbox); have n2_ := Aside0.mk ((dq18 : w.heap.size ≤ gb233)); have n3_ := Aside0.mk ((dq18 : w.heap.size ≤ gb233)); clear HB; have HB := n0_; have BK233 := n1_; have GW233 := n2_; have GE233 := n3_; clear n0_ n1_ n2_ n3_; clear hb hbox hg; obtain ⟨⟨hcz27_0, hcz27_1, hcz27_2, hcz27_3⟩, hfz27_0, hfz27_1, hfz27_2, hfz27_3⟩ := blkC4 BK233.out))
 go_ret
 exact ⟨dq21, dq76⟩

end Go.Proofs.Ytkflnbmmjnjgkaa.L
