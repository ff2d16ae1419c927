/- Words and contracts for the row RowFnDeepPath: what the Go functions answer that it calls; printed by programs of the kit and of this session, and merged. -/
import Derived.Test.YtpmjpbaeecnpiaaDoorQd5
import Derived.Lib.SlBy
import Derived.Lib.Hide
import Derived.Outline
namespace Go.Proofs.YtpmjpbaeecnpiaaDoor.L
open Go.RowKit Go.Proofs.YtpmjpbaeecnpiaaDoorW.PrintWords Go.Proofs.YtpmjpbaeecnpiaaDoorW.PrintLast Go.Proofs.YtpmjpbaeecnpiaaDoorW.PrintMore
attribute [local go_sem] max2_int min2_int max_two min_two max_three min_three max_four min_four
set_option linter.unusedVariables false
set_option linter.unusedSimpArgs false

/-! ### impl_led: function 46 -/
mutual
def impl_led.l0 : Nat → List (S39) → Int → List ByteArray → Bool → List Bool → List (S39) → Int → Int → Option (List Int)
 | 0, _, _, _, _, _, _, _, _ => none
 | k + 1, x0, x1, x2, x3, x9, x23, x24, x25 => if x25 < x24 then (if 0 ≤ x25 then (if x25 < (x23.length : Int) then (if x25 = x1 then (if x25 < (x9.length : Int) then (impl_led.l0 k x0 x1 x2 x3 (x9.set (x25 : Int).toNat true) x23 x24 (wrap64 (x25 + 1))) else (none)) else (if x3 = true then (if ((rd_T39 x23 x25).f1).toList = ([] : List UInt8) then (if x25 < (x9.length : Int) then (impl_led.l0 k x0 x1 x2 x3 (x9.set (x25 : Int).toNat false) x23 x24 (wrap64 (x25 + 1))) else (none)) else ((impl_within.f k x0 x25 x1).bind fun t338 => (if x25 < (x9.length : Int) then (impl_led.l0 k x0 x1 x2 x3 (x9.set (x25 : Int).toNat t338) x23 x24 (wrap64 (x25 + 1))) else (none)))) else (if x25 < (x9.length : Int) then (impl_led.l0 k x0 x1 x2 x3 (x9.set (x25 : Int).toNat false) x23 x24 (wrap64 (x25 + 1))) else (none)))) else (none)) else (none)) else (impl_led.l1 k x0 x9 x2 (x2.length : Int) 0)
def impl_led.l1 : Nat → List (S39) → List Bool → List ByteArray → Int → Int → Option (List Int)
 | 0, _, _, _, _, _ => none
 | k + 1, x0, x9, x51, x52, x53 => if x53 < x52 then (if 0 ≤ x53 then (if x53 < (x51.length : Int) then (if 0 ≤ (x0.length : Int) then (if ((x0.length : Int) : Int).toNat ≤ 281474976710656 then (impl_led.l2 k x0 x9 (rdOf ByteArray.empty x51 x53) (List.replicate ((x0.length : Int) : Int).toNat false) x51 x52 x53 x0 (x0.length : Int) 0) else (none)) else (none)) else (none)) else (none)) else (impl_led.l3 k (([] : List Int)) x9 (x9.length : Int) 0)
def impl_led.l2 : Nat → List (S39) → List Bool → ByteArray → List Bool → List ByteArray → Int → Int → List (S39) → Int → Int → Option (List Int)
 | 0, _, _, _, _, _, _, _, _, _, _ => none
 | k + 1, x0, x9, x13, x14, x51, x52, x53, x60, x61, x62 => if x62 < x61 then (if 0 ≤ x62 then (if x62 < (x60.length : Int) then (if ((rd_T39 x60 x62).f0) ≥ 0 then (if 0 ≤ ((rd_T39 x60 x62).f0) then (if ((rd_T39 x60 x62).f0) < (x9.length : Int) then (if rdOf false x9 ((rd_T39 x60 x62).f0) = true then (if x62 < (x14.length : Int) then (impl_led.l2 k x0 x9 x13 (x14.set (x62 : Int).toNat (((rd_T39 x60 x62).f1).toList == x13.toList)) x51 x52 x53 x60 x61 (wrap64 (x62 + 1))) else (none)) else (if x62 < (x14.length : Int) then (impl_led.l2 k x0 x9 x13 (x14.set (x62 : Int).toNat false) x51 x52 x53 x60 x61 (wrap64 (x62 + 1))) else (none))) else (none)) else (none)) else (if x62 < (x14.length : Int) then (impl_led.l2 k x0 x9 x13 (x14.set (x62 : Int).toNat false) x51 x52 x53 x60 x61 (wrap64 (x62 + 1))) else (none))) else (none)) else (none)) else (impl_led.l1 k x0 x14 x51 x52 (wrap64 (x53 + 1)))
def impl_led.l3 : Nat → List Int → List Bool → Int → Int → Option (List Int)
 | 0, _, _, _, _ => none
 | k + 1, x17, x90, x91, x92 => if x92 < x91 then (if 0 ≤ x92 then (if x92 < (x90.length : Int) then (if rdOf false x90 x92 = true then (if x17.length < 17592186044416 then (impl_led.l3 k (x17 ++ [x92]) x90 x91 (wrap64 (x92 + 1))) else (none)) else (impl_led.l3 k x17 x90 x91 (wrap64 (x92 + 1)))) else (none)) else (none)) else (some x17)
end
def impl_led.f (k : Nat) (l0 : List (S39)) (a1 : Int) (l2 : List ByteArray) (a3 : Bool) : Option (List Int) := if 0 ≤ (l0.length : Int) then (if ((l0.length : Int) : Int).toNat ≤ 281474976710656 then (impl_led.l0 k l0 a1 l2 a3 (List.replicate ((l0.length : Int) : Int).toNat false) l0 (l0.length : Int) 0) else (none)) else (none)
set_option maxHeartbeats 8000000 in
set_option maxRecDepth 100000 in
theorem impl_led.calls (k : Nat) (A0 : Option Addr) (c0 : Nat) (l0 : List (S39)) (a1 : Int) (A2 : Option Addr) (c2 : Nat) (l2 : List ByteArray) (a3 : Bool) (r : List Int) (w : World) (hr0 : Kd.C k39 w A0 l0.length l0) (hc0 : l0.length ≤ c0) (hr2 : Kd.C Kd.string w A2 l2.length l2) (hc2 : l2.length ≤ c2) (h : impl_led.f k l0 a1 l2 a3 = some r) :
  Calls Tryd.prog 46 #[.slice A0 l0.length c0, .int .i64 a1, .slice A2 l2.length c2, .bool a3] w fun e w' => ∃ v0_ : Value, e = .returned (v0_) ∧ Kd.R (Kd.int .i64) 2 w' w.heap.size (fun _ => True) v0_ r ∧ Below w.heap.size w w' := by
 have hu39 := Tryd.underlying39
 have HR0 := Aside0.mk hr0
 have HC0 := Aside0.mk hc0
 clear hr0 hc0
 have HR2 := Aside0.mk hr2
 have HC2 := Aside0.mk hc2
 clear hr2 hc2
 have HB := Aside0.mk (Below.refl w.heap.size w)
 have H : (if 0 ≤ (l0.length : Int) then (if ((l0.length : Int) : Int).toNat ≤ 281474976710656 then (impl_led.l0 k l0 a1 l2 a3 (List.replicate ((l0.length : Int) : Int).toNat false) l0 (l0.length : Int) 0) else (none)) else (none)) = some r := h
 clear h
 by_cases c5 : 0 ≤ (l0.length : Int)
 rotate_left
 ·rw [if_neg c5] at H
  exact absurd H dq28
 rw [if_pos c5] at H
 have c5b0 := eq_true c5
 have c5b1 := decide_eq_true c5
 clear c5
 by_cases c6 : ((l0.length : Int) : Int).toNat ≤ 281474976710656
 rotate_left
 ·rw [if_neg c6] at H
  exact absurd H dq28
 rw [if_pos c6] at H
 have c6b0 := eq_true c6
 have c6b1 := decide_eq_true c6
 clear c6
 obtain ⟨y331, hy331⟩ : ∃ y_ : List Bool, y_ = (List.replicate ((l0.length : Int) : Int).toNat false) := ⟨_, rfl⟩
 replace H : (impl_led.l0 k l0 a1 l2 a3 y331 l0 (l0.length : Int) 0) = some r := by first | (rw [hy331]; with_reducible exact H) | (have H2_ := (Option.bind_some _ _).symm.trans H; rw [hy331]; with_reducible exact H2_) | (have H2_ := (Option.bind_some _ _).symm.trans H; with_reducible exact H2_) | with_reducible exact H | (rw [hy331]; exact H) | exact H
 have Ny331 := Aside0.mk hy331
 clear hy331
 have H' := Aside0.mk H
 clear H
 go_enter Tryd.func46, Tryd.ntmps46
 go_wp2_with (first | ((with_reducible refine gate_dst (N := 22) rfl ?_); refine Kd.R_make Kd.bool _ 4 rfl (N := 22) rfl 95 _ _ rfl (l0.length : Int) rfl rfl Tryd.underlying95 (.bool false) 1 info4 rfl dq37 dq31 false (ok := fun _ => True) (okp := fun _ => True) rfl (fun _ hk => hk) trivial (of_decide_eq_true dq26) (Nat.le_trans (Nat.mul_le_mul_right _ (of_decide_eq_true dq26 : (l0.length : Int).toNat ≤ 281474976710656)) dq31) (Below.refl _ _) (Nat.le_refl _) ?_; intro v332 w7 ho8 hb hg_ hnew_; clear hg_ hnew_; (first | rw [← Ny331.out] at ho8 | (simp only [Int.reduceToNat] at ho8; rw [← Ny331.out] at ho8)); have n0_ := Aside0.mk (Kd.R_lower ho8 (below_size dq33)); have n1_ := Aside0.mk (below_step dq33 hb); clear HB; have HO333 := n0_; have HB := n1_; clear n0_ n1_; clear hb ho8))
 go_loopg [25] k (fun kq v25 w' => ∃ (x9_1 : List Bool) (x25_1 : Int), v25 = .int .i64 x25_1 ∧ Aside0 (impl_led.l0 kq l0 a1 l2 a3 x9_1 l0 (l0.length : Int) x25_1 = some r) ∧ Aside0 (kq ≤ k) ∧ Aside0 (Kd.R Kd.bool 4 w' w.heap.size (fun _ => True) v332 x9_1) ∧ Aside0 (Below w.heap.size w w'))
 case atStart => exact ⟨(y331), (0), dq25, H', ⟨Nat.le_refl _⟩, ⟨by (with_reducible repeat (first | apply Kd.R_alloc | apply Kd.R_drewN | apply Kd.R_drew)); exact HO333.out⟩, ⟨dq33⟩⟩
 clear H'
 try clear c5b0
 try clear c5b1
 try clear c6b0
 try clear c6b1
 obtain ⟨x9_1, x25_1, rfl, HA, HK1, HO_9, HB⟩ := hrel
 cases gk with
 | zero => exact absurd HA.out (by simp [impl_led.l0])
 | succ k1 =>
  have H := HA.out
  clear HA
  simp only [impl_led.l0] at H
  by_cases c9 : x25_1 < (l0.length : Int)
  ·rw [if_pos c9] at H
   have c9b0 := decide_eq_true c9
   clear c9
   by_cases c10 : 0 ≤ x25_1
   rotate_left
   ·rw [if_neg c10] at H
    exact absurd H dq28
   rw [if_pos c10] at H
   have c10b0 := decide_eq_true c10
   clear c10
   by_cases c11 : x25_1 < (l0.length : Int)
   rotate_left
   ·rw [if_neg c11] at H
    exact absurd H dq28
   rw [if_pos c11] at H
   have c11b0 := decide_eq_true c11
   clear c11
   by_cases c12 : x25_1 = a1
   ·rw [if_pos c12] at H
    have c12b0 := beq_iff_eq.mpr c12
    have c12b1 := bne_eq_false_iff_eq.mpr c12
    clear c12
    by_cases c13 : x25_1 < (x9_1.length : Int)
    rotate_left
    ·rw [if_neg c13] at H
     exact absurd H dq28
    rw [if_pos c13] at H
    have c13b0 := decide_eq_true c13
    clear c13
    obtain ⟨y336, hy336⟩ : ∃ y_ : List Bool, y_ = (x9_1.set (x25_1 : Int).toNat true) := ⟨_, rfl⟩
    replace H : (impl_led.l0 k1 l0 a1 l2 a3 y336 l0 (l0.length : Int) (wrap64 (x25_1 + 1))) = some r := by first | (rw [hy336]; with_reducible exact H) | (have H2_ := (Option.bind_some _ _).symm.trans H; rw [hy336]; with_reducible exact H2_) | (have H2_ := (Option.bind_some _ _).symm.trans H; with_reducible exact H2_) | with_reducible exact H | (rw [hy336]; exact H) | exact H
    have Ny336 := Aside0.mk hy336
    clear hy336
    have H' := Aside0.mk H
    clear H
    have p334 : 0 ≤ (x25_1 : Int) := of_decide_eq_true dq26
    have q334 : x25_1 < (l0.length : Int) := of_decide_eq_true dq26
    obtain ⟨ad334, A334_3, c334_3, e334, hx334_0, hx334_1, hx334_2, hx334_3, hl334_3, hi334_3⟩ := at_T39 HR0.out x25_1 p334 q334
    cases e334
    replace hx334_0 := (HB.out.cell (World.block_lt_of_cell? w _ hx334_0)).trans hx334_0
    replace hx334_1 := (HB.out.cell (World.block_lt_of_cell? w _ hx334_1)).trans hx334_1
    replace hx334_2 := (HB.out.cell (World.block_lt_of_cell? w _ hx334_2)).trans hx334_2
    replace hx334_3 := (HB.out.cell (World.block_lt_of_cell? w _ hx334_3)).trans hx334_3
    have HR334_3 := Aside0.mk hi334_3
    have HC334_3 := Aside0.mk hl334_3
    clear hi334_3 hl334_3
    replace p334 := eq_true p334
    replace q334 := eq_true q334
    go_wp2_with (first | ((with_reducible refine gate_dst (N := 11) rfl ?_); refine box_event ?hg (N := 11) ?hd (cs := #[.int .i64 0, .string (⟨#[]⟩ : ByteArray), .string (⟨#[]⟩ : ByteArray), .slice none 0 0]) (t := 39) ?hr ?_; (case hd => rfl); (case hg => rfl); (case hr => exact dq0); intro gb335 hg w15 hbox hb; have n0_ := Aside0.mk (Kd.R_below dq83 hb); have n1_ := Aside0.mk (below_step dq33 hb); have n2_ := Aside0.mk (hbox); have n3_ := Aside0.mk ((dq40 : w.heap.size ≤ gb335)); have n4_ := Aside0.mk ((dq40 : w.heap.size ≤ gb335)); clear HO_9; clear HB; have HO_9 := n0_; have HB := n1_; have BK335 := n2_; have GW335 := n3_; have GE335 := n4_; clear n0_ n1_ n2_ n3_ n4_; clear hb hbox hg; obtain ⟨⟨hcz16_0, hcz16_1, hcz16_2, hcz16_3⟩, hfz16_0, hfz16_1, hfz16_2, hfz16_3⟩ := blkC4 BK335.out) | ((with_reducible refine gate_store (t := 39) (p := 11) rfl ?_); refine store_event (t := 39) (p := 11) (v := ?vo_w17) (w1 := ((((w15.setCell ⟨gb335, 0, none⟩ (.int .i64 ((rd_T39 l0 x25_1).f0))).setCell ⟨gb335, 1, none⟩ (.string ((rd_T39 l0 x25_1).f1))).setCell ⟨gb335, 2, none⟩ (.string ((rd_T39 l0 x25_1).f2))).setCell ⟨gb335, 3, none⟩ (.slice A334_3 ((rd_T39 l0 x25_1).f3).length c334_3))) ?hg ?ho ?hn ?hr ?_; (case ho => rfl); (case hg => rfl); (case hn => rfl); (case hr => exact dq0); intro w17 hw; have n0_ : Aside0 (Kd.R Kd.bool 4 w17 w.heap.size (fun _ => True) v332 x9_1) := ⟨dq82⟩; have n1_ : Aside0 (w17.heap[gb335]? = some (.cells #[.int .i64 ((rd_T39 l0 x25_1).f0), .string ((rd_T39 l0 x25_1).f1), .string ((rd_T39 l0 x25_1).f2), .slice A334_3 ((rd_T39 l0 x25_1).f3).length c334_3] 39 (0, 0))) := ⟨dq81⟩; have n2_ : Aside0 (Below w.heap.size w w17) := ⟨dq80⟩; clear hw; clear HO_9; clear BK335; clear HB; have HO_9 := n0_; have BK335 := n1_; have HB := n2_; clear n0_ n1_ n2_; have p14 : 0 ≤ (x25_1 : Int) := of_decide_eq_true dq26; have q14 : (x25_1 : Int) < ((x9_1.length : Int) : Int) := of_decide_eq_true dq26; obtain ⟨go14, co14, eo14, gb14, gl14, cl14, HG14⟩ := Kd.R_form HO_9.out dq31; (first | cases eo14 | (injection eo14 with ea_ en_ ec_; (first | subst ea_ | (injection ea_ with ea_; subst ea_)); subst ec_; clear en_)); have GB14 := Aside0.mk gb14; have GG14 := Aside0.mk HG14; clear gb14 gl14 HG14; obtain ⟨hx14_0, hf14_0⟩ := Kd.R_celln false HO_9.out (x25_1 : Int) p14 q14; replace p14 := eq_true p14; replace q14 := eq_true q14; obtain ⟨hy18_, hz18_⟩ := Kd.R_celln false HO_9.out (x25_1 : Int) (of_decide_eq_true dq26) (of_decide_eq_true dq26); have HP18 := Kd.R_putg HO_9.out (x25_1 : Int) true) | ((with_reducible refine gate_store (t := 4) (p := 49) rfl ?_); refine store_event (t := 4) (p := 49) (v := ?vo_w19) (w1 := (w17.setCell ⟨go14, (x25_1 : Int).toNat, none⟩ (.bool true))) ?hg ?ho ?hn ?hr ?_; (case ho => rfl); (case hg => rfl); (case hn => rfl); (case hr => exact dq0); intro w19 hw; have hg : w17.grownBy w19 (some go14) := (by rw [hw]; exact HP18.2); have hp_ : Kd.R Kd.bool 4 w19 w.heap.size (fun _ => True) (.slice (some ⟨go14, 0, none⟩) x9_1.length co14) y336 := (by rw [hw, Ny336.out]; exact HP18.1); clear HP18; have n0_ := Aside0.mk (hp_); have n1_ := Aside0.mk (blk_grown (g := gb335) (o := .cells #[.int .i64 ((rd_T39 l0 x25_1).f0), .string ((rd_T39 l0 x25_1).f1), .string ((rd_T39 l0 x25_1).f2), .slice A334_3 ((rd_T39 l0 x25_1).f3).length c334_3] 39 (0, 0)) (by refine blk_up ?_; exact BK335.out) hg (Kd.R_ne HO_9.out BK335.out dq37)); have n2_ := Aside0.mk ((by rw [hw]; exact below_set (HB.out) GB14.out : Below w.heap.size w w19)); clear HO_9; clear BK335; clear HB; have HO_9 := n0_; have BK335 := n1_; have HB := n2_; clear n0_ n1_ n2_; clear hg hw hp_))
    go_roundg k1
    case measure => have := HK1.out; omega
    case rel => exact ⟨(y336), (wrap64 (x25_1 + 1)), dq25, H', ⟨dq27⟩, ⟨dq83⟩, ⟨dq84⟩⟩
   rw [if_neg c12] at H
   have c12b0 := beq_eq_false_iff_ne.mpr c12
   have c12b1 := bne_iff_ne.mpr c12
   by_cases c20 : a3 = true
   rotate_left
   ·replace c20 := Bool.eq_false_iff.mpr c20
    subst c20
    have H1 : (if x25_1 < (x9_1.length : Int) then (impl_led.l0 k1 l0 a1 l2 false (x9_1.set (x25_1 : Int).toNat false) l0 (l0.length : Int) (wrap64 (x25_1 + 1))) else (none)) = some r := by rw [if_neg (show ¬ (false = true) by decide)] at H; exact H
    clear H
    have H := H1
    clear H1
    by_cases c39 : x25_1 < (x9_1.length : Int)
    rotate_left
    ·rw [if_neg c39] at H
     exact absurd H dq28
    rw [if_pos c39] at H
    have c39b0 := decide_eq_true c39
    clear c39
    obtain ⟨y340, hy340⟩ : ∃ y_ : List Bool, y_ = (x9_1.set (x25_1 : Int).toNat false) := ⟨_, rfl⟩
    replace H : (impl_led.l0 k1 l0 a1 l2 false y340 l0 (l0.length : Int) (wrap64 (x25_1 + 1))) = some r := by first | (rw [hy340]; with_reducible exact H) | (have H2_ := (Option.bind_some _ _).symm.trans H; rw [hy340]; with_reducible exact H2_) | (have H2_ := (Option.bind_some _ _).symm.trans H; with_reducible exact H2_) | with_reducible exact H | (rw [hy340]; exact H) | exact H
    have Ny340 := Aside0.mk hy340
    clear hy340
    have H' := Aside0.mk H
    clear H
    have p334 : 0 ≤ (x25_1 : Int) := of_decide_eq_true dq26
    have q334 : x25_1 < (l0.length : Int) := of_decide_eq_true dq26
    obtain ⟨ad334, A334_3, c334_3, e334, hx334_0, hx334_1, hx334_2, hx334_3, hl334_3, hi334_3⟩ := at_T39 HR0.out x25_1 p334 q334
    cases e334
    replace hx334_0 := (HB.out.cell (World.block_lt_of_cell? w _ hx334_0)).trans hx334_0
    replace hx334_1 := (HB.out.cell (World.block_lt_of_cell? w _ hx334_1)).trans hx334_1
    replace hx334_2 := (HB.out.cell (World.block_lt_of_cell? w _ hx334_2)).trans hx334_2
    replace hx334_3 := (HB.out.cell (World.block_lt_of_cell? w _ hx334_3)).trans hx334_3
    have HR334_3 := Aside0.mk hi334_3
    have HC334_3 := Aside0.mk hl334_3
    clear hi334_3 hl334_3
    replace p334 := eq_true p334
    replace q334 := eq_true q334
    go_wp2_with (first | ((with_reducible refine gate_dst (N := 11) rfl ?_); refine box_event ?hg (N := 11) ?hd (cs := #[.int .i64 0, .string (⟨#[]⟩ : ByteArray), .string (⟨#[]⟩ : ByteArray), .slice none 0 0]) (t := 39) ?hr ?_; (case hd => rfl); (case hg => rfl); (case hr => exact dq0); intro gb335 hg w41 hbox hb; have n0_ := Aside0.mk (Kd.R_below dq83 hb); have n1_ := Aside0.mk (below_step dq33 hb); have n2_ := Aside0.mk (hbox); have n3_ := Aside0.mk ((dq40 : w.heap.size ≤ gb335)); have n4_ := Aside0.mk ((dq40 : w.heap.size ≤ gb335)); clear HO_9; clear HB; have HO_9 := n0_; have HB := n1_; have BK335 := n2_; have GW335 := n3_; have GE335 := n4_; clear n0_ n1_ n2_ n3_ n4_; clear hb hbox hg; obtain ⟨⟨hcz42_0, hcz42_1, hcz42_2, hcz42_3⟩, hfz42_0, hfz42_1, hfz42_2, hfz42_3⟩ := blkC4 BK335.out) | ((with_reducible refine gate_store (t := 39) (p := 11) rfl ?_); refine store_event (t := 39) (p := 11) (v := ?vo_w43) (w1 := ((((w41.setCell ⟨gb335, 0, none⟩ (.int .i64 ((rd_T39 l0 x25_1).f0))).setCell ⟨gb335, 1, none⟩ (.string ((rd_T39 l0 x25_1).f1))).setCell ⟨gb335, 2, none⟩ (.string ((rd_T39 l0 x25_1).f2))).setCell ⟨gb335, 3, none⟩ (.slice A334_3 ((rd_T39 l0 x25_1).f3).length c334_3))) ?hg ?ho ?hn ?hr ?_; (case ho => rfl); (case hg => rfl); (case hn => rfl); (case hr => exact dq0); intro w43 hw; have n0_ : Aside0 (Kd.R Kd.bool 4 w43 w.heap.size (fun _ => True) v332 x9_1) := ⟨dq82⟩; have n1_ : Aside0 (w43.heap[gb335]? = some (.cells #[.int .i64 ((rd_T39 l0 x25_1).f0), .string ((rd_T39 l0 x25_1).f1), .string ((rd_T39 l0 x25_1).f2), .slice A334_3 ((rd_T39 l0 x25_1).f3).length c334_3] 39 (0, 0))) := ⟨dq81⟩; have n2_ : Aside0 (Below w.heap.size w w43) := ⟨dq80⟩; clear hw; clear HO_9; clear BK335; clear HB; have HO_9 := n0_; have BK335 := n1_; have HB := n2_; clear n0_ n1_ n2_; have p40 : 0 ≤ (x25_1 : Int) := of_decide_eq_true dq26; have q40 : (x25_1 : Int) < ((x9_1.length : Int) : Int) := of_decide_eq_true dq26; obtain ⟨go40, co40, eo40, gb40, gl40, cl40, HG40⟩ := Kd.R_form HO_9.out dq31; (first | cases eo40 | (injection eo40 with ea_ en_ ec_; (first | subst ea_ | (injection ea_ with ea_; subst ea_)); subst ec_; clear en_)); have GB40 := Aside0.mk gb40; have GG40 := Aside0.mk HG40; clear gb40 gl40 HG40; obtain ⟨hx40_0, hf40_0⟩ := Kd.R_celln false HO_9.out (x25_1 : Int) p40 q40; replace p40 := eq_true p40; replace q40 := eq_true q40; obtain ⟨hy44_, hz44_⟩ := Kd.R_celln false HO_9.out (x25_1 : Int) (of_decide_eq_true dq26) (of_decide_eq_true dq26); have HP44 := Kd.R_putg HO_9.out (x25_1 : Int) false) | ((with_reducible refine gate_store (t := 4) (p := 49) rfl ?_); refine store_event (t := 4) (p := 49) (v := ?vo_w45) (w1 := (w43.setCell ⟨go40, (x25_1 : Int).toNat, none⟩ (.bool false))) ?hg ?ho ?hn ?hr ?_; (case ho => rfl); (case hg => rfl); (case hn => rfl); (case hr => exact dq0); intro w45 hw; have hg : w43.grownBy w45 (some go40) := (by rw [hw]; exact HP44.2); have hp_ : Kd.R Kd.bool 4 w45 w.heap.size (fun _ => True) (.slice (some ⟨go40, 0, none⟩) x9_1.length co40) y340 := (by rw [hw, Ny340.out]; exact HP44.1); clear HP44; have n0_ := Aside0.mk (hp_); have n1_ := Aside0.mk (blk_grown (g := gb335) (o := .cells #[.int .i64 ((rd_T39 l0 x25_1).f0), .string ((rd_T39 l0 x25_1).f1), .string ((rd_T39 l0 x25_1).f2), .slice A334_3 ((rd_T39 l0 x25_1).f3).length c334_3] 39 (0, 0)) (by refine blk_up ?_; exact BK335.out) hg (Kd.R_ne HO_9.out BK335.out dq37)); have n2_ := Aside0.mk ((by rw [hw]; exact below_set (HB.out) GB40.out : Below w.heap.size w w45)); clear HO_9; clear BK335; clear HB; have HO_9 := n0_; have BK335 := n1_; have HB := n2_; clear n0_ n1_ n2_; clear hg hw hp_))
    go_roundg k1
    case measure => have := HK1.out; omega
    case rel => exact ⟨(y340), (wrap64 (x25_1 + 1)), dq25, H', ⟨dq27⟩, ⟨dq83⟩, ⟨dq84⟩⟩
   subst c20
   have H1 : (if ((rd_T39 l0 x25_1).f1).toList = ([] : List UInt8) then (if x25_1 < (x9_1.length : Int) then (impl_led.l0 k1 l0 a1 l2 true (x9_1.set (x25_1 : Int).toNat false) l0 (l0.length : Int) (wrap64 (x25_1 + 1))) else (none)) else ((impl_within.f k1 l0 x25_1 a1).bind fun t338 => (if x25_1 < (x9_1.length : Int) then (impl_led.l0 k1 l0 a1 l2 true (x9_1.set (x25_1 : Int).toNat t338) l0 (l0.length : Int) (wrap64 (x25_1 + 1))) else (none)))) = some r := by rw [if_pos rfl] at H; exact H
   clear H
   have H := H1
   clear H1
   by_cases c21 : ((rd_T39 l0 x25_1).f1).toList = ([] : List UInt8)
   ·rw [if_pos c21] at H
    have c21b0 := beq_iff_eq.mpr c21
    have c21b1 := bne_eq_false_iff_eq.mpr c21
    clear c21
    by_cases c22 : x25_1 < (x9_1.length : Int)
    rotate_left
    ·rw [if_neg c22] at H
     exact absurd H dq28
    rw [if_pos c22] at H
    have c22b0 := decide_eq_true c22
    clear c22
    obtain ⟨y337, hy337⟩ : ∃ y_ : List Bool, y_ = (x9_1.set (x25_1 : Int).toNat false) := ⟨_, rfl⟩
    replace H : (impl_led.l0 k1 l0 a1 l2 true y337 l0 (l0.length : Int) (wrap64 (x25_1 + 1))) = some r := by first | (rw [hy337]; with_reducible exact H) | (have H2_ := (Option.bind_some _ _).symm.trans H; rw [hy337]; with_reducible exact H2_) | (have H2_ := (Option.bind_some _ _).symm.trans H; with_reducible exact H2_) | with_reducible exact H | (rw [hy337]; exact H) | exact H
    have Ny337 := Aside0.mk hy337
    clear hy337
    have H' := Aside0.mk H
    clear H
    have p334 : 0 ≤ (x25_1 : Int) := of_decide_eq_true dq26
    have q334 : x25_1 < (l0.length : Int) := of_decide_eq_true dq26
    obtain ⟨ad334, A334_3, c334_3, e334, hx334_0, hx334_1, hx334_2, hx334_3, hl334_3, hi334_3⟩ := at_T39 HR0.out x25_1 p334 q334
    cases e334
    replace hx334_0 := (HB.out.cell (World.block_lt_of_cell? w _ hx334_0)).trans hx334_0
    replace hx334_1 := (HB.out.cell (World.block_lt_of_cell? w _ hx334_1)).trans hx334_1
    replace hx334_2 := (HB.out.cell (World.block_lt_of_cell? w _ hx334_2)).trans hx334_2
    replace hx334_3 := (HB.out.cell (World.block_lt_of_cell? w _ hx334_3)).trans hx334_3
    have HR334_3 := Aside0.mk hi334_3
    have HC334_3 := Aside0.mk hl334_3
    clear hi334_3 hl334_3
    replace p334 := eq_true p334
    replace q334 := eq_true q334
    go_wp2_with (first | ((with_reducible refine gate_dst (N := 11) rfl ?_); refine box_event ?hg (N := 11) ?hd (cs := #[.int .i64 0, .string (⟨#[]⟩ : ByteArray), .string (⟨#[]⟩ : ByteArray), .slice none 0 0]) (t := 39) ?hr ?_; (case hd => rfl); (case hg => rfl); (case hr => exact dq0); intro gb335 hg w24 hbox hb; have n0_ := Aside0.mk (Kd.R_below dq83 hb); have n1_ := Aside0.mk (below_step dq33 hb); have n2_ := Aside0.mk (hbox); have n3_ := Aside0.mk ((dq40 : w.heap.size ≤ gb335)); have n4_ := Aside0.mk ((dq40 : w.heap.size ≤ gb335)); clear HO_9; clear HB; have HO_9 := n0_; have HB := n1_; have BK335 := n2_; have GW335 := n3_; have GE335 := n4_; clear n0_ n1_ n2_ n3_ n4_; clear hb hbox hg; obtain ⟨⟨hcz25_0, hcz25_1, hcz25_2, hcz25_3⟩, hfz25_0, hfz25_1, hfz25_2, hfz25_3⟩ := blkC4 BK335.out) | ((with_reducible refine gate_store (t := 39) (p := 11) rfl ?_); refine store_event (t := 39) (p := 11) (v := ?vo_w26) (w1 := ((((w24.setCell ⟨gb335, 0, none⟩ (.int .i64 ((rd_T39 l0 x25_1).f0))).setCell ⟨gb335, 1, none⟩ (.string ((rd_T39 l0 x25_1).f1))).setCell ⟨gb335, 2, none⟩ (.string ((rd_T39 l0 x25_1).f2))).setCell ⟨gb335, 3, none⟩ (.slice A334_3 ((rd_T39 l0 x25_1).f3).length c334_3))) ?hg ?ho ?hn ?hr ?_; (case ho => rfl); (case hg => rfl); (case hn => rfl); (case hr => exact dq0); intro w26 hw; have n0_ : Aside0 (Kd.R Kd.bool 4 w26 w.heap.size (fun _ => True) v332 x9_1) := ⟨dq82⟩; have n1_ : Aside0 (w26.heap[gb335]? = some (.cells #[.int .i64 ((rd_T39 l0 x25_1).f0), .string ((rd_T39 l0 x25_1).f1), .string ((rd_T39 l0 x25_1).f2), .slice A334_3 ((rd_T39 l0 x25_1).f3).length c334_3] 39 (0, 0))) := ⟨dq81⟩; have n2_ : Aside0 (Below w.heap.size w w26) := ⟨dq80⟩; clear hw; clear HO_9; clear BK335; clear HB; have HO_9 := n0_; have BK335 := n1_; have HB := n2_; clear n0_ n1_ n2_; obtain ⟨⟨hcz27_0, hcz27_1, hcz27_2, hcz27_3⟩, hfz27_0, hfz27_1, hfz27_2, hfz27_3⟩ := blkC4 BK335.out; have p23 : 0 ≤ (x25_1 : Int) := of_decide_eq_true dq26; have q23 : (x25_1 : Int) < ((x9_1.length : Int) : Int) := of_decide_eq_true dq26; obtain ⟨go23, co23, eo23, gb23, gl23, cl23, HG23⟩ := Kd.R_form HO_9.out dq31; (first | cases eo23 | (injection eo23 with ea_ en_ ec_; (first | subst ea_ | (injection ea_ with ea_; subst ea_)); subst ec_; clear en_)); have GB23 := Aside0.mk gb23; have GG23 := Aside0.mk HG23; clear gb23 gl23 HG23; obtain ⟨hx23_0, hf23_0⟩ := Kd.R_celln false HO_9.out (x25_1 : Int) p23 q23; replace p23 := eq_true p23; replace q23 := eq_true q23; obtain ⟨hy28_, hz28_⟩ := Kd.R_celln false HO_9.out (x25_1 : Int) (of_decide_eq_true dq26) (of_decide_eq_true dq26); have HP28 := Kd.R_putg HO_9.out (x25_1 : Int) false) | ((with_reducible refine gate_store (t := 4) (p := 49) rfl ?_); refine store_event (t := 4) (p := 49) (v := ?vo_w29) (w1 := (w26.setCell ⟨go23, (x25_1 : Int).toNat, none⟩ (.bool false))) ?hg ?ho ?hn ?hr ?_; (case ho => rfl); (case hg => rfl); (case hn => rfl); (case hr => exact dq0); intro w29 hw; have hg : w26.grownBy w29 (some go23) := (by rw [hw]; exact HP28.2); have hp_ : Kd.R Kd.bool 4 w29 w.heap.size (fun _ => True) (.slice (some ⟨go23, 0, none⟩) x9_1.length co23) y337 := (by rw [hw, Ny337.out]; exact HP28.1); clear HP28; have n0_ := Aside0.mk (hp_); have n1_ := Aside0.mk (blk_grown (g := gb335) (o := .cells #[.int .i64 ((rd_T39 l0 x25_1).f0), .string ((rd_T39 l0 x25_1).f1), .string ((rd_T39 l0 x25_1).f2), .slice A334_3 ((rd_T39 l0 x25_1).f3).length c334_3] 39 (0, 0)) (by refine blk_up ?_; exact BK335.out) hg (Kd.R_ne HO_9.out BK335.out dq37)); have n2_ := Aside0.mk ((by rw [hw]; exact below_set (HB.out) GB23.out : Below w.heap.size w w29)); clear HO_9; clear BK335; clear HB; have HO_9 := n0_; have BK335 := n1_; have HB := n2_; clear n0_ n1_ n2_; clear hg hw hp_))
    go_roundg k1
    case measure => have := HK1.out; omega
    case rel => exact ⟨(y337), (wrap64 (x25_1 + 1)), dq25, H', ⟨dq27⟩, ⟨dq83⟩, ⟨dq84⟩⟩
   rw [if_neg c21] at H
   have c21b0 := beq_eq_false_iff_ne.mpr c21
   have c21b1 := bne_iff_ne.mpr c21
   replace H := Option.bind_eq_some_iff.mp H
   obtain ⟨t338, A300, H⟩ := H
   replace H : (if x25_1 < (x9_1.length : Int) then (impl_led.l0 k1 l0 a1 l2 true (x9_1.set (x25_1 : Int).toNat t338) l0 (l0.length : Int) (wrap64 (x25_1 + 1))) else (none)) = some r := H
   have A30 := Aside0.mk A300
   clear A300
   by_cases c31 : x25_1 < (x9_1.length : Int)
   rotate_left
   ·rw [if_neg c31] at H
    exact absurd H dq28
   rw [if_pos c31] at H
   have c31b0 := decide_eq_true c31
   clear c31
   obtain ⟨y339, hy339⟩ : ∃ y_ : List Bool, y_ = (x9_1.set (x25_1 : Int).toNat t338) := ⟨_, rfl⟩
   replace H : (impl_led.l0 k1 l0 a1 l2 true y339 l0 (l0.length : Int) (wrap64 (x25_1 + 1))) = some r := by first | (rw [hy339]; with_reducible exact H) | (have H2_ := (Option.bind_some _ _).symm.trans H; rw [hy339]; with_reducible exact H2_) | (have H2_ := (Option.bind_some _ _).symm.trans H; with_reducible exact H2_) | with_reducible exact H | (rw [hy339]; exact H) | exact H
   have Ny339 := Aside0.mk hy339
   clear hy339
   have H' := Aside0.mk H
   clear H
   have p334 : 0 ≤ (x25_1 : Int) := of_decide_eq_true dq26
   have q334 : x25_1 < (l0.length : Int) := of_decide_eq_true dq26
   obtain ⟨ad334, A334_3, c334_3, e334, hx334_0, hx334_1, hx334_2, hx334_3, hl334_3, hi334_3⟩ := at_T39 HR0.out x25_1 p334 q334
   cases e334
   replace hx334_0 := (HB.out.cell (World.block_lt_of_cell? w _ hx334_0)).trans hx334_0
   replace hx334_1 := (HB.out.cell (World.block_lt_of_cell? w _ hx334_1)).trans hx334_1
   replace hx334_2 := (HB.out.cell (World.block_lt_of_cell? w _ hx334_2)).trans hx334_2
   replace hx334_3 := (HB.out.cell (World.block_lt_of_cell? w _ hx334_3)).trans hx334_3
   have HR334_3 := Aside0.mk hi334_3
   have HC334_3 := Aside0.mk hl334_3
   clear hi334_3 hl334_3
   replace p334 := eq_true p334
   replace q334 := eq_true q334
   go_wp2_with (first | ((with_reducible refine gate_dst (N := 11) rfl ?_); refine box_event ?hg (N := 11) ?hd (cs := #[.int .i64 0, .string (⟨#[]⟩ : ByteArray), .string (⟨#[]⟩ : ByteArray), .slice none 0 0]) (t := 39) ?hr ?_; (case hd => rfl); (case hg => rfl); (case hr => exact dq0); intro gb335 hg w33 hbox hb; have n0_ := Aside0.mk (Kd.R_below dq83 hb); have n1_ := Aside0.mk (below_step dq33 hb); have n2_ := Aside0.mk (hbox); have n3_ := Aside0.mk ((dq40 : w.heap.size ≤ gb335)); have n4_ := Aside0.mk ((dq40 : w.heap.size ≤ gb335)); clear HO_9; clear HB; have HO_9 := n0_; have HB := n1_; have BK335 := n2_; have GW335 := n3_; have GE335 := n4_; clear n0_ n1_ n2_ n3_ n4_; clear hb hbox hg; obtain ⟨⟨hcz34_0, hcz34_1, hcz34_2, hcz34_3⟩, hfz34_0, hfz34_1, hfz34_2, hfz34_3⟩ := blkC4 BK335.out) | ((with_reducible refine gate_store (t := 39) (p := 11) rfl ?_); refine store_event (t := 39) (p := 11) (v := ?vo_w35) (w1 := ((((w33.setCell ⟨gb335, 0, none⟩ (.int .i64 ((rd_T39 l0 x25_1).f0))).setCell ⟨gb335, 1, none⟩ (.string ((rd_T39 l0 x25_1).f1))).setCell ⟨gb335, 2, none⟩ (.string ((rd_T39 l0 x25_1).f2))).setCell ⟨gb335, 3, none⟩ (.slice A334_3 ((rd_T39 l0 x25_1).f3).length c334_3))) ?hg ?ho ?hn ?hr ?_; (case ho => rfl); (case hg => rfl); (case hn => rfl); (case hr => exact dq0); intro w35 hw; have n0_ : Aside0 (Kd.R Kd.bool 4 w35 w.heap.size (fun _ => True) v332 x9_1) := ⟨dq82⟩; have n1_ : Aside0 (w35.heap[gb335]? = some (.cells #[.int .i64 ((rd_T39 l0 x25_1).f0), .string ((rd_T39 l0 x25_1).f1), .string ((rd_T39 l0 x25_1).f2), .slice A334_3 ((rd_T39 l0 x25_1).f3).length c334_3] 39 (0, 0))) := ⟨dq81⟩; have n2_ : Aside0 (Below w.heap.size w w35) := ⟨dq80⟩; clear hw; clear HO_9; clear BK335; clear HB; have HO_9 := n0_; have BK335 := n1_; have HB := n2_; clear n0_ n1_ n2_; obtain ⟨⟨hcz36_0, hcz36_1, hcz36_2, hcz36_3⟩, hfz36_0, hfz36_1, hfz36_2, hfz36_3⟩ := blkC4 BK335.out) | (go_at_call 84; (with_reducible refine (impl_within.calls k1 _ _ l0 x25_1 a1 t338 _ ?side1 ?side2 A30.out).mono ?_); (case side1 => exact dq1); (case side2 => exact HC0.out); rintro e w' ⟨rfl, ⟨nd, rfl⟩⟩; (try (rw [drewN_self w35]; generalize hq_ : World.drewN w35 _ = w35; have n0_ : Aside0 (Kd.R Kd.bool 4 w35 w.heap.size (fun _ => True) v332 x9_1) := ⟨by rw [← hq_]; exact dq83⟩; have n1_ : Aside0 (w35.heap[gb335]? = some (.cells #[.int .i64 ((rd_T39 l0 x25_1).f0), .string ((rd_T39 l0 x25_1).f1), .string ((rd_T39 l0 x25_1).f2), .slice A334_3 ((rd_T39 l0 x25_1).f3).length c334_3] 39 (0, 0))) := ⟨by rw [← hq_]; exact (by refine blk_up ?_; exact BK335.out)⟩; have n2_ : Aside0 (Below w.heap.size w w35) := ⟨by rw [← hq_]; exact dq84⟩; clear HO_9 BK335 HB hq_; have HO_9 := n0_; have BK335 := n1_; have HB := n2_; clear n0_ n1_ n2_)); have p32 : 0 ≤ (x25_1 : Int) := of_decide_eq_true dq26; have q32 : (x25_1 : Int) < ((x9_1.length : Int) : Int) := of_decide_eq_true dq26; obtain ⟨go32, co32, eo32, gb32, gl32, cl32, HG32⟩ := Kd.R_form HO_9.out dq31; (first | cases eo32 | (injection eo32 with ea_ en_ ec_; (first | subst ea_ | (injection ea_ with ea_; subst ea_)); subst ec_; clear en_)); have GB32 := Aside0.mk gb32; have GG32 := Aside0.mk HG32; clear gb32 gl32 HG32; obtain ⟨hx32_0, hf32_0⟩ := Kd.R_celln false HO_9.out (x25_1 : Int) p32 q32; replace p32 := eq_true p32; replace q32 := eq_true q32; obtain ⟨hy37_, hz37_⟩ := Kd.R_celln false HO_9.out (x25_1 : Int) (of_decide_eq_true dq26) (of_decide_eq_true dq26); have HP37 := Kd.R_putg HO_9.out (x25_1 : Int) t338) | ((with_reducible refine gate_store (t := 4) (p := 49) rfl ?_); refine store_event (t := 4) (p := 49) (v := ?vo_w38) (w1 := (w35.setCell ⟨go32, (x25_1 : Int).toNat, none⟩ (.bool t338))) ?hg ?ho ?hn ?hr ?_; (case ho => rfl); (case hg => rfl); (case hn => rfl); (case hr => exact dq0); intro w38 hw; have hg : w35.grownBy w38 (some go32) := (by rw [hw]; exact HP37.2); have hp_ : Kd.R Kd.bool 4 w38 w.heap.size (fun _ => True) (.slice (some ⟨go32, 0, none⟩) x9_1.length co32) y339 := (by rw [hw, Ny339.out]; exact HP37.1); clear HP37; have n0_ := Aside0.mk (hp_); have n1_ := Aside0.mk (blk_grown (g := gb335) (o := .cells #[.int .i64 ((rd_T39 l0 x25_1).f0), .string ((rd_T39 l0 x25_1).f1), .string ((rd_T39 l0 x25_1).f2), .slice A334_3 ((rd_T39 l0 x25_1).f3).length c334_3] 39 (0, 0)) (by refine blk_up ?_; exact BK335.out) hg (Kd.R_ne HO_9.out BK335.out dq37)); have n2_ := Aside0.mk ((by rw [hw]; exact below_set (HB.out) GB32.out : Below w.heap.size w w38)); clear HO_9; clear BK335; clear HB; have HO_9 := n0_; have BK335 := n1_; have HB := n2_; clear n0_ n1_ n2_; clear hg hw hp_))
   go_roundg k1
   case measure => have := HK1.out; omega
   case rel => exact ⟨(y339), (wrap64 (x25_1 + 1)), dq25, H', ⟨dq27⟩, ⟨dq83⟩, ⟨dq84⟩⟩
  rw [if_neg c9] at H
  have c9b0 := decide_eq_false c9
  clear c9
  have H' := Aside0.mk H
  clear H
  go_wp2
  go_loopg [9, 53] k1 (fun kq v9 v53 w' => ∃ (x9_2 : List Bool) (x53_2 : Int), v53 = .int .i64 x53_2 ∧ Aside0 (impl_led.l1 kq l0 x9_2 l2 (l2.length : Int) x53_2 = some r) ∧ Aside0 (kq ≤ k1) ∧ Aside0 (Kd.R Kd.bool 4 w' w.heap.size (fun _ => True) v9 x9_2) ∧ Aside0 (Below w.heap.size w w'))
  case atStart => exact ⟨(x9_1), (0), dq25, H', ⟨Nat.le_refl _⟩, ⟨dq83⟩, ⟨dq33⟩⟩
  clear H'
  try clear c9b0
  obtain ⟨x9_2, x53_2, rfl, HA, HK2, HO_9, HB⟩ := hrel
  cases gk with
  | zero => exact absurd HA.out (by simp [impl_led.l1])
  | succ k2 =>
   have H := HA.out
   clear HA
   simp only [impl_led.l1] at H
   by_cases c46 : x53_2 < (l2.length : Int)
   rotate_left
   ·rw [if_neg c46] at H
    have c46b0 := decide_eq_false c46
    clear c46
    obtain ⟨y351, hy351⟩ : ∃ y_ : List Int, y_ = (([] : List Int)) := ⟨_, rfl⟩
    replace H : (impl_led.l3 k2 y351 x9_2 (x9_2.length : Int) 0) = some r := by first | (rw [hy351]; with_reducible exact H) | (have H2_ := (Option.bind_some _ _).symm.trans H; rw [hy351]; with_reducible exact H2_) | (have H2_ := (Option.bind_some _ _).symm.trans H; with_reducible exact H2_) | with_reducible exact H | (rw [hy351]; exact H) | exact H
    have Ny351 := Aside0.mk hy351
    clear hy351
    have H' := Aside0.mk H
    clear H
    go_wp2_with (first | ((with_reducible refine gate_dst (N := 89) rfl ?_); refine Kd.R_lit (Kd.int .i64) _ 2 ?hg (N := 89) ?hd (xs := ([] : List Int)) (inner := []) (ok := fun _ => True) (okp := fun _ => True) ?hr ?hp (fun _ hk => hk) trivial (Below.refl _ _) (Nat.le_refl _) dq28 ?_; (case hd => rfl); (case hg => rfl); (case hr => exact dq0); (case hp => exact (Reps.none _ _)); intro v352 w87 ho88 hb hg_ hnew_; clear hg_ hnew_; (first | rw [← Ny351.out] at ho88 | (simp only [Int.reduceToNat] at ho88; rw [← Ny351.out] at ho88)); have n0_ := Aside0.mk (Kd.R_below dq83 hb); have n1_ := Aside0.mk (Kd.R_lower ho88 (below_size dq33)); have n2_ := Aside0.mk (below_step dq33 hb); clear HO_9; clear HB; have HO_9 := n0_; have HO353 := n1_; have HB := n2_; clear n0_ n1_ n2_; clear hb ho88; obtain ⟨Ao89, co89, eo89⟩ := Kd.R_slice HO_9.out; subst eo89))
    go_loopg [17, 92] k2 (fun kq v17 v92 w' => ∃ (x17_3 : List Int) (x92_3 : Int), v92 = .int .i64 x92_3 ∧ Aside0 (impl_led.l3 kq x17_3 x9_2 (x9_2.length : Int) x92_3 = some r) ∧ Aside0 (kq ≤ k2) ∧ Aside0 (Kd.R (Kd.int .i64) 2 w' w.heap.size (fun _ => True) v17 x17_3) ∧ Aside0 (Kd.R Kd.bool 4 w' w.heap.size (fun _ => True) (.slice Ao89 x9_2.length co89) x9_2) ∧ Aside0 (Below w.heap.size w w'))
    case atStart => exact ⟨(y351), (0), dq25, H', ⟨Nat.le_refl _⟩, ⟨by (with_reducible repeat (first | apply Kd.R_alloc | apply Kd.R_drewN | apply Kd.R_drew)); exact HO353.out⟩, ⟨dq83⟩, ⟨dq33⟩⟩
    clear H'
    try clear c46b0
    obtain ⟨x17_3, x92_3, rfl, HA, HK3, HO_17, HO_90, HB⟩ := hrel
    cases gk with
    | zero => exact absurd HA.out (by simp [impl_led.l3])
    | succ k3 =>
     have H := HA.out
     clear HA
     simp only [impl_led.l3] at H
     by_cases c90 : x92_3 < (x9_2.length : Int)
     rotate_left
     ·rw [if_neg c90] at H
      have c90b0 := decide_eq_false c90
      clear c90
      obtain rfl := Option.some.inj H
      go_wp2
      go_ret
      exact ⟨_, dq35, dq93, dq33⟩
     rw [if_pos c90] at H
     have c90b0 := decide_eq_true c90
     clear c90
     by_cases c91 : 0 ≤ x92_3
     rotate_left
     ·rw [if_neg c91] at H
      exact absurd H dq28
     rw [if_pos c91] at H
     have c91b0 := decide_eq_true c91
     clear c91
     by_cases c92 : x92_3 < (x9_2.length : Int)
     rotate_left
     ·rw [if_neg c92] at H
      exact absurd H dq28
     rw [if_pos c92] at H
     have c92b0 := decide_eq_true c92
     clear c92
     obtain ⟨bq93, hbq93⟩ : ∃ b_ : Bool, b_ = (rdOf false x9_2 x92_3) := ⟨_, rfl⟩
     replace H : (if bq93 = true then (if x17_3.length < 17592186044416 then (impl_led.l3 k3 (x17_3 ++ [x92_3]) x9_2 (x9_2.length : Int) (wrap64 (x92_3 + 1))) else (none)) else (impl_led.l3 k3 x17_3 x9_2 (x9_2.length : Int) (wrap64 (x92_3 + 1)))) = some r := by rw [← hbq93] at H; exact H
     have Nbq93 := Aside0.mk hbq93
     clear hbq93
     by_cases c94 : bq93 = true
     rotate_left
     ·replace c94 := Bool.eq_false_iff.mpr c94
      subst c94
      have H1 : (impl_led.l3 k3 x17_3 x9_2 (x9_2.length : Int) (wrap64 (x92_3 + 1))) = some r := by rw [if_neg (show ¬ (false = true) by decide)] at H; exact H
      clear H
      have H := H1
      clear H1
      have H' := Aside0.mk H
      clear H
      have p354 : 0 ≤ (x92_3 : Int) := of_decide_eq_true dq26
      have q354 : x92_3 < (x9_2.length : Int) := of_decide_eq_true dq26
      obtain ⟨ad354, e354, hx354_0⟩ := Kd.at_bool (Kd.R_reads' HO_90.out).2.2 x92_3 p354 q354
      (try rw [← Nbq93.out] at hx354_0)
      cases e354
      replace p354 := eq_true p354
      replace q354 := eq_true q354
      go_wp2
      go_roundg k3
      case measure => have := HK1.out; have := HK2.out; have := HK3.out; omega
      case rel => exact ⟨(x17_3), (wrap64 (x92_3 + 1)), dq25, H', ⟨dq92⟩, ⟨dq93⟩, ⟨dq94⟩, ⟨dq33⟩⟩
     subst c94
     have H1 : (if x17_3.length < 17592186044416 then (impl_led.l3 k3 (x17_3 ++ [x92_3]) x9_2 (x9_2.length : Int) (wrap64 (x92_3 + 1))) else (none)) = some r := by rw [if_pos rfl] at H; exact H
     clear H
     have H := H1
     clear H1
     by_cases c95 : x17_3.length < 17592186044416
     rotate_left
     ·rw [if_neg c95] at H
      exact absurd H dq28
     rw [if_pos c95] at H
     have LMc95 := Aside0.mk c95
     clear c95
     obtain ⟨y355, hy355⟩ : ∃ y_ : List Int, y_ = (x17_3 ++ [x92_3]) := ⟨_, rfl⟩
     replace H : (impl_led.l3 k3 y355 x9_2 (x9_2.length : Int) (wrap64 (x92_3 + 1))) = some r := by first | (rw [hy355]; with_reducible exact H) | (have H2_ := (Option.bind_some _ _).symm.trans H; rw [hy355]; with_reducible exact H2_) | (have H2_ := (Option.bind_some _ _).symm.trans H; with_reducible exact H2_) | with_reducible exact H | (rw [hy355]; exact H) | exact H
     have Ny355 := Aside0.mk hy355
     clear hy355
     have H' := Aside0.mk H
     clear H
     have p354 : 0 ≤ (x92_3 : Int) := of_decide_eq_true dq26
     have q354 : x92_3 < (x9_2.length : Int) := of_decide_eq_true dq26
     obtain ⟨ad354, e354, hx354_0⟩ := Kd.at_bool (Kd.R_reads' HO_90.out).2.2 x92_3 p354 q354
     (try rw [← Nbq93.out] at hx354_0)
     cases e354
     replace p354 := eq_true p354
     replace q354 := eq_true q354
     go_wp2_with (first | ((with_reducible refine gate_builtin (b := .append) (xs := #[.tmp 98, .tmp 100]) rfl ?_); at_builtin; refine Kd.R_append (Kd.int .i64) (w0 := w) w.heap.size rfl (.tmp 98) (.tmp 100) 24 2 (.int .i64 0) 8 rfl Tryd.underlying24 info2 rfl dq37 dq31 u17 x17_3 x92_3 [.int .i64 x92_3] (fun _ => True) (fun _ => False) rfl rfl ?aP (fun _ hk => hk.elim) ?aF ?aO ?aB ?aS ?aL ?_; (case aP => exact rfl); (case aB => exact dq33); (case aF => exact (fun _ _ => trivial)); (case aO => exact dq93); (case aS => exact (below_size dq33)); (case aL => have := LMc95.out; omega); intro v356 w96 ho hb hg hat; rw [← Ny355.out] at ho; have n0_ := Aside0.mk (Kd.R_over' dq94 (Kd.R_typed dq93) dq37 hg); have n1_ := Aside0.mk (hb); have n2_ := Aside0.mk (ho); clear HO_90; clear HB; clear HO_17; have HO_90 := n0_; have HB := n1_; have HO357 := n2_; clear n0_ n1_ n2_; clear ho hb hg hat))
     go_roundg k3
     case measure => have := HK1.out; have := HK2.out; have := HK3.out; omega
     case rel => exact ⟨(y355), (wrap64 (x92_3 + 1)), dq25, H', ⟨dq92⟩, ⟨by (with_reducible repeat (first | apply Kd.R_alloc | apply Kd.R_drewN | apply Kd.R_drew)); exact HO357.out⟩, ⟨dq94⟩, ⟨dq33⟩⟩
   rw [if_pos c46] at H
   have c46b0 := decide_eq_true c46
   clear c46
   by_cases c47 : 0 ≤ x53_2
   rotate_left
   ·rw [if_neg c47] at H
    exact absurd H dq28
   rw [if_pos c47] at H
   have c47b0 := decide_eq_true c47
   clear c47
   by_cases c48 : x53_2 < (l2.length : Int)
   rotate_left
   ·rw [if_neg c48] at H
    exact absurd H dq28
   rw [if_pos c48] at H
   have c48b0 := decide_eq_true c48
   clear c48
   by_cases c49 : 0 ≤ (l0.length : Int)
   rotate_left
   ·rw [if_neg c49] at H
    exact absurd H dq28
   rw [if_pos c49] at H
   have c49b0 := eq_true c49
   have c49b1 := decide_eq_true c49
   clear c49
   by_cases c50 : ((l0.length : Int) : Int).toNat ≤ 281474976710656
   rotate_left
   ·rw [if_neg c50] at H
    exact absurd H dq28
   rw [if_pos c50] at H
   have c50b0 := eq_true c50
   have c50b1 := decide_eq_true c50
   clear c50
   obtain ⟨y342, hy342⟩ : ∃ y_ : List Bool, y_ = (List.replicate ((l0.length : Int) : Int).toNat false) := ⟨_, rfl⟩
   replace H : (impl_led.l2 k2 l0 x9_2 (rdOf ByteArray.empty l2 x53_2) y342 l2 (l2.length : Int) x53_2 l0 (l0.length : Int) 0) = some r := by first | (rw [hy342]; with_reducible exact H) | (have H2_ := (Option.bind_some _ _).symm.trans H; rw [hy342]; with_reducible exact H2_) | (have H2_ := (Option.bind_some _ _).symm.trans H; with_reducible exact H2_) | with_reducible exact H | (rw [hy342]; exact H) | exact H
   have Ny342 := Aside0.mk hy342
   clear hy342
   have H' := Aside0.mk H
   clear H
   have p341 : 0 ≤ (x53_2 : Int) := of_decide_eq_true dq26
   have q341 : x53_2 < (l2.length : Int) := of_decide_eq_true dq26
   obtain ⟨ad341, e341, hx341_0⟩ := Kd.at_string HR2.out x53_2 p341 q341
   cases e341
   replace hx341_0 := (HB.out.cell (World.block_lt_of_cell? w _ hx341_0)).trans hx341_0
   replace p341 := eq_true p341
   replace q341 := eq_true q341
   go_wp2_with (first | ((with_reducible refine gate_dst (N := 59) rfl ?_); refine Kd.R_make Kd.bool _ 4 rfl (N := 59) rfl 95 _ _ rfl (l0.length : Int) rfl rfl Tryd.underlying95 (.bool false) 1 info4 rfl dq37 dq31 false (ok := fun _ => True) (okp := fun _ => True) rfl (fun _ hk => hk) trivial (of_decide_eq_true dq26) (Nat.le_trans (Nat.mul_le_mul_right _ (of_decide_eq_true dq26 : (l0.length : Int).toNat ≤ 281474976710656)) dq31) (Below.refl _ _) (Nat.le_refl _) ?_; intro v343 w51 ho52 hb hg_ hnew_; clear hg_ hnew_; (first | rw [← Ny342.out] at ho52 | (simp only [Int.reduceToNat] at ho52; rw [← Ny342.out] at ho52)); have n0_ := Aside0.mk (Kd.R_elder' dq83 (Kd.R_base ho52) hb); have n1_ := Aside0.mk (Kd.R_lower (Kd.R_new' ho52 (Kd.R_lt dq83)) (below_size dq33)); have n2_ := Aside0.mk (below_step dq33 hb); clear HO_9; clear HB; have HO_9 := n0_; have HO344 := n1_; have HB := n2_; clear n0_ n1_ n2_; clear hb ho52))
   go_loopg [62] k2 (fun kq v62 w' => ∃ (x14_3 : List Bool) (x62_3 : Int), v62 = .int .i64 x62_3 ∧ Aside0 (impl_led.l2 kq l0 x9_2 (rdOf ByteArray.empty l2 x53_2) x14_3 l2 (l2.length : Int) x53_2 l0 (l0.length : Int) x62_3 = some r) ∧ Aside0 (kq ≤ k2) ∧ Aside0 (Kd.R Kd.bool 4 w' w.heap.size (fun k_ => some k_ ≠ (v343 : Value).ownBlock) u9 x9_2) ∧ Aside0 (Kd.R Kd.bool 4 w' w.heap.size (fun k_ => some k_ ≠ (u9 : Value).ownBlock) v343 x14_3) ∧ Aside0 (Below w.heap.size w w'))
   case atStart => exact ⟨(y342), (0), dq25, H', ⟨Nat.le_refl _⟩, ⟨dq85⟩, ⟨by (with_reducible repeat (first | apply Kd.R_alloc | apply Kd.R_drewN | apply Kd.R_drew)); exact Kd.R_mono HO344.out (fun _ hk => hk.2)⟩, ⟨dq33⟩⟩
   clear H'
   try clear c46b0
   try clear c47b0
   try clear c48b0
   try clear c49b0
   try clear c49b1
   try clear c50b0
   try clear c50b1
   try clear hx341_0
   try clear p341
   try clear q341
   obtain ⟨x14_3, x62_3, rfl, HA, HK3, HO_9, HO_14, HB⟩ := hrel
   cases gk with
   | zero => exact absurd HA.out (by simp [impl_led.l2])
   | succ k3 =>
    have H := HA.out
    clear HA
    simp only [impl_led.l2] at H
    by_cases c53 : x62_3 < (l0.length : Int)
    rotate_left
    ·rw [if_neg c53] at H
     have c53b0 := decide_eq_false c53
     clear c53
     have H' := Aside0.mk H
     clear H
     go_wp2
     go_roundg k3
     case measure => have := HK1.out; have := HK2.out; have := HK3.out; omega
     case rel => exact ⟨(x14_3), (wrap64 (x53_2 + 1)), dq25, H', ⟨dq92⟩, ⟨by (with_reducible repeat (first | apply Kd.R_alloc | apply Kd.R_drewN | apply Kd.R_drew)); exact Kd.R_mono HO_14.out (fun _ hk => trivial)⟩, ⟨dq33⟩⟩
    rw [if_pos c53] at H
    have c53b0 := decide_eq_true c53
    clear c53
    by_cases c54 : 0 ≤ x62_3
    rotate_left
    ·rw [if_neg c54] at H
     exact absurd H dq28
    rw [if_pos c54] at H
    have c54b0 := decide_eq_true c54
    clear c54
    by_cases c55 : x62_3 < (l0.length : Int)
    rotate_left
    ·rw [if_neg c55] at H
     exact absurd H dq28
    rw [if_pos c55] at H
    have c55b0 := decide_eq_true c55
    clear c55
    by_cases c56 : ((rd_T39 l0 x62_3).f0) ≥ 0
    rotate_left
    ·rw [if_neg c56] at H
     have c56b0 : decide (0 ≤ ((rd_T39 l0 x62_3).f0)) = false := decide_eq_false c56
     clear c56
     by_cases c79 : x62_3 < (x14_3.length : Int)
     rotate_left
     ·rw [if_neg c79] at H
      exact absurd H dq28
     rw [if_pos c79] at H
     have c79b0 := decide_eq_true c79
     clear c79
     obtain ⟨y350, hy350⟩ : ∃ y_ : List Bool, y_ = (x14_3.set (x62_3 : Int).toNat false) := ⟨_, rfl⟩
     replace H : (impl_led.l2 k3 l0 x9_2 (rdOf ByteArray.empty l2 x53_2) y350 l2 (l2.length : Int) x53_2 l0 (l0.length : Int) (wrap64 (x62_3 + 1))) = some r := by first | (rw [hy350]; with_reducible exact H) | (have H2_ := (Option.bind_some _ _).symm.trans H; rw [hy350]; with_reducible exact H2_) | (have H2_ := (Option.bind_some _ _).symm.trans H; with_reducible exact H2_) | with_reducible exact H | (rw [hy350]; exact H) | exact H
     have Ny350 := Aside0.mk hy350
     clear hy350
     have H' := Aside0.mk H
     clear H
     have p345 : 0 ≤ (x62_3 : Int) := of_decide_eq_true dq26
     have q345 : x62_3 < (l0.length : Int) := of_decide_eq_true dq26
     obtain ⟨ad345, A345_3, c345_3, e345, hx345_0, hx345_1, hx345_2, hx345_3, hl345_3, hi345_3⟩ := at_T39 HR0.out x62_3 p345 q345
     cases e345
     replace hx345_0 := (HB.out.cell (World.block_lt_of_cell? w _ hx345_0)).trans hx345_0
     replace hx345_1 := (HB.out.cell (World.block_lt_of_cell? w _ hx345_1)).trans hx345_1
     replace hx345_2 := (HB.out.cell (World.block_lt_of_cell? w _ hx345_2)).trans hx345_2
     replace hx345_3 := (HB.out.cell (World.block_lt_of_cell? w _ hx345_3)).trans hx345_3
     have HR345_3 := Aside0.mk hi345_3
     have HC345_3 := Aside0.mk hl345_3
     clear hi345_3 hl345_3
     replace p345 := eq_true p345
     replace q345 := eq_true q345
     go_wp2_with (first | ((with_reducible refine gate_dst (N := 16) rfl ?_); refine box_event ?hg (N := 16) ?hd (cs := #[.int .i64 0, .string (⟨#[]⟩ : ByteArray), .string (⟨#[]⟩ : ByteArray), .slice none 0 0]) (t := 39) ?hr ?_; (case hd => rfl); (case hg => rfl); (case hr => exact dq0); intro gb346 hg w81 hbox hb; have n0_ := Aside0.mk (Kd.R_below dq83 hb); have n1_ := Aside0.mk (Kd.R_below dq55 hb); have n2_ := Aside0.mk (below_step dq33 hb); have n3_ := Aside0.mk (hbox); have n4_ := Aside0.mk ((dq40 : w.heap.size ≤ gb346)); have n5_ := Aside0.mk ((dq40 : w.heap.size ≤ gb346)); clear HO_9; clear HO_14; clear HB; have HO_9 := n0_; have HO_14 := n1_; have HB := n2_; have BK346 := n3_; have GW346 := n4_; have GE346 := n5_; clear n0_ n1_ n2_ n3_ n4_ n5_; clear hb hbox hg; obtain ⟨⟨hcz82_0, hcz82_1, hcz82_2, hcz82_3⟩, hfz82_0, hfz82_1, hfz82_2, hfz82_3⟩ := blkC4 BK346.out) | ((with_reducible refine gate_store (t := 39) (p := 16) rfl ?_); refine store_event (t := 39) (p := 16) (v := ?vo_w83) (w1 := ((((w81.setCell ⟨gb346, 0, none⟩ (.int .i64 ((rd_T39 l0 x62_3).f0))).setCell ⟨gb346, 1, none⟩ (.string ((rd_T39 l0 x62_3).f1))).setCell ⟨gb346, 2, none⟩ (.string ((rd_T39 l0 x62_3).f2))).setCell ⟨gb346, 3, none⟩ (.slice A345_3 ((rd_T39 l0 x62_3).f3).length c345_3))) ?hg ?ho ?hn ?hr ?_; (case ho => rfl); (case hg => rfl); (case hn => rfl); (case hr => exact dq0); intro w83 hw; have n0_ : Aside0 (Kd.R Kd.bool 4 w83 w.heap.size (fun k_ => some k_ ≠ (v343 : Value).ownBlock) u9 x9_2) := ⟨dq90⟩; have n1_ : Aside0 (Kd.R Kd.bool 4 w83 w.heap.size (fun k_ => some k_ ≠ (u9 : Value).ownBlock) v343 x14_3) := ⟨dq89⟩; have n2_ : Aside0 (w83.heap[gb346]? = some (.cells #[.int .i64 ((rd_T39 l0 x62_3).f0), .string ((rd_T39 l0 x62_3).f1), .string ((rd_T39 l0 x62_3).f2), .slice A345_3 ((rd_T39 l0 x62_3).f3).length c345_3] 39 (0, 0))) := ⟨dq88⟩; have n3_ : Aside0 (Below w.heap.size w w83) := ⟨dq87⟩; clear hw; clear HO_9; clear HO_14; clear BK346; clear HB; have HO_9 := n0_; have HO_14 := n1_; have BK346 := n2_; have HB := n3_; clear n0_ n1_ n2_ n3_; obtain ⟨⟨hcz84_0, hcz84_1, hcz84_2, hcz84_3⟩, hfz84_0, hfz84_1, hfz84_2, hfz84_3⟩ := blkC4 BK346.out; have p80 : 0 ≤ (x62_3 : Int) := of_decide_eq_true dq26; have q80 : (x62_3 : Int) < ((x14_3.length : Int) : Int) := of_decide_eq_true dq26; obtain ⟨go80, co80, eo80, gb80, gl80, cl80, HG80⟩ := Kd.R_form HO_14.out dq31; (first | cases eo80 | (injection eo80 with ea_ en_ ec_; (first | subst ea_ | (injection ea_ with ea_; subst ea_)); subst ec_; clear en_)); have GB80 := Aside0.mk gb80; have GG80 := Aside0.mk HG80; clear gb80 gl80 HG80; obtain ⟨hx80_0, hf80_0⟩ := Kd.R_celln false HO_14.out (x62_3 : Int) p80 q80; replace p80 := eq_true p80; replace q80 := eq_true q80; obtain ⟨hy85_, hz85_⟩ := Kd.R_celln false HO_14.out (x62_3 : Int) (of_decide_eq_true dq26) (of_decide_eq_true dq26); have HP85 := Kd.R_putg HO_14.out (x62_3 : Int) false) | ((with_reducible refine gate_store (t := 4) (p := 85) rfl ?_); refine store_event (t := 4) (p := 85) (v := ?vo_w86) (w1 := (w83.setCell ⟨go80, (x62_3 : Int).toNat, none⟩ (.bool false))) ?hg ?ho ?hn ?hr ?_; (case ho => rfl); (case hg => rfl); (case hn => rfl); (case hr => exact dq0); intro w86 hw; have hg : w83.grownBy w86 (some go80) := (by rw [hw]; exact HP85.2); have hp_ : Kd.R Kd.bool 4 w86 w.heap.size (fun k_ => some k_ ≠ (u9 : Value).ownBlock) (.slice (some ⟨go80, 0, none⟩) x14_3.length co80) y350 := (by rw [hw, Ny350.out]; exact HP85.1); clear HP85; have n0_ := Aside0.mk (Kd.R_after (v := (.slice (some ⟨go80, 0, none⟩) x14_3.length co80)) (v1 := (.slice (some ⟨go80, 0, none⟩) x14_3.length co80)) (ok := (fun _ => True)) dq86 hg (.inl rfl)); have n1_ := Aside0.mk (hp_); have n2_ := Aside0.mk (blk_grown (g := gb346) (o := .cells #[.int .i64 ((rd_T39 l0 x62_3).f0), .string ((rd_T39 l0 x62_3).f1), .string ((rd_T39 l0 x62_3).f2), .slice A345_3 ((rd_T39 l0 x62_3).f3).length c345_3] 39 (0, 0)) (by refine blk_up ?_; exact BK346.out) hg (Kd.R_ne HO_14.out BK346.out dq37)); have n3_ := Aside0.mk ((by rw [hw]; exact below_set (HB.out) GB80.out : Below w.heap.size w w86)); clear HO_9; clear HO_14; clear BK346; clear HB; have HO_9 := n0_; have HO_14 := n1_; have BK346 := n2_; have HB := n3_; clear n0_ n1_ n2_ n3_; clear hg hw hp_))
     go_roundg k3
     case measure => have := HK1.out; have := HK2.out; have := HK3.out; omega
     case rel => exact ⟨(y350), (wrap64 (x62_3 + 1)), dq25, H', ⟨dq92⟩, ⟨dq85⟩, ⟨dq55⟩, ⟨dq91⟩⟩
    rw [if_pos c56] at H
    have c56b0 : decide (0 ≤ ((rd_T39 l0 x62_3).f0)) = true := decide_eq_true c56
    clear c56
    by_cases c57 : 0 ≤ ((rd_T39 l0 x62_3).f0)
    rotate_left
    ·rw [if_neg c57] at H
     exact absurd H dq28
    rw [if_pos c57] at H
    have c57b0 := decide_eq_true c57
    clear c57
    by_cases c58 : ((rd_T39 l0 x62_3).f0) < (x9_2.length : Int)
    rotate_left
    ·rw [if_neg c58] at H
     exact absurd H dq28
    rw [if_pos c58] at H
    have c58b0 := decide_eq_true c58
    clear c58
    obtain ⟨bq59, hbq59⟩ : ∃ b_ : Bool, b_ = (rdOf false x9_2 ((rd_T39 l0 x62_3).f0)) := ⟨_, rfl⟩
    replace H : (if bq59 = true then (if x62_3 < (x14_3.length : Int) then (impl_led.l2 k3 l0 x9_2 (rdOf ByteArray.empty l2 x53_2) (x14_3.set (x62_3 : Int).toNat (((rd_T39 l0 x62_3).f1).toList == (rdOf ByteArray.empty l2 x53_2).toList)) l2 (l2.length : Int) x53_2 l0 (l0.length : Int) (wrap64 (x62_3 + 1))) else (none)) else (if x62_3 < (x14_3.length : Int) then (impl_led.l2 k3 l0 x9_2 (rdOf ByteArray.empty l2 x53_2) (x14_3.set (x62_3 : Int).toNat false) l2 (l2.length : Int) x53_2 l0 (l0.length : Int) (wrap64 (x62_3 + 1))) else (none))) = some r := by rw [← hbq59] at H; exact H
    have Nbq59 := Aside0.mk hbq59
    clear hbq59
    by_cases c60 : bq59 = true
    rotate_left
    ·replace c60 := Bool.eq_false_iff.mpr c60
     subst c60
     have H1 : (if x62_3 < (x14_3.length : Int) then (impl_led.l2 k3 l0 x9_2 (rdOf ByteArray.empty l2 x53_2) (x14_3.set (x62_3 : Int).toNat false) l2 (l2.length : Int) x53_2 l0 (l0.length : Int) (wrap64 (x62_3 + 1))) else (none)) = some r := by rw [if_neg (show ¬ (false = true) by decide)] at H; exact H
     clear H
     have H := H1
     clear H1
     by_cases c70 : x62_3 < (x14_3.length : Int)
     rotate_left
     ·rw [if_neg c70] at H
      exact absurd H dq28
     rw [if_pos c70] at H
     have c70b0 := decide_eq_true c70
     clear c70
     obtain ⟨y349, hy349⟩ : ∃ y_ : List Bool, y_ = (x14_3.set (x62_3 : Int).toNat false) := ⟨_, rfl⟩
     replace H : (impl_led.l2 k3 l0 x9_2 (rdOf ByteArray.empty l2 x53_2) y349 l2 (l2.length : Int) x53_2 l0 (l0.length : Int) (wrap64 (x62_3 + 1))) = some r := by first | (rw [hy349]; with_reducible exact H) | (have H2_ := (Option.bind_some _ _).symm.trans H; rw [hy349]; with_reducible exact H2_) | (have H2_ := (Option.bind_some _ _).symm.trans H; with_reducible exact H2_) | with_reducible exact H | (rw [hy349]; exact H) | exact H
     have Ny349 := Aside0.mk hy349
     clear hy349
     have H' := Aside0.mk H
     clear H
     have p345 : 0 ≤ (x62_3 : Int) := of_decide_eq_true dq26
     have q345 : x62_3 < (l0.length : Int) := of_decide_eq_true dq26
     obtain ⟨ad345, A345_3, c345_3, e345, hx345_0, hx345_1, hx345_2, hx345_3, hl345_3, hi345_3⟩ := at_T39 HR0.out x62_3 p345 q345
     cases e345
     replace hx345_0 := (HB.out.cell (World.block_lt_of_cell? w _ hx345_0)).trans hx345_0
     replace hx345_1 := (HB.out.cell (World.block_lt_of_cell? w _ hx345_1)).trans hx345_1
     replace hx345_2 := (HB.out.cell (World.block_lt_of_cell? w _ hx345_2)).trans hx345_2
     replace hx345_3 := (HB.out.cell (World.block_lt_of_cell? w _ hx345_3)).trans hx345_3
     have HR345_3 := Aside0.mk hi345_3
     have HC345_3 := Aside0.mk hl345_3
     clear hi345_3 hl345_3
     replace p345 := eq_true p345
     replace q345 := eq_true q345
     go_wp2_with (first | ((with_reducible refine gate_dst (N := 16) rfl ?_); refine box_event ?hg (N := 16) ?hd (cs := #[.int .i64 0, .string (⟨#[]⟩ : ByteArray), .string (⟨#[]⟩ : ByteArray), .slice none 0 0]) (t := 39) ?hr ?_; (case hd => rfl); (case hg => rfl); (case hr => exact dq0); intro gb346 hg w72 hbox hb; have n0_ := Aside0.mk (Kd.R_below dq83 hb); have n1_ := Aside0.mk (Kd.R_below dq55 hb); have n2_ := Aside0.mk (below_step dq33 hb); have n3_ := Aside0.mk (hbox); have n4_ := Aside0.mk ((dq40 : w.heap.size ≤ gb346)); have n5_ := Aside0.mk ((dq40 : w.heap.size ≤ gb346)); clear HO_9; clear HO_14; clear HB; have HO_9 := n0_; have HO_14 := n1_; have HB := n2_; have BK346 := n3_; have GW346 := n4_; have GE346 := n5_; clear n0_ n1_ n2_ n3_ n4_ n5_; clear hb hbox hg; obtain ⟨⟨hcz73_0, hcz73_1, hcz73_2, hcz73_3⟩, hfz73_0, hfz73_1, hfz73_2, hfz73_3⟩ := blkC4 BK346.out) | ((with_reducible refine gate_store (t := 39) (p := 16) rfl ?_); refine store_event (t := 39) (p := 16) (v := ?vo_w74) (w1 := ((((w72.setCell ⟨gb346, 0, none⟩ (.int .i64 ((rd_T39 l0 x62_3).f0))).setCell ⟨gb346, 1, none⟩ (.string ((rd_T39 l0 x62_3).f1))).setCell ⟨gb346, 2, none⟩ (.string ((rd_T39 l0 x62_3).f2))).setCell ⟨gb346, 3, none⟩ (.slice A345_3 ((rd_T39 l0 x62_3).f3).length c345_3))) ?hg ?ho ?hn ?hr ?_; (case ho => rfl); (case hg => rfl); (case hn => rfl); (case hr => exact dq0); intro w74 hw; have n0_ : Aside0 (Kd.R Kd.bool 4 w74 w.heap.size (fun k_ => some k_ ≠ (v343 : Value).ownBlock) u9 x9_2) := ⟨dq90⟩; have n1_ : Aside0 (Kd.R Kd.bool 4 w74 w.heap.size (fun k_ => some k_ ≠ (u9 : Value).ownBlock) v343 x14_3) := ⟨dq89⟩; have n2_ : Aside0 (w74.heap[gb346]? = some (.cells #[.int .i64 ((rd_T39 l0 x62_3).f0), .string ((rd_T39 l0 x62_3).f1), .string ((rd_T39 l0 x62_3).f2), .slice A345_3 ((rd_T39 l0 x62_3).f3).length c345_3] 39 (0, 0))) := ⟨dq88⟩; have n3_ : Aside0 (Below w.heap.size w w74) := ⟨dq87⟩; clear hw; clear HO_9; clear HO_14; clear BK346; clear HB; have HO_9 := n0_; have HO_14 := n1_; have BK346 := n2_; have HB := n3_; clear n0_ n1_ n2_ n3_; obtain ⟨⟨hcz75_0, hcz75_1, hcz75_2, hcz75_3⟩, hfz75_0, hfz75_1, hfz75_2, hfz75_3⟩ := blkC4 BK346.out; obtain ⟨Ao76, co76, eo76⟩ := Kd.R_slice HO_9.out; subst eo76; have p347 : 0 ≤ (((rd_T39 l0 x62_3).f0) : Int) := of_decide_eq_true dq26; have q347 : ((rd_T39 l0 x62_3).f0) < (x9_2.length : Int) := of_decide_eq_true dq26; obtain ⟨ad347, e347, hx347_0⟩ := Kd.at_bool (Kd.R_reads' HO_9.out).2.2 ((rd_T39 l0 x62_3).f0) p347 q347; (try rw [← Nbq59.out] at hx347_0); cases e347; replace p347 := eq_true p347; replace q347 := eq_true q347; have p71 : 0 ≤ (x62_3 : Int) := of_decide_eq_true dq26; have q71 : (x62_3 : Int) < ((x14_3.length : Int) : Int) := of_decide_eq_true dq26; obtain ⟨go71, co71, eo71, gb71, gl71, cl71, HG71⟩ := Kd.R_form HO_14.out dq31; (first | cases eo71 | (injection eo71 with ea_ en_ ec_; (first | subst ea_ | (injection ea_ with ea_; subst ea_)); subst ec_; clear en_)); have GB71 := Aside0.mk gb71; have GG71 := Aside0.mk HG71; clear gb71 gl71 HG71; obtain ⟨hx71_0, hf71_0⟩ := Kd.R_celln false HO_14.out (x62_3 : Int) p71 q71; replace p71 := eq_true p71; replace q71 := eq_true q71; obtain ⟨hy77_, hz77_⟩ := Kd.R_celln false HO_14.out (x62_3 : Int) (of_decide_eq_true dq26) (of_decide_eq_true dq26); have HP77 := Kd.R_putg HO_14.out (x62_3 : Int) false) | ((with_reducible refine gate_store (t := 4) (p := 85) rfl ?_); refine store_event (t := 4) (p := 85) (v := ?vo_w78) (w1 := (w74.setCell ⟨go71, (x62_3 : Int).toNat, none⟩ (.bool false))) ?hg ?ho ?hn ?hr ?_; (case ho => rfl); (case hg => rfl); (case hn => rfl); (case hr => exact dq0); intro w78 hw; have hg : w74.grownBy w78 (some go71) := (by rw [hw]; exact HP77.2); have hp_ : Kd.R Kd.bool 4 w78 w.heap.size (fun k_ => some k_ ≠ (.slice (some ad347) x9_2.length co76 : Value).ownBlock) (.slice (some ⟨go71, 0, none⟩) x14_3.length co71) y349 := (by rw [hw, Ny349.out]; exact HP77.1); clear HP77; have n0_ := Aside0.mk (Kd.R_after (v := (.slice (some ⟨go71, 0, none⟩) x14_3.length co71)) (v1 := (.slice (some ⟨go71, 0, none⟩) x14_3.length co71)) (ok := (fun _ => True)) dq86 hg (.inl rfl)); have n1_ := Aside0.mk (hp_); have n2_ := Aside0.mk (blk_grown (g := gb346) (o := .cells #[.int .i64 ((rd_T39 l0 x62_3).f0), .string ((rd_T39 l0 x62_3).f1), .string ((rd_T39 l0 x62_3).f2), .slice A345_3 ((rd_T39 l0 x62_3).f3).length c345_3] 39 (0, 0)) (by refine blk_up ?_; exact BK346.out) hg (Kd.R_ne HO_14.out BK346.out dq37)); have n3_ := Aside0.mk ((by rw [hw]; exact below_set (HB.out) GB71.out : Below w.heap.size w w78)); clear HO_9; clear HO_14; clear BK346; clear HB; have HO_9 := n0_; have HO_14 := n1_; have BK346 := n2_; have HB := n3_; clear n0_ n1_ n2_ n3_; clear hg hw hp_))
     go_roundg k3
     case measure => have := HK1.out; have := HK2.out; have := HK3.out; omega
     case rel => exact ⟨(y349), (wrap64 (x62_3 + 1)), dq25, H', ⟨dq92⟩, ⟨dq85⟩, ⟨dq55⟩, ⟨dq91⟩⟩
    subst c60
    have H1 : (if x62_3 < (x14_3.length : Int) then (impl_led.l2 k3 l0 x9_2 (rdOf ByteArray.empty l2 x53_2) (x14_3.set (x62_3 : Int).toNat (((rd_T39 l0 x62_3).f1).toList == (rdOf ByteArray.empty l2 x53_2).toList)) l2 (l2.length : Int) x53_2 l0 (l0.length : Int) (wrap64 (x62_3 + 1))) else (none)) = some r := by rw [if_pos rfl] at H; exact H
    clear H
    have H := H1
    clear H1
    by_cases c61 : x62_3 < (x14_3.length : Int)
    rotate_left
    ·rw [if_neg c61] at H
     exact absurd H dq28
    rw [if_pos c61] at H
    have c61b0 := decide_eq_true c61
    clear c61
    obtain ⟨y348, hy348⟩ : ∃ y_ : List Bool, y_ = (x14_3.set (x62_3 : Int).toNat (((rd_T39 l0 x62_3).f1).toList == (rdOf ByteArray.empty l2 x53_2).toList)) := ⟨_, rfl⟩
    replace H : (impl_led.l2 k3 l0 x9_2 (rdOf ByteArray.empty l2 x53_2) y348 l2 (l2.length : Int) x53_2 l0 (l0.length : Int) (wrap64 (x62_3 + 1))) = some r := by first | (rw [hy348]; with_reducible exact H) | (have H2_ := (Option.bind_some _ _).symm.trans H; rw [hy348]; with_reducible exact H2_) | (have H2_ := (Option.bind_some _ _).symm.trans H; with_reducible exact H2_) | with_reducible exact H | (rw [hy348]; exact H) | exact H
    have Ny348 := Aside0.mk hy348
    clear hy348
    have H' := Aside0.mk H
    clear H
    have p345 : 0 ≤ (x62_3 : Int) := of_decide_eq_true dq26
    have q345 : x62_3 < (l0.length : Int) := of_decide_eq_true dq26
    obtain ⟨ad345, A345_3, c345_3, e345, hx345_0, hx345_1, hx345_2, hx345_3, hl345_3, hi345_3⟩ := at_T39 HR0.out x62_3 p345 q345
    cases e345
    replace hx345_0 := (HB.out.cell (World.block_lt_of_cell? w _ hx345_0)).trans hx345_0
    replace hx345_1 := (HB.out.cell (World.block_lt_of_cell? w _ hx345_1)).trans hx345_1
    replace hx345_2 := (HB.out.cell (World.block_lt_of_cell? w _ hx345_2)).trans hx345_2
    replace hx345_3 := (HB.out.cell (World.block_lt_of_cell? w _ hx345_3)).trans hx345_3
    have HR345_3 := Aside0.mk hi345_3
    have HC345_3 := Aside0.mk hl345_3
    clear hi345_3 hl345_3
    replace p345 := eq_true p345
    replace q345 := eq_true q345
    go_wp2_with (first | ((with_reducible refine gate_dst (N := 16) rfl ?_); refine box_event ?hg (N := 16) ?hd (cs := #[.int .i64 0, .string (⟨#[]⟩ : ByteArray), .string (⟨#[]⟩ : ByteArray), .slice none 0 0]) (t := 39) ?hr ?_; (case hd => rfl); (case hg => rfl); (case hr => exact dq0); intro gb346 hg w63 hbox hb; have n0_ := Aside0.mk (Kd.R_below dq83 hb); have n1_ := Aside0.mk (Kd.R_below dq55 hb); have n2_ := Aside0.mk (below_step dq33 hb); have n3_ := Aside0.mk (hbox); have n4_ := Aside0.mk ((dq40 : w.heap.size ≤ gb346)); have n5_ := Aside0.mk ((dq40 : w.heap.size ≤ gb346)); clear HO_9; clear HO_14; clear HB; have HO_9 := n0_; have HO_14 := n1_; have HB := n2_; have BK346 := n3_; have GW346 := n4_; have GE346 := n5_; clear n0_ n1_ n2_ n3_ n4_ n5_; clear hb hbox hg; obtain ⟨⟨hcz64_0, hcz64_1, hcz64_2, hcz64_3⟩, hfz64_0, hfz64_1, hfz64_2, hfz64_3⟩ := blkC4 BK346.out) | ((with_reducible refine gate_store (t := 39) (p := 16) rfl ?_); refine store_event (t := 39) (p := 16) (v := ?vo_w65) (w1 := ((((w63.setCell ⟨gb346, 0, none⟩ (.int .i64 ((rd_T39 l0 x62_3).f0))).setCell ⟨gb346, 1, none⟩ (.string ((rd_T39 l0 x62_3).f1))).setCell ⟨gb346, 2, none⟩ (.string ((rd_T39 l0 x62_3).f2))).setCell ⟨gb346, 3, none⟩ (.slice A345_3 ((rd_T39 l0 x62_3).f3).length c345_3))) ?hg ?ho ?hn ?hr ?_; (case ho => rfl); (case hg => rfl); (case hn => rfl); (case hr => exact dq0); intro w65 hw; have n0_ : Aside0 (Kd.R Kd.bool 4 w65 w.heap.size (fun k_ => some k_ ≠ (v343 : Value).ownBlock) u9 x9_2) := ⟨dq90⟩; have n1_ : Aside0 (Kd.R Kd.bool 4 w65 w.heap.size (fun k_ => some k_ ≠ (u9 : Value).ownBlock) v343 x14_3) := ⟨dq89⟩; have n2_ : Aside0 (w65.heap[gb346]? = some (.cells #[.int .i64 ((rd_T39 l0 x62_3).f0), .string ((rd_T39 l0 x62_3).f1), .string ((rd_T39 l0 x62_3).f2), .slice A345_3 ((rd_T39 l0 x62_3).f3).length c345_3] 39 (0, 0))) := ⟨dq88⟩; have n3_ : Aside0 (Below w.heap.size w w65) := ⟨dq87⟩; clear hw; clear HO_9; clear HO_14; clear BK346; clear HB; have HO_9 := n0_; have HO_14 := n1_; have BK346 := n2_; have HB := n3_; clear n0_ n1_ n2_ n3_; obtain ⟨⟨hcz66_0, hcz66_1, hcz66_2, hcz66_3⟩, hfz66_0, hfz66_1, hfz66_2, hfz66_3⟩ := blkC4 BK346.out; obtain ⟨Ao67, co67, eo67⟩ := Kd.R_slice HO_9.out; subst eo67; have p347 : 0 ≤ (((rd_T39 l0 x62_3).f0) : Int) := of_decide_eq_true dq26; have q347 : ((rd_T39 l0 x62_3).f0) < (x9_2.length : Int) := of_decide_eq_true dq26; obtain ⟨ad347, e347, hx347_0⟩ := Kd.at_bool (Kd.R_reads' HO_9.out).2.2 ((rd_T39 l0 x62_3).f0) p347 q347; (try rw [← Nbq59.out] at hx347_0); cases e347; replace p347 := eq_true p347; replace q347 := eq_true q347; have p62 : 0 ≤ (x62_3 : Int) := of_decide_eq_true dq26; have q62 : (x62_3 : Int) < ((x14_3.length : Int) : Int) := of_decide_eq_true dq26; obtain ⟨go62, co62, eo62, gb62, gl62, cl62, HG62⟩ := Kd.R_form HO_14.out dq31; (first | cases eo62 | (injection eo62 with ea_ en_ ec_; (first | subst ea_ | (injection ea_ with ea_; subst ea_)); subst ec_; clear en_)); have GB62 := Aside0.mk gb62; have GG62 := Aside0.mk HG62; clear gb62 gl62 HG62; obtain ⟨hx62_0, hf62_0⟩ := Kd.R_celln false HO_14.out (x62_3 : Int) p62 q62; replace p62 := eq_true p62; replace q62 := eq_true q62; obtain ⟨hy68_, hz68_⟩ := Kd.R_celln false HO_14.out (x62_3 : Int) (of_decide_eq_true dq26) (of_decide_eq_true dq26); have HP68 := Kd.R_putg HO_14.out (x62_3 : Int) (((rd_T39 l0 x62_3).f1).toList == (rdOf ByteArray.empty l2 x53_2).toList)) | ((with_reducible refine gate_store (t := 4) (p := 85) rfl ?_); refine store_event (t := 4) (p := 85) (v := ?vo_w69) (w1 := (w65.setCell ⟨go62, (x62_3 : Int).toNat, none⟩ (.bool (((rd_T39 l0 x62_3).f1).toList == (rdOf ByteArray.empty l2 x53_2).toList)))) ?hg ?ho ?hn ?hr ?_; (case ho => rfl); (case hg => rfl); (case hn => rfl); (case hr => exact dq0); intro w69 hw; have hg : w65.grownBy w69 (some go62) := (by rw [hw]; exact HP68.2); have hp_ : Kd.R Kd.bool 4 w69 w.heap.size (fun k_ => some k_ ≠ (.slice (some ad347) x9_2.length co67 : Value).ownBlock) (.slice (some ⟨go62, 0, none⟩) x14_3.length co62) y348 := (by rw [hw, Ny348.out]; exact HP68.1); clear HP68; have n0_ := Aside0.mk (Kd.R_after (v := (.slice (some ⟨go62, 0, none⟩) x14_3.length co62)) (v1 := (.slice (some ⟨go62, 0, none⟩) x14_3.length co62)) (ok := (fun _ => True)) dq86 hg (.inl rfl)); have n1_ := Aside0.mk (hp_); have n2_ := Aside0.mk (blk_grown (g := gb346) (o := .cells #[.int .i64 ((rd_T39 l0 x62_3).f0), .string ((rd_T39 l0 x62_3).f1), .string ((rd_T39 l0 x62_3).f2), .slice A345_3 ((rd_T39 l0 x62_3).f3).length c345_3] 39 (0, 0)) (by refine blk_up ?_; exact BK346.out) hg (Kd.R_ne HO_14.out BK346.out dq37)); have n3_ := Aside0.mk ((by rw [hw]; exact below_set (HB.out) GB62.out : Below w.heap.size w w69)); clear HO_9; clear HO_14; clear BK346; clear HB; have HO_9 := n0_; have HO_14 := n1_; have BK346 := n2_; have HB := n3_; clear n0_ n1_ n2_ n3_; clear hg hw hp_))
    go_roundg k3
    case measure => have := HK1.out; have := HK2.out; have := HK3.out; omega
    case rel => exact ⟨(y348), (wrap64 (x62_3 + 1)), dq25, H', ⟨dq92⟩, ⟨dq85⟩, ⟨dq55⟩, ⟨dq91⟩⟩

/-! ### stringslite_HasPrefix: function 116 -/
def stringslite_HasPrefix.f (a0 : ByteArray) (a1 : ByteArray) : Option (Bool) := if (a0.size : Int) ≥ (a1.size : Int) then (if 0 ≤ (a1.size : Int) then (if (a1.size : Int) ≤ (a0.size : Int) then (some ((a0.extract 0 ((a1.size : Int) : Int).toNat).toList == a1.toList)) else (none)) else (none)) else (some false)
set_option maxHeartbeats 8000000 in
set_option maxRecDepth 100000 in
theorem stringslite_HasPrefix.calls (a0 : ByteArray) (a1 : ByteArray) (r : Bool) (w : World) (h : stringslite_HasPrefix.f a0 a1 = some r) :
  Calls Tryd.prog 116 #[.string a0, .string a1] w fun e w' => e = .returned (.bool r) ∧ Drawn0 w w' := by
 have H : (if (a0.size : Int) ≥ (a1.size : Int) then (if 0 ≤ (a1.size : Int) then (if (a1.size : Int) ≤ (a0.size : Int) then (some ((a0.extract 0 ((a1.size : Int) : Int).toNat).toList == a1.toList)) else (none)) else (none)) else (some false)) = some r := h
 clear h
 by_cases c3 : (a0.size : Int) ≥ (a1.size : Int)
 rotate_left
 ·rw [if_neg c3] at H
  have c3b0 : decide ((a1.size : Int) ≤ (a0.size : Int)) = false := decide_eq_false c3
  have c3b1 : decide (a1.size ≤ a0.size) = false := decide_eq_false (fun h => c3 (Int.ofNat_le.mpr h))
  clear c3
  obtain rfl := Option.some.inj H
  go_enter Tryd.func116, Tryd.ntmps116
  go_wp2
  go_ret
  exact ⟨dq25, dq24⟩
 rw [if_pos c3] at H
 have c3b0 : decide ((a1.size : Int) ≤ (a0.size : Int)) = true := decide_eq_true c3
 have c3b1 : decide (a1.size ≤ a0.size) = true := decide_eq_true (Int.ofNat_le.mp c3)
 clear c3
 by_cases c4 : 0 ≤ (a1.size : Int)
 rotate_left
 ·rw [if_neg c4] at H
  exact absurd H dq28
 rw [if_pos c4] at H
 have c4b0 := eq_true c4
 have c4b1 := decide_eq_true c4
 clear c4
 by_cases c5 : (a1.size : Int) ≤ (a0.size : Int)
 rotate_left
 ·rw [if_neg c5] at H
  exact absurd H dq28
 rw [if_pos c5] at H
 have c5b0 := eq_true c5
 have c5b1 := decide_eq_true c5
 clear c5
 obtain rfl := Option.some.inj H
 go_enter Tryd.func116, Tryd.ntmps116
 go_wp2
 go_ret
 exact ⟨dq25, dq24⟩

/-! ### stringslite_CutPrefix: function 103 -/
def stringslite_CutPrefix.f (a0 : ByteArray) (a1 : ByteArray) : Option (ByteArray × Bool) := (stringslite_HasPrefix.f a0 a1).bind fun t270 => (if t270 = true then (if 0 ≤ (a1.size : Int) then (if (a1.size : Int) ≤ (a0.size : Int) then (some (a0.extract ((a1.size : Int) : Int).toNat a0.size, true)) else (none)) else (none)) else (some (a0, false)))
set_option maxHeartbeats 8000000 in
set_option maxRecDepth 100000 in
theorem stringslite_CutPrefix.calls (a0 : ByteArray) (a1 : ByteArray) (r1 : ByteArray) (r2 : Bool) (w : World) (h : stringslite_CutPrefix.f a0 a1 = some (r1, r2)) :
  Calls Tryd.prog 103 #[.string a0, .string a1] w fun e w' => e = .returned (.tuple #[.string r1, .bool r2]) ∧ Drawn0 w w' := by
 have H : ((stringslite_HasPrefix.f a0 a1).bind fun t270 => (if t270 = true then (if 0 ≤ (a1.size : Int) then (if (a1.size : Int) ≤ (a0.size : Int) then (some (a0.extract ((a1.size : Int) : Int).toNat a0.size, true)) else (none)) else (none)) else (some (a0, false)))) = some (r1, r2) := h
 clear h
 replace H := Option.bind_eq_some_iff.mp H
 obtain ⟨t270, A30, H⟩ := H
 replace H : (if t270 = true then (if 0 ≤ (a1.size : Int) then (if (a1.size : Int) ≤ (a0.size : Int) then (some (a0.extract ((a1.size : Int) : Int).toNat a0.size, true)) else (none)) else (none)) else (some (a0, false))) = some (r1, r2) := H
 have A3 := Aside0.mk A30
 clear A30
 by_cases c4 : t270 = true
 rotate_left
 ·replace c4 := Bool.eq_false_iff.mpr c4
  subst c4
  have H1 : (some (a0, false)) = some (r1, r2) := by rw [if_neg (show ¬ (false = true) by decide)] at H; exact H
  clear H
  have H := H1
  clear H1
  simp only [Option.some.injEq, Prod.mk.injEq] at H
  obtain ⟨rfl, rfl⟩ := H
  go_enter Tryd.func103, Tryd.ntmps103
  go_wp2_with (first | ((with_reducible refine gate_callee (f := 116) rfl ?_); refine goesL_ (some 8) rfl rfl Tryd.func116 dq30 rfl #[.string a0, .string a1] rfl dq29 ?_; (with_reducible refine (stringslite_HasPrefix.calls a0 a1 false _ A3.out).mono ?_); rintro e w' ⟨rfl, ⟨nd, rfl⟩⟩; refine ⟨_, rfl, ?_⟩))
  go_ret2
  exact ⟨dq25, dq24⟩
 subst c4
 have H1 : (if 0 ≤ (a1.size : Int) then (if (a1.size : Int) ≤ (a0.size : Int) then (some (a0.extract ((a1.size : Int) : Int).toNat a0.size, true)) else (none)) else (none)) = some (r1, r2) := by rw [if_pos rfl] at H; exact H
 clear H
 have H := H1
 clear H1
 by_cases c5 : 0 ≤ (a1.size : Int)
 rotate_left
 ·rw [if_neg c5] at H
  exact absurd H dq28
 rw [if_pos c5] at H
 have c5b0 := eq_true c5
 have c5b1 := decide_eq_true c5
 clear c5
 by_cases c6 : (a1.size : Int) ≤ (a0.size : Int)
 rotate_left
 ·rw [if_neg c6] at H
  exact absurd H dq28
 rw [if_pos c6] at H
 have c6b0 := eq_true c6
 have c6b1 := decide_eq_true c6
 clear c6
 simp only [Option.some.injEq, Prod.mk.injEq] at H
 obtain ⟨rfl, rfl⟩ := H
 go_enter Tryd.func103, Tryd.ntmps103
 go_wp2_with (first | ((with_reducible refine gate_callee (f := 116) rfl ?_); refine goesL_ (some 8) rfl rfl Tryd.func116 dq30 rfl #[.string a0, .string a1] rfl dq29 ?_; (with_reducible refine (stringslite_HasPrefix.calls a0 a1 true _ A3.out).mono ?_); rintro e w' ⟨rfl, ⟨nd, rfl⟩⟩; refine ⟨_, rfl, ?_⟩))
 go_ret2
 exact ⟨dq25, dq24⟩

/-! ### strings_CutPrefix: function 80 -/
def strings_CutPrefix.f (a0 : ByteArray) (a1 : ByteArray) : Option (ByteArray × Bool) := (stringslite_CutPrefix.f a0 a1).bind fun bt271 => (some (bt271.1, bt271.2))
set_option maxHeartbeats 8000000 in
set_option maxRecDepth 100000 in
theorem strings_CutPrefix.calls (a0 : ByteArray) (a1 : ByteArray) (r1 : ByteArray) (r2 : Bool) (w : World) (h : strings_CutPrefix.f a0 a1 = some (r1, r2)) :
  Calls Tryd.prog 80 #[.string a0, .string a1] w fun e w' => e = .returned (.tuple #[.string r1, .bool r2]) ∧ Drawn0 w w' := by
 have H : ((stringslite_CutPrefix.f a0 a1).bind fun bt271 => (some (bt271.1, bt271.2))) = some (r1, r2) := h
 clear h
 replace H := Option.bind_eq_some_iff.mp H
 obtain ⟨⟨t271, t272⟩, A30, H⟩ := H
 replace H : (some (t271, t272)) = some (r1, r2) := H
 have A3 := Aside0.mk A30
 clear A30
 simp only [Option.some.injEq, Prod.mk.injEq] at H
 obtain ⟨rfl, rfl⟩ := H
 go_enter Tryd.func80, Tryd.ntmps80
 go_wp2_with (first | ((with_reducible refine gate_callee (f := 103) rfl ?_); refine goesL_ (some 8) rfl rfl Tryd.func103 dq30 rfl #[.string a0, .string a1] rfl dq29 ?_; (with_reducible refine (stringslite_CutPrefix.calls a0 a1 t271 t272 _ A3.out).mono ?_); rintro e w' ⟨rfl, ⟨nd, rfl⟩⟩; refine ⟨_, rfl, ?_⟩))
 go_ret2
 exact ⟨dq25, dq24⟩

end Go.Proofs.YtpmjpbaeecnpiaaDoor.L

namespace Go.Proofs.YtpmjpbaeecnpiaaDoor.L
open Go.RowKit Go.Proofs.YtpmjpbaeecnpiaaDoorW.PrintWords Go.Proofs.YtpmjpbaeecnpiaaDoorW.PrintLast Go.Proofs.YtpmjpbaeecnpiaaDoorW.PrintMore
set_option linter.unusedVariables false
set_option linter.unusedSimpArgs false

def slash : ByteArray := ⟨#[47]⟩
def namesOf (s : ByteArray) : List ByteArray := Lib.splitB slash 0 (Lib.countB s slash) s
def nameK (k : Nat) (s : ByteArray) : Bool := (impl_NameOk.f k s).getD false
def impl_stepsOf.f (k : Nat) (a0 : ByteArray) : Option (List ByteArray × Bool × Bool) :=
  (strings_CutPrefix.f a0 ⟨#[47, 47]⟩).bind fun t =>
    if t.1.size < 4294967281 ∧ (namesOf t.1).length = Lib.countB t.1 slash + 1 ∧ (namesOf t.1).length ≤ 4294967281 then
      if a0.size > 20000 then some ([], false, false)
      else if (namesOf t.1).length > 6 then some ([], false, false)
      else if (namesOf t.1).all (fun s => (impl_NameOk.f k s).isSome) = true then
        if (namesOf t.1).any (fun s => !nameK k s) = true then some ([], false, false) else some (namesOf t.1, t.2, true)
      else none
    else none
theorem steps_not (k : Nat) (s : ByteArray) (h : (impl_NameOk.f k s).isSome = true) (w : World) :
    Calls Tryd.prog 83 #[.string s] w fun e w' => e = .returned (.bool (!nameK k s)) ∧ ∃ q, w' = w.drewN q := by
  obtain ⟨b, hb⟩ := Option.isSome_iff_exists.1 h
  have e : nameK k s = b := by unfold nameK; rw [hb]; rfl
  have HB := Lib.hid hb
  clear hb h
  rw [e]
  go_enter Tryd.func83, Tryd.ntmps83
  go_wp2_with (go_at_call 21; refine (impl_NameOk.calls k s b _ HB.out).mono ?_; rintro e w' ⟨rfl, ⟨nd, rfl⟩⟩)
  go_ret
  exact ⟨rfl, nd, rfl⟩
set_option maxHeartbeats 1000000 in
theorem steps_index (p : ByteArray → Bool) (b n c : Nat) (zs : List ByteArray) (w : World)
    (hp : ∀ x ∈ zs, ∀ q, Calls Tryd.prog 83 #[.string x] (w.drewN q) fun e w' => e = .returned (.bool (p x)) ∧ ∃ q', w' = (w.drewN q).drewN q')
    (hz : n = zs.length) (hbig : n ≤ 9223372036854775807) (hc : ∀ j, j < zs.length → w.cell? ⟨b, j, none⟩ = some (.string zs[j]!)) :
    Calls Tryd.prog 105 #[.slice (some ⟨b, 0, none⟩) n c, .func (.func 83) #[] #[]] w fun e w' => e = .returned (.int .i64 (Lib.idxBy (fun _ y => p y) (zs.take n) default)) ∧ ∃ q, w' = w.drewN q := by
  have eg := enters_of Tryd.func83 (by kernel_rfl) rfl
  have HZ := Lib.hid hz
  clear hz
  go_enter Tryd.func105, Tryd.ntmps105
  go_wp2
  go_loopg [5, 8] n (fun gg _ s8 wr => ∃ kk q : Nat, kk ≤ n ∧ n - kk ≤ gg ∧ s8 = .int .i64 kk ∧ wr = w.drewN q ∧ Aside (∀ j, j < kk → p zs[j]! = false))
  case atStart => exact ⟨0, 0, Nat.zero_le _, by omega, rfl, rfl, fun j hj => absurd hj (Nat.not_lt_zero _)⟩
  case round =>
    obtain ⟨kk, q, hkk, hg, rfl, rfl, A⟩ := hrel
    by_cases hlt : kk < n
    · have hltz : (kk : Int) < (n : Int) := by omega
      have hcell : w.cell? ⟨b, kk, none⟩ = some (.string zs[kk]!) := hc kk (by have := HZ.out; omega)
      have hmem : zs[kk]! ∈ zs := by rw [getElem!_pos zs kk (by have := HZ.out; omega)]; exact List.getElem_mem _
      have hcall := hp zs[kk]! hmem
      clear hc hp hmem
      generalize hy : zs[kk]! = y at hcell hcall
      have B : Aside (zs[kk]! = y) := hy
      clear hy
      cases hq : p y with
      | true =>
        rw [hq] at hcall
        go_wp2_with (go_at_call 83; refine (hcall _).mono ?_; rintro e w' ⟨rfl, q', rfl⟩)
        go_ret
        refine ⟨?_, _, rfl⟩
        rw [Lib.idxBy_hit (fun _ y => p y) zs n kk default hlt (by have := HZ.out; omega) (by show p zs[kk]! = true; rw [B.out]; exact hq) A.out]
        rfl
      | false =>
        rw [hq] at hcall
        go_wp2_with (go_at_call 83; refine (hcall _).mono ?_; rintro e w' ⟨rfl, q', rfl⟩)
        go_roundg (n - (kk + 1))
        case measure => omega
        case rel =>
          refine ⟨kk + 1, _, by omega, by omega, by go_num, rfl, (show Aside _ from fun j hj => ?_)⟩
          by_cases e : j = kk
          · subst e
            rw [B.out]; exact hq
          · exact A.out j (by omega)
    · have hltz : ¬ (kk : Int) < (n : Int) := by omega
      have : kk = n := by omega
      subst this
      go_wp2
      go_ret
      refine ⟨?_, q, rfl⟩
      rw [Lib.idxBy_miss (fun _ y => p y) zs kk default A.out]
      rfl
theorem steps_any (p : ByteArray → Bool) (b n c : Nat) (zs : List ByteArray) (w : World)
    (hp : ∀ x ∈ zs, ∀ q, Calls Tryd.prog 83 #[.string x] (w.drewN q) fun e w' => e = .returned (.bool (p x)) ∧ ∃ q', w' = (w.drewN q).drewN q')
    (hz : n = zs.length) (hbig : n ≤ 9223372036854775807) (hc : ∀ j, j < zs.length → w.cell? ⟨b, j, none⟩ = some (.string zs[j]!)) :
    Calls Tryd.prog 82 #[.slice (some ⟨b, 0, none⟩) n c, .func (.func 83) #[] #[]] w fun e w' => e = .returned (.bool (zs.any p)) ∧ ∃ q, w' = w.drewN q := by
  have ez : zs.any p = decide (0 ≤ Lib.idxBy (fun _ y => p y) (zs.take n) default) := by
    rw [hz, List.take_length]; exact (Lib.idxBy_nonneg_iff (fun _ y => p y) zs default).symm
  rw [ez]
  have HZ := Lib.hid hz
  clear hz ez
  go_enter Tryd.func82, Tryd.ntmps82
  go_wp2_with (go_at_call 105; refine (steps_index p b n c zs _ hp HZ.out hbig hc).mono ?_; rintro e w' ⟨rfl, q, rfl⟩)
  go_ret
  exact ⟨rfl, q, rfl⟩
theorem R_names (L : List ByteArray) (w : World) (n : Nat) (hn : n = L.length) (hbig : n ≤ 9223372036854775807) :
    Kd.R Kd.string 9 (w.alloc (.cells (L.map Value.string).toArray 9)) w.heap.size (fun _ => True) (.slice (some ⟨w.heap.size, 0, none⟩) n n) L := by
  refine ⟨fun _ _ => trivial, L.map Value.string, ?_, ?_⟩
  · have h2 := World.ownsRow_lit (base := w.heap.size) (e := 9) (size := 1) w (L.map Value.string).toArray n (Nat.le_refl _) (by simpa [maxLen] using hbig) (by simp [hn])
    subst hn
    have h3 : (w.alloc (.cells (L.map Value.string).toArray 9)).ownsRow w.heap.size 9 1 (.slice (some ⟨w.heap.size, 0, none⟩) L.length L.length) L.length (L.map Value.string) := by simpa using h2
    exact h3
  · refine ⟨by simp [Kd.string, Kd.scalar], fun j x hj => ?_⟩
    obtain ⟨hjl, hx⟩ := List.getElem?_eq_some_iff.1 hj
    subst hx
    simp only [Kd.string, Kd.scalar, Nat.mul_one]
    rw [List.drop_eq_getElem_cons (by simpa using hjl)]
    simp
theorem cells_names (L : List ByteArray) (w : World) (q : Nat) : ∀ j, j < L.length → ((w.alloc (.cells (L.map Value.string).toArray 9)).drewN q).cell? ⟨w.heap.size, j, none⟩ = some (.string L[j]!) := by
  intro j hj
  rw [getElem!_pos L j hj]
  exact (blk_cell (blk_drewN (blk_new w _) q) j).trans (by simp [hj])
set_option maxHeartbeats 1000000 in
theorem impl_stepsOf.calls (k : Nat) (a0 : ByteArray) (r1 : List ByteArray) (r2 : Bool) (r3 : Bool) (w : World) (hT : Gl w) (h : impl_stepsOf.f k a0 = some (r1, r2, r3)) :
    Calls Tryd.prog 44 #[.string a0] w fun e w' => ∃ v0_ : Value, e = .returned (.tuple #[v0_, .bool r2, .bool r3]) ∧ Kd.R Kd.string 9 w' w.heap.size (fun _ => True) v0_ r1 ∧ Below w.heap.size w w' := by
  obtain ⟨m, hm⟩ := hT.most
  have HM := Lib.hid hm
  clear hm hT
  unfold impl_stepsOf.f at h
  obtain ⟨⟨t1, t2⟩, hcut, h⟩ := Option.bind_eq_some_iff.1 h
  have HC := Lib.hid hcut
  clear hcut
  simp only at h
  by_cases c0 : t1.size < 4294967281 ∧ (namesOf t1).length = Lib.countB t1 slash + 1 ∧ (namesOf t1).length ≤ 4294967281
  · rw [if_pos c0] at h
    obtain ⟨hs, hlen, hmost⟩ := c0
    obtain ⟨L, hL⟩ : ∃ L, namesOf t1 = L := ⟨_, rfl⟩
    obtain ⟨n, hn⟩ : ∃ n, Lib.countB t1 slash + 1 = n := ⟨_, rfl⟩
    rw [hL] at h hlen hmost
    rw [hn] at hlen
    have HS : ∀ q, Calls Tryd.prog 81 #[.string t1, .string ⟨#[47]⟩] (w.drewN q) fun e w' => e = .returned (.slice (some ⟨(w.drewN q).heap.size, 0, none⟩) n n) ∧ w' = (w.drewN q).alloc (.cells (L.map Value.string).toArray 9) := by
      intro q
      have := Tryd.strings_Split t1 slash m (w.drewN q) hs HM.out (by decide)
      rw [hn] at this
      unfold namesOf at hL
      rw [← hL]
      exact this
    have hbig : n ≤ 9223372036854775807 := by omega
    have HL := Lib.hid hlen
    clear hL hn hlen
    by_cases c1 : a0.size > 20000
    · rw [if_pos c1] at h
      simp only [Option.some.injEq, Prod.mk.injEq] at h
      obtain ⟨rfl, rfl, rfl⟩ := h
      have d1 : decide ((20000 : Int) < (a0.size : Int)) = true := decide_eq_true (by omega)
      go_enter Tryd.func44, Tryd.ntmps44
      go_wp2_with (first | (go_at_call 80; refine (strings_CutPrefix.calls a0 _ t1 t2 _ HC.out).mono ?_; rintro e w' ⟨rfl, ⟨nd, rfl⟩⟩) | (go_at_call 81; refine (HS _).mono ?_; rintro e w' ⟨rfl, rfl⟩))
      go_ret3
      exact ⟨_, rfl, Kd.R_nil _ _ _ _ _, pw_below_drewN (below_alloc (Below.refl _ _) _) _⟩
    · rw [if_neg c1] at h
      have d1 : decide ((20000 : Int) < (a0.size : Int)) = false := decide_eq_false (by omega)
      by_cases c2 : L.length > 6
      · rw [if_pos c2] at h
        simp only [Option.some.injEq, Prod.mk.injEq] at h
        obtain ⟨rfl, rfl, rfl⟩ := h
        have d2 : decide ((6 : Int) < (n : Int)) = true := decide_eq_true (by have := HL.out; omega)
        go_enter Tryd.func44, Tryd.ntmps44
        go_wp2_with (first | (go_at_call 80; refine (strings_CutPrefix.calls a0 _ t1 t2 _ HC.out).mono ?_; rintro e w' ⟨rfl, ⟨nd, rfl⟩⟩) | (go_at_call 81; refine (HS _).mono ?_; rintro e w' ⟨rfl, rfl⟩))
        go_ret3
        exact ⟨_, rfl, Kd.R_nil _ _ _ _ _, pw_below_drewN (below_alloc (Below.refl _ _) _) _⟩
      · rw [if_neg c2] at h
        have d2 : decide ((6 : Int) < (n : Int)) = false := decide_eq_false (by have := HL.out; omega)
        by_cases c3 : L.all (fun s => (impl_NameOk.f k s).isSome) = true
        · rw [if_pos c3] at h
          have HA : ∀ q, Calls Tryd.prog 82 #[.slice (some ⟨w.heap.size, 0, none⟩) n n, .func (.func 83) #[] #[]] ((w.alloc (.cells (L.map Value.string).toArray 9)).drewN q) fun e w' => e = .returned (.bool (L.any fun s => !nameK k s)) ∧ ∃ q', w' = ((w.alloc (.cells (L.map Value.string).toArray 9)).drewN q).drewN q' := fun q =>
            steps_any (fun s => !nameK k s) w.heap.size n n L _ (fun x hx q2 => steps_not k x (List.all_eq_true.1 c3 x hx) _) HL.out.symm hbig (cells_names L w q)
          clear c3
          cases hq : (L.any fun s => !nameK k s) with
          | true =>
            rw [hq] at h HA
            simp only [if_true, Option.some.injEq, Prod.mk.injEq] at h
            obtain ⟨rfl, rfl, rfl⟩ := h
            clear hq
            go_enter Tryd.func44, Tryd.ntmps44
            go_wp2_with (first | (go_at_call 80; refine (strings_CutPrefix.calls a0 _ t1 t2 _ HC.out).mono ?_; rintro e w' ⟨rfl, ⟨nd, rfl⟩⟩) | (go_at_call 81; refine (HS _).mono ?_; rintro e w' ⟨rfl, rfl⟩) | (go_at_call 82; refine (HA _).mono ?_; rintro e w' ⟨rfl, q', rfl⟩))
            go_ret3
            exact ⟨_, rfl, Kd.R_nil _ _ _ _ _, pw_below_drewN (below_alloc (Below.refl _ _) _) _⟩
          | false =>
            rw [hq] at h HA
            simp only [Bool.false_eq_true, if_false, Option.some.injEq, Prod.mk.injEq] at h
            obtain ⟨rfl, rfl, rfl⟩ := h
            clear hq
            go_enter Tryd.func44, Tryd.ntmps44
            go_wp2_with (first | (go_at_call 80; refine (strings_CutPrefix.calls a0 _ t1 t2 _ HC.out).mono ?_; rintro e w' ⟨rfl, ⟨nd, rfl⟩⟩) | (go_at_call 81; refine (HS _).mono ?_; rintro e w' ⟨rfl, rfl⟩) | (go_at_call 82; refine (HA _).mono ?_; rintro e w' ⟨rfl, q', rfl⟩))
            go_ret3
            exact ⟨_, rfl, Kd.R_drewN (R_names L w n HL.out.symm hbig) _, pw_below_drewN (below_alloc (Below.refl _ _) _) _⟩
        · rw [if_neg c3] at h
          cases h
  · rw [if_neg c0] at h
    cases h
end Go.Proofs.YtpmjpbaeecnpiaaDoor.L

namespace Go.Proofs.YtpmjpbaeecnpiaaDoor.L
open Go.RowKit Go.Proofs.YtpmjpbaeecnpiaaDoorW.PrintWords Go.Proofs.YtpmjpbaeecnpiaaDoorW.PrintLast Go.Proofs.YtpmjpbaeecnpiaaDoorW.PrintMore
attribute [local go_sem] max2_int min2_int max_two min_two max_three min_three max_four min_four
set_option linter.unusedVariables false
set_option linter.unusedSimpArgs false

/-! ### impl_Select: function 12 -/
def impl_Select.f (k : Nat) (l0 : List (S39)) (a1 : Int) (a2 : ByteArray) : Option (List Int) := (impl_stepsOf.f k a2).bind fun bt358 => (if bt358.2.2 = true then ((impl_isElement.f k l0 a1).bind fun t363 => (if t363 = true then ((impl_led.f k l0 a1 bt358.1 bt358.2.1).bind fun t364 => (some t364)) else (some ([] : List Int)))) else (some ([] : List Int)))
set_option maxHeartbeats 8000000 in
set_option maxRecDepth 100000 in
theorem impl_Select.calls (k : Nat) (A0 : Option Addr) (c0 : Nat) (l0 : List (S39)) (a1 : Int) (a2 : ByteArray) (r : List Int) (w : World) (hT : Gl w) (hr0 : Kd.C k39 w A0 l0.length l0) (hc0 : l0.length ≤ c0) (h : impl_Select.f k l0 a1 a2 = some r) :
  Calls Tryd.prog 12 #[.slice A0 l0.length c0, .int .i64 a1, .string a2] w fun e w' => ∃ v0_ : Value, e = .returned (v0_) ∧ Kd.R (Kd.int .i64) 2 w' w.heap.size (fun _ => True) v0_ r ∧ Below w.heap.size w w' := by
 have HR0 := Aside0.mk hr0
 have HC0 := Aside0.mk hc0
 clear hr0 hc0
 have HT := Aside0.mk hT
 clear hT
 have HB := Aside0.mk (Below.refl w.heap.size w)
 have H : ((impl_stepsOf.f k a2).bind fun bt358 => (if bt358.2.2 = true then ((impl_isElement.f k l0 a1).bind fun t363 => (if t363 = true then ((impl_led.f k l0 a1 bt358.1 bt358.2.1).bind fun t364 => (some t364)) else (some ([] : List Int)))) else (some ([] : List Int)))) = some r := h
 clear h
 replace H := Option.bind_eq_some_iff.mp H
 obtain ⟨⟨t358, t359, t360⟩, A40, H⟩ := H
 replace H : (if t360 = true then ((impl_isElement.f k l0 a1).bind fun t363 => (if t363 = true then ((impl_led.f k l0 a1 t358 t359).bind fun t364 => (some t364)) else (some ([] : List Int)))) else (some ([] : List Int))) = some r := H
 have A4 := Aside0.mk A40
 clear A40
 by_cases c5 : t360 = true
 rotate_left
 ·replace c5 := Bool.eq_false_iff.mpr c5
  subst c5
  have H1 : (some ([] : List Int)) = some r := by rw [if_neg (show ¬ (false = true) by decide)] at H; exact H
  clear H
  have H := H1
  clear H1
  obtain rfl := Option.some.inj H
  go_enter Tryd.func12, Tryd.ntmps12
  go_wp2_with (first | ((with_reducible refine gate_callee (f := 44) rfl ?_); refine goesL_ (some 12) rfl rfl Tryd.func44 dq30 rfl #[.string a2] rfl dq29 ?_; (with_reducible refine (impl_stepsOf.calls k a2 t358 t359 false _ ?side1 A4.out).mono ?_); (case side1 => exact dq3); rintro e w15 ⟨v361, rfl, ho0, hb⟩; refine ⟨_, rfl, ?_⟩; have n0_ := Aside0.mk (Kd.R_lower ho0 (below_size dq33)); have n1_ := Aside0.mk (below_step dq33 hb); clear HB; have HO362 := n0_; have HB := n1_; clear n0_ n1_; (try clear hb); (try clear hb2); (try clear hk); (try clear hi); (try clear ho0)))
  go_ret
  exact ⟨_, dq35, dq34, dq33⟩
 subst c5
 have H1 : ((impl_isElement.f k l0 a1).bind fun t363 => (if t363 = true then ((impl_led.f k l0 a1 t358 t359).bind fun t364 => (some t364)) else (some ([] : List Int)))) = some r := by rw [if_pos rfl] at H; exact H
 clear H
 have H := H1
 clear H1
 replace H := Option.bind_eq_some_iff.mp H
 obtain ⟨t363, A60, H⟩ := H
 replace H : (if t363 = true then ((impl_led.f k l0 a1 t358 t359).bind fun t364 => (some t364)) else (some ([] : List Int))) = some r := H
 have A6 := Aside0.mk A60
 clear A60
 by_cases c7 : t363 = true
 rotate_left
 ·replace c7 := Bool.eq_false_iff.mpr c7
  subst c7
  have H1 : (some ([] : List Int)) = some r := by rw [if_neg (show ¬ (false = true) by decide)] at H; exact H
  clear H
  have H := H1
  clear H1
  obtain rfl := Option.some.inj H
  go_enter Tryd.func12, Tryd.ntmps12
  go_wp2_with (first | ((with_reducible refine gate_callee (f := 44) rfl ?_); refine goesL_ (some 12) rfl rfl Tryd.func44 dq30 rfl #[.string a2] rfl dq29 ?_; (with_reducible refine (impl_stepsOf.calls k a2 t358 t359 true _ ?side1 A4.out).mono ?_); (case side1 => exact dq3); rintro e w13 ⟨v361, rfl, ho0, hb⟩; refine ⟨_, rfl, ?_⟩; have n0_ := Aside0.mk (Kd.R_lower ho0 (below_size dq33)); have n1_ := Aside0.mk (below_step dq33 hb); clear HB; have HO362 := n0_; have HB := n1_; clear n0_ n1_; (try clear hb); (try clear hb2); (try clear hk); (try clear hi); (try clear ho0)) | (go_at_call 45; (with_reducible refine (impl_isElement.calls k _ _ l0 a1 false _ ?side3 ?side1 ?side2 A6.out).mono ?_); (case side1 => exact dq1); (case side2 => exact HC0.out); (case side3 => exact dq3); rintro e w14 ⟨rfl, hb⟩; have n0_ := Aside0.mk (Kd.R_below dq95 hb); have n1_ := Aside0.mk (below_step dq33 hb); clear HO362; clear HB; have HO362 := n0_; have HB := n1_; clear n0_ n1_; (try clear hb); (try clear hb2); (try clear hk); (try clear hi)))
  go_ret
  exact ⟨_, dq35, dq34, dq33⟩
 subst c7
 have H1 : ((impl_led.f k l0 a1 t358 t359).bind fun t364 => (some t364)) = some r := by rw [if_pos rfl] at H; exact H
 clear H
 have H := H1
 clear H1
 replace H := Option.bind_eq_some_iff.mp H
 obtain ⟨t364, A80, H⟩ := H
 replace H : (some t364) = some r := H
 have A8 := Aside0.mk A80
 clear A80
 obtain rfl := Option.some.inj H
 go_enter Tryd.func12, Tryd.ntmps12
 go_wp2_with (first | ((with_reducible refine gate_callee (f := 44) rfl ?_); refine goesL_ (some 12) rfl rfl Tryd.func44 dq30 rfl #[.string a2] rfl dq29 ?_; (with_reducible refine (impl_stepsOf.calls k a2 t358 t359 true _ ?side1 A4.out).mono ?_); (case side1 => exact dq3); rintro e w9 ⟨v361, rfl, ho0, hb⟩; refine ⟨_, rfl, ?_⟩; have n0_ := Aside0.mk (Kd.R_lower ho0 (below_size dq33)); have n1_ := Aside0.mk (below_step dq33 hb); clear HB; have HO362 := n0_; have HB := n1_; clear n0_ n1_; (try clear hb); (try clear hb2); (try clear hk); (try clear hi); (try clear ho0)) | (go_at_call 45; (with_reducible refine (impl_isElement.calls k _ _ l0 a1 true _ ?side3 ?side1 ?side2 A6.out).mono ?_); (case side1 => exact dq1); (case side2 => exact HC0.out); (case side3 => exact dq3); rintro e w10 ⟨rfl, hb⟩; have n0_ := Aside0.mk (Kd.R_below dq95 hb); have n1_ := Aside0.mk (below_step dq33 hb); clear HO362; clear HB; have HO362 := n0_; have HB := n1_; clear n0_ n1_; (try clear hb); (try clear hb2); (try clear hk); (try clear hi); obtain ⟨Ao11, co11, eo11⟩ := Kd.R_slice HO362.out; subst eo11) | ((with_reducible refine gate_callee (f := 46) rfl ?_); refine goesL_ (some 28) rfl rfl Tryd.func46 dq30 rfl #[.slice A0 l0.length c0, .int .i64 a1, .slice Ao11 t358.length co11, .bool t359] rfl dq29 ?_; (with_reducible refine (impl_led.calls k _ _ l0 a1 _ _ t358 t359 t364 _ ?side1 ?side2 ?side3 ?side4 A8.out).mono ?_); (case side1 => exact dq1); (case side2 => exact HC0.out); (case side3 => repeat (first | exact (Kd.R_reads' HO362.out).2.2 | (with_reducible refine Kd.C_alloc ?_ _) | (with_reducible refine Kd.C_drewN ?_ _) | (with_reducible refine Kd.C_drew ?_))); (case side4 => exact (Kd.R_reads' HO362.out).2.1); rintro e w12 ⟨v365, rfl, ho0, hb⟩; refine ⟨_, rfl, ?_⟩; have n0_ := Aside0.mk (Kd.R_below dq95 hb); have n1_ := Aside0.mk (Kd.R_lower ho0 (below_size dq33)); have n2_ := Aside0.mk (below_step dq33 hb); clear HO362; clear HB; have HO362 := n0_; have HO366 := n1_; have HB := n2_; clear n0_ n1_ n2_; (try clear hb); (try clear hb2); (try clear hk); (try clear hi); (try clear ho0)))
 go_ret
 exact ⟨_, dq35, by (with_reducible repeat (first | apply Kd.R_alloc | apply Kd.R_drewN | apply Kd.R_drew)); exact HO366.out, dq33⟩

/-! ### laws_big: function 18 -/
def laws_big.f (l0 : List Int) : Option (Bool) := some (decide ((l0.length : Int) > 1048576))
set_option maxHeartbeats 8000000 in
set_option maxRecDepth 100000 in
theorem laws_big.calls (A0 : Option Addr) (c0 : Nat) (l0 : List Int) (r : Bool) (w : World) (hr0 : Kd.C (Kd.int .u8) w A0 l0.length l0) (hc0 : l0.length ≤ c0) (h : laws_big.f l0 = some r) :
  Calls Tryd.prog 18 #[.slice A0 l0.length c0] w fun e w' => e = .returned (.bool r) ∧ Drawn0 w w' := by
 have HR0 := Aside0.mk hr0
 have HC0 := Aside0.mk hc0
 clear hr0 hc0
 have H : (some (decide ((l0.length : Int) > 1048576))) = some r := h
 clear h
 obtain rfl := Option.some.inj H
 go_enter Tryd.func18, Tryd.ntmps18
 go_wp2
 go_ret
 exact ⟨dq25, dq24⟩

/-- A state of type 99 at block g of W; what its slices lead to came in by w0. -/
def IsS99 (w0 W : World) (g : Nat) (f0 : List Int) (f1 : Int) : Prop := ∃ A0 c0, W.heap[g]? = some (.cells #[.slice A0 f0.length c0, .int .i64 f1] 99 (0, 0)) ∧ w0.heap.size ≤ g ∧ Kd.C (Kd.int .u8) w0 A0 f0.length f0
theorem IsS99.grown {w0 W : World} {g : Nat} {f0 : List Int} {f1 : Int} {W1 : World} {row : Option Nat} (h : IsS99 w0 W g f0 f1) (hw : W.grownBy W1 row) (hne : some g ≠ row) : IsS99 w0 W1 g f0 f1 := by
 obtain ⟨A0, c0, hb, hg, hr0⟩ := h
 exact ⟨A0, c0, blk_grown hb hw hne, hg, hr0⟩
theorem IsS99.below {w0 W : World} {g : Nat} {f0 : List Int} {f1 : Int} {W1 : World} (h : IsS99 w0 W g f0 f1) (hw : Below W.heap.size W W1) : IsS99 w0 W1 g f0 f1 := h.grown (grown_of_below hw none) dq28
theorem IsS99.alloc {w0 W : World} {g : Nat} {f0 : List Int} {f1 : Int} (h : IsS99 w0 W g f0 f1) (o : Obj) : IsS99 w0 (W.alloc o) g f0 f1 := h.below (below_alloc (Below.refl _ _) o)
theorem IsS99.drewN {w0 W : World} {g : Nat} {f0 : List Int} {f1 : Int} (h : IsS99 w0 W g f0 f1) (m : Nat) : IsS99 w0 (W.drewN m) g f0 f1 := h
theorem IsS99.drew {w0 W : World} {g : Nat} {f0 : List Int} {f1 : Int} (h : IsS99 w0 W g f0 f1) : IsS99 w0 W.drew g f0 f1 := h
theorem IsS99.apart {w0 W : World} {g : Nat} {f0 : List Int} {f1 : Int} {α : Type} {d : Kd α} {e : Nat} {base : Nat} {ok : Nat → Prop} {v : Value} {xs : List α} (h : IsS99 w0 W g f0 f1) (ho : d.R e W base ok v xs) (ht : ∀ q, q ∈ e :: d.E → q ≠ 99) : d.R e W base (fun k => ok k ∧ k ≠ g) v xs := by
 obtain ⟨A0, c0, hb, hg, hr0⟩ := h
 exact Kd.R_types ho hb ht
theorem IsS99.own_ne {w0 W : World} {g : Nat} {f0 : List Int} {f1 : Int} {α : Type} {d : Kd α} {e : Nat} {base : Nat} {ok : Nat → Prop} {v : Value} {xs : List α} (h : IsS99 w0 W g f0 f1) (ho : d.R e W base ok v xs) (ht : e ≠ 99) : some g ≠ v.ownBlock := by
 obtain ⟨A0, c0, hb, hg, hr0⟩ := h
 exact Kd.R_ne ho hb ht
theorem IsS99.apartS {w0 W : World} {g : Nat} {f0 : List Int} {f1 : Int} {α : Type} {d : Kd α} {e : Nat} {base : Nat} {ok : Nat → Prop} {v : Value} {xs : List α} (h : IsS99 w0 W g f0 f1) (ho : d.S e W base ok v xs) (ht : ∀ q, q ∈ e :: d.E → q ≠ 99) : d.S e W base (fun k => ok k ∧ k ≠ g) v xs := by
 obtain ⟨A0, c0, hb, hg, hr0⟩ := h
 exact Kd.S_types ho hb ht
theorem IsS99.own_neS {w0 W : World} {g : Nat} {f0 : List Int} {f1 : Int} {α : Type} {d : Kd α} {e : Nat} {base : Nat} {ok : Nat → Prop} {v : Value} {xs : List α} (h : IsS99 w0 W g f0 f1) (ho : d.S e W base ok v xs) (ht : e ≠ 99) : some g ≠ v.ownBlock := by
 obtain ⟨A0, c0, hb, hg, hr0⟩ := h
 exact Kd.S_ne ho hb ht
theorem IsS99.lt {w0 W : World} {g : Nat} {f0 : List Int} {f1 : Int} (h : IsS99 w0 W g f0 f1) : g < W.heap.size := by
 obtain ⟨A0, c0, hb, hg, hr0⟩ := h
 exact blk_lt hb
theorem IsS99.ge {w0 W : World} {g : Nat} {f0 : List Int} {f1 : Int} (h : IsS99 w0 W g f0 f1) : w0.heap.size ≤ g := by
 obtain ⟨A0, c0, hb, hg, hr0⟩ := h
 exact hg
theorem IsS99.far {w0 W : World} {g : Nat} {f0 : List Int} {f1 : Int} {p : Addr} (h : IsS99 w0 W g f0 f1) (hne : g ≠ p.block) (u : Value) : IsS99 w0 (W.setCell p u) g f0 f1 := by
 obtain ⟨A0, c0, hb, hg, hr0⟩ := h
 exact ⟨A0, c0, blk_far hb hne u, hg, hr0⟩
theorem cellS99_0 {W : World} {g : Nat} {A0 : Option Addr} {c0 : Nat} {f0 : List Int} {f1 : Int} (h : W.heap[g]? = some (.cells #[.slice A0 f0.length c0, .int .i64 f1] 99 (0, 0))) : W.cell? ⟨g, 0, none⟩ = some (.slice A0 f0.length c0) := (blk_cell h 0).trans rfl
theorem cellS99_1 {W : World} {g : Nat} {A0 : Option Addr} {c0 : Nat} {f0 : List Int} {f1 : Int} (h : W.heap[g]? = some (.cells #[.slice A0 f0.length c0, .int .i64 f1] 99 (0, 0))) : W.cell? ⟨g, 1, none⟩ = some (.int .i64 f1) := (blk_cell h 1).trans rfl
theorem IsS99.set_1 {w0 W : World} {g : Nat} {f0 : List Int} {f1 : Int} (h : IsS99 w0 W g f0 f1) (x : Int) : IsS99 w0 (W.setCell ⟨g, 1, none⟩ (.int .i64 x)) g f0 x := by
 obtain ⟨A0, c0, hb, hg, hr0⟩ := h
 exact ⟨A0, c0, by simpa using blk_set hb 1 (.int .i64 x), hg, hr0⟩
/-! ### spec_l1Open: function 50 -/
def spec_l1Open.f (l0 : List Int) : Option (List Int × Int) := some (l0, 0)
set_option maxHeartbeats 8000000 in
set_option maxRecDepth 100000 in
theorem spec_l1Open.calls (A0 : Option Addr) (c0 : Nat) (l0 : List Int) (r1 : List Int) (r2 : Int) (w0 w : World) (hB : Below w0.heap.size w0 w) (hr0 : Kd.C (Kd.int .u8) w0 A0 l0.length l0) (hc0 : l0.length ≤ c0) (h : spec_l1Open.f l0 = some (r1, r2)) :
  Calls Tryd.prog 50 #[.slice A0 l0.length c0] w fun e w' => ∃ g_ : Nat, e = .returned (.pointer (some ⟨g_, 0, none⟩)) ∧ IsS99 w0 w' g_ r1 r2 ∧ Below w0.heap.size w0 w' ∧ Below w.heap.size w w' := by
 have hu99 := Tryd.underlying99
 have HR0 := Aside0.mk hr0
 have HC0 := Aside0.mk hc0
 clear hr0 hc0
 have HBW := Aside0.mk (Below.refl w.heap.size w)
 have HW0 := Aside0.mk hB.size
 have HB := Aside0.mk hB
 clear hB
 have H : (some (l0, 0)) = some (r1, r2) := h
 clear h
 simp only [Option.some.injEq, Prod.mk.injEq] at H
 obtain ⟨rfl, rfl⟩ := H
 go_enter Tryd.func50, Tryd.ntmps50
 go_wp2_with (first | ((with_reducible refine gate_dst (N := 5) rfl ?_); refine box_event ?hg (N := 5) ?hd (cs := #[.slice A0 l0.length c0, .int .i64 0]) (t := 99) ?hr ?_; (case hd => rfl); (case hg => rfl); (case hr => exact dq0); intro gb367 hg w2 hbox hb; have n0_ := Aside0.mk (below_step HBW.out hb); have n1_ := Aside0.mk (below_step dq33 hb); have n2_ := Aside0.mk (hbox); have n3_ := Aside0.mk ((dq96 : w.heap.size ≤ gb367)); have n4_ := Aside0.mk ((Nat.le_trans HW0.out (dq96 : w.heap.size ≤ gb367) : w0.heap.size ≤ gb367)); clear HBW; clear HB; have HBW := n0_; have HB := n1_; have BK367 := n2_; have GW367 := n3_; have GE367 := n4_; clear n0_ n1_ n2_ n3_ n4_; clear hb hbox hg))
 go_ret
 exact ⟨_, rfl, (show IsS99 w0 _ gb367 l0 0 from ⟨_, _, by refine blk_up ?_; exact BK367.out, GE367.out, HR0.out⟩), by repeat (first | (with_reducible first | exact HB.out | apply below_alloc | apply pw_below_drewN | apply below_drew1 | refine below_set ?_ GE367.out) | exact HB.out), by repeat (first | (with_reducible first | exact HBW.out | apply below_alloc | apply pw_below_drewN | apply below_drew1 | refine below_set ?_ GW367.out) | exact HBW.out)⟩

/-! ### spec_l1Rd_next: function 93 -/
def spec_l1Rd_next.f (s0_0 : List Int) (s0_1 : Int) : Option (Int × Int) := if s0_1 ≥ (s0_0.length : Int) then (some (0, s0_1)) else (if 0 ≤ (wrap64 ((wrap64 (s0_1 + 1)) - 1)) then (if (wrap64 ((wrap64 (s0_1 + 1)) - 1)) < (s0_0.length : Int) then (some (wrap64 (rd s0_0 (wrap64 ((wrap64 (s0_1 + 1)) - 1))), wrap64 (s0_1 + 1))) else (none)) else (none))
set_option maxHeartbeats 8000000 in
set_option maxRecDepth 100000 in
theorem spec_l1Rd_next.calls (g : Nat) (s0_0 : List Int) (s0_1 : Int) (r1 : Int) (r2 : Int) (w0 w : World) (hI : IsS99 w0 w g s0_0 s0_1) (hB : Below w0.heap.size w0 w) (h : spec_l1Rd_next.f s0_0 s0_1 = some (r1, r2)) :
  Calls Tryd.prog 93 #[.pointer (some ⟨g, 0, none⟩)] w fun e w' => e = .returned (.int .i64 r1) ∧ IsS99 w0 w' g s0_0 r2 ∧ Below w0.heap.size w0 w' ∧ KeepBut w w' g none := by
 have HI0 := Aside0.mk hI
 have HK := Aside0.mk (KeepBut.refl w g none)
 have HL := Aside0.mk hB.size
 clear hI
 have HW0 := Aside0.mk hB.size
 have HB := Aside0.mk hB
 clear hB
 have H : (if s0_1 ≥ (s0_0.length : Int) then (some (0, s0_1)) else (if 0 ≤ (wrap64 ((wrap64 (s0_1 + 1)) - 1)) then (if (wrap64 ((wrap64 (s0_1 + 1)) - 1)) < (s0_0.length : Int) then (some (wrap64 (rd s0_0 (wrap64 ((wrap64 (s0_1 + 1)) - 1))), wrap64 (s0_1 + 1))) else (none)) else (none))) = some (r1, r2) := h
 clear h
 by_cases c2 : s0_1 ≥ (s0_0.length : Int)
 ·rw [if_pos c2] at H
  have c2b0 : decide ((s0_0.length : Int) ≤ s0_1) = true := decide_eq_true c2
  clear c2
  simp only [Option.some.injEq, Prod.mk.injEq] at H
  obtain ⟨rfl, rfl⟩ := H
  obtain ⟨ASz3_0, cSz3_0, HGz3, hgz3, HSz3_0⟩ := HI0.out
  have hcz3_0 := cellS99_0 HGz3
  have hcz3_1 := cellS99_1 HGz3
  have hfz3_1 := blk_frozen HGz3 1
  clear HGz3 hgz3
  go_enter Tryd.func93, Tryd.ntmps93
  go_wp2
  repeat (go_quiet (fail); try go_wp2)
  go_ret
  exact ⟨dq35, dq99, dq98, dq97⟩
 rw [if_neg c2] at H
 have c2b0 : decide ((s0_0.length : Int) ≤ s0_1) = false := decide_eq_false c2
 clear c2
 obtain ⟨ji4, hji4⟩ : ∃ j_ : Int, (wrap64 ((wrap64 (s0_1 + 1)) - 1)) = j_ := ⟨_, rfl⟩
 replace H : (if 0 ≤ (ji4) then (if (ji4) < (s0_0.length : Int) then (some (wrap64 (rd s0_0 (ji4)), wrap64 (s0_1 + 1))) else (none)) else (none)) = some (r1, r2) := by first | (rw [hji4] at H; exact H) | (simp only [hji4] at H ⊢; exact H)
 have hji4w : (IntKind.i64.wrap ((wrap64 (s0_1 + 1)) - 1)) = ji4 := (i64_w _).trans hji4
 by_cases c5 : 0 ≤ (ji4)
 rotate_left
 ·rw [if_neg c5] at H
  exact absurd H dq28
 rw [if_pos c5] at H
 have c5b0 := decide_eq_true c5
 clear c5
 by_cases c6 : (ji4) < (s0_0.length : Int)
 rotate_left
 ·rw [if_neg c6] at H
  exact absurd H dq28
 rw [if_pos c6] at H
 have c6b0 := decide_eq_true c6
 clear c6
 simp only [Option.some.injEq, Prod.mk.injEq] at H
 obtain ⟨rfl, rfl⟩ := H
 obtain ⟨ASz7_0, cSz7_0, HGz7, hgz7, HSz7_0⟩ := HI0.out
 have hcz7_0 := cellS99_0 HGz7
 have hcz7_1 := cellS99_1 HGz7
 have hfz7_1 := blk_frozen HGz7 1
 clear HGz7 hgz7
 have p368 : 0 ≤ ((ji4) : Int) := of_decide_eq_true dq26
 have q368 : (ji4) < (s0_0.length : Int) := of_decide_eq_true dq26
 obtain ⟨ad368, e368, hx368_0⟩ := Kd.at_int HSz7_0 (ji4) p368 q368
 cases e368
 have hn368_0 : ad368.block ≠ g := Nat.ne_of_lt (Nat.lt_of_lt_of_le (by have := World.block_lt_of_cell? _ _ hx368_0; first | rwa [add_block] at this | exact this) (IsS99.ge HI0.out))
 replace hx368_0 := pw_cell_below HB.out hx368_0
 replace hx368_0 := (cell_far (p := ⟨g, 1, none⟩) (by first | (rw [add_block]; exact hn368_0) | (show (Addr.add _ _).block ≠ _; rw [add_block]; exact hn368_0) | exact hn368_0) (.int .i64 (wrap64 (s0_1 + 1)))).trans hx368_0
 (try have hy368_0 := fun (n_ : Nat) => (show (((w.drewN n_).setCell ⟨g, 1, none⟩ (.int .i64 (wrap64 (s0_1 + 1))))).cell? _ = some _ from hx368_0))
 clear hn368_0
 replace p368 := eq_true p368
 replace q368 := eq_true q368
 go_enter Tryd.func93, Tryd.ntmps93
 go_wp2
 repeat (go_quiet (fail); try go_wp2)
 go_ret
 exact ⟨by first | rfl | (simp [errW_none, errW_some] <;> rfl) | (simp only [← hji4]; first | rfl | (simp [errW_none, errW_some] <;> rfl)) | (simp [*, errW_none, errW_some] <;> rfl), dq99, dq98, dq97⟩

/-! ### spec_l1Rd_below: function 63 -/
def spec_l1Rd_below.f (s0_0 : List Int) (s0_1 : Int) (a1 : Int) : Option (Int × Int) := if a1 ≤ 1 then (some (0, s0_1)) else (if a1 ≤ 256 then ((spec_l1Rd_next.f s0_0 s0_1).bind fun bt369 => (if a1 = 0 then (none) else (some (Int.tmod bt369.1 a1, bt369.2)))) else ((spec_l1Rd_next.f s0_0 s0_1).bind fun bt371 => ((spec_l1Rd_next.f s0_0 bt371.2).bind fun bt373 => (if a1 = 0 then (none) else (some (Int.tmod (wrap64 ((wrap64 (bt371.1 * 256)) + bt373.1)) a1, bt373.2))))))
set_option maxHeartbeats 8000000 in
set_option maxRecDepth 100000 in
theorem spec_l1Rd_below.calls (g : Nat) (s0_0 : List Int) (s0_1 : Int) (a1 : Int) (r1 : Int) (r2 : Int) (w0 w : World) (hI : IsS99 w0 w g s0_0 s0_1) (hB : Below w0.heap.size w0 w) (h : spec_l1Rd_below.f s0_0 s0_1 a1 = some (r1, r2)) :
  Calls Tryd.prog 63 #[.pointer (some ⟨g, 0, none⟩), .int .i64 a1] w fun e w' => e = .returned (.int .i64 r1) ∧ IsS99 w0 w' g s0_0 r2 ∧ Below w0.heap.size w0 w' ∧ KeepBut w w' g none := by
 have HI0 := Aside0.mk hI
 have HK := Aside0.mk (KeepBut.refl w g none)
 have HL := Aside0.mk hB.size
 clear hI
 have HW0 := Aside0.mk hB.size
 have HB := Aside0.mk hB
 clear hB
 have H : (if a1 ≤ 1 then (some (0, s0_1)) else (if a1 ≤ 256 then ((spec_l1Rd_next.f s0_0 s0_1).bind fun bt369 => (if a1 = 0 then (none) else (some (Int.tmod bt369.1 a1, bt369.2)))) else ((spec_l1Rd_next.f s0_0 s0_1).bind fun bt371 => ((spec_l1Rd_next.f s0_0 bt371.2).bind fun bt373 => (if a1 = 0 then (none) else (some (Int.tmod (wrap64 ((wrap64 (bt371.1 * 256)) + bt373.1)) a1, bt373.2))))))) = some (r1, r2) := h
 clear h
 by_cases c3 : a1 ≤ 1
 ·rw [if_pos c3] at H
  have c3b0 := decide_eq_true c3
  clear c3
  simp only [Option.some.injEq, Prod.mk.injEq] at H
  obtain ⟨rfl, rfl⟩ := H
  go_enter Tryd.func63, Tryd.ntmps63
  go_wp2
  go_ret
  exact ⟨dq35, dq99, dq98, dq97⟩
 rw [if_neg c3] at H
 have c3b0 := decide_eq_false c3
 clear c3
 by_cases c4 : a1 ≤ 256
 ·rw [if_pos c4] at H
  have c4b0 := decide_eq_true c4
  clear c4
  replace H := Option.bind_eq_some_iff.mp H
  obtain ⟨⟨t369, t370⟩, A50, H⟩ := H
  replace H : (if a1 = 0 then (none) else (some (Int.tmod t369 a1, t370))) = some (r1, r2) := H
  have A5 := Aside0.mk A50
  clear A50
  by_cases c6 : a1 = 0
  ·rw [if_pos c6] at H
   exact absurd H dq28
  rw [if_neg c6] at H
  have c6b0 := beq_eq_false_iff_ne.mpr c6
  have c6b1 := bne_iff_ne.mpr c6
  simp only [Option.some.injEq, Prod.mk.injEq] at H
  obtain ⟨rfl, rfl⟩ := H
  go_enter Tryd.func63, Tryd.ntmps63
  go_wp2_with (first | ((with_reducible refine gate_callee (f := 93) rfl ?_); refine goesL_ (some 11) rfl rfl Tryd.func93 dq30 rfl #[.pointer (some ⟨g, 0, none⟩)] rfl dq29 ?_; (with_reducible refine (spec_l1Rd_next.calls g s0_0 s0_1 t369 t370 w0 _ ?side1 ?side2 A5.out).mono ?_); (case side1 => exact dq7); (case side2 => exact dq8); rintro e w7 ⟨rfl, hi, hb, hk⟩; refine ⟨_, rfl, ?_⟩; have n0_ := Aside0.mk (KeepBut.trans dq97 hk (.inl rfl)); have n1_ := Aside0.mk (hb); have n2_ := Aside0.mk (hi); clear HK; clear HB; clear HI0; have HK := n0_; have HB := n1_; have HI0 := n2_; clear n0_ n1_ n2_; (try clear hb); (try clear hb2); (try clear hk); (try clear hi)))
  go_ret
  exact ⟨dq35, dq99, dq98, dq97⟩
 rw [if_neg c4] at H
 have c4b0 := decide_eq_false c4
 clear c4
 replace H := Option.bind_eq_some_iff.mp H
 obtain ⟨⟨t371, t372⟩, A80, H⟩ := H
 replace H : ((spec_l1Rd_next.f s0_0 t372).bind fun bt373 => (if a1 = 0 then (none) else (some (Int.tmod (wrap64 ((wrap64 (t371 * 256)) + bt373.1)) a1, bt373.2)))) = some (r1, r2) := H
 have A8 := Aside0.mk A80
 clear A80
 replace H := Option.bind_eq_some_iff.mp H
 obtain ⟨⟨t373, t374⟩, A90, H⟩ := H
 replace H : (if a1 = 0 then (none) else (some (Int.tmod (wrap64 ((wrap64 (t371 * 256)) + t373)) a1, t374))) = some (r1, r2) := H
 have A9 := Aside0.mk A90
 clear A90
 by_cases c10 : a1 = 0
 ·rw [if_pos c10] at H
  exact absurd H dq28
 rw [if_neg c10] at H
 have c10b0 := beq_eq_false_iff_ne.mpr c10
 have c10b1 := bne_iff_ne.mpr c10
 simp only [Option.some.injEq, Prod.mk.injEq] at H
 obtain ⟨rfl, rfl⟩ := H
 go_enter Tryd.func63, Tryd.ntmps63
 go_wp2_with (first | ((with_reducible refine gate_callee (f := 93) rfl ?_); refine goesL_ (some 15) rfl rfl Tryd.func93 dq30 rfl #[.pointer (some ⟨g, 0, none⟩)] rfl dq29 ?_; (with_reducible refine (spec_l1Rd_next.calls g s0_0 s0_1 t371 t372 w0 _ ?side1 ?side2 A8.out).mono ?_); (case side1 => exact dq7); (case side2 => exact dq8); rintro e w11 ⟨rfl, hi, hb, hk⟩; refine ⟨_, rfl, ?_⟩; have n0_ := Aside0.mk (KeepBut.trans dq97 hk (.inl rfl)); have n1_ := Aside0.mk (hb); have n2_ := Aside0.mk (hi); clear HK; clear HB; clear HI0; have HK := n0_; have HB := n1_; have HI0 := n2_; clear n0_ n1_ n2_; (try clear hb); (try clear hb2); (try clear hk); (try clear hi)) | ((with_reducible refine gate_callee (f := 93) rfl ?_); refine goesL_ (some 19) rfl rfl Tryd.func93 dq30 rfl #[.pointer (some ⟨g, 0, none⟩)] rfl dq29 ?_; (with_reducible refine (spec_l1Rd_next.calls g s0_0 t372 t373 t374 w0 _ ?side1 ?side2 A9.out).mono ?_); (case side1 => exact dq7); (case side2 => exact dq8); rintro e w12 ⟨rfl, hi, hb, hk⟩; refine ⟨_, rfl, ?_⟩; have n0_ := Aside0.mk (KeepBut.trans dq97 hk (.inl rfl)); have n1_ := Aside0.mk (hb); have n2_ := Aside0.mk (hi); clear HK; clear HB; clear HI0; have HK := n0_; have HB := n1_; have HI0 := n2_; clear n0_ n1_ n2_; (try clear hb); (try clear hb2); (try clear hk); (try clear hi)))
 go_ret
 exact ⟨dq35, dq99, dq98, dq97⟩

/-! ### spec_l1Rd_once: function 52 -/
def spec_l1Rd_once.f (s0_0 : List Int) (s0_1 : Int) (a1 : Int) : Option (Bool × Int) := (spec_l1Rd_below.f s0_0 s0_1 a1).bind fun bt375 => (some ((bt375.1 == (wrap64 (a1 - 1))), bt375.2))
set_option maxHeartbeats 8000000 in
set_option maxRecDepth 100000 in
theorem spec_l1Rd_once.calls (g : Nat) (s0_0 : List Int) (s0_1 : Int) (a1 : Int) (r1 : Bool) (r2 : Int) (w0 w : World) (hI : IsS99 w0 w g s0_0 s0_1) (hB : Below w0.heap.size w0 w) (h : spec_l1Rd_once.f s0_0 s0_1 a1 = some (r1, r2)) :
  Calls Tryd.prog 52 #[.pointer (some ⟨g, 0, none⟩), .int .i64 a1] w fun e w' => e = .returned (.bool r1) ∧ IsS99 w0 w' g s0_0 r2 ∧ Below w0.heap.size w0 w' ∧ KeepBut w w' g none := by
 have HI0 := Aside0.mk hI
 have HK := Aside0.mk (KeepBut.refl w g none)
 have HL := Aside0.mk hB.size
 clear hI
 have HW0 := Aside0.mk hB.size
 have HB := Aside0.mk hB
 clear hB
 have H : ((spec_l1Rd_below.f s0_0 s0_1 a1).bind fun bt375 => (some ((bt375.1 == (wrap64 (a1 - 1))), bt375.2))) = some (r1, r2) := h
 clear h
 replace H := Option.bind_eq_some_iff.mp H
 obtain ⟨⟨t375, t376⟩, A30, H⟩ := H
 replace H : (some ((t375 == (wrap64 (a1 - 1))), t376)) = some (r1, r2) := H
 have A3 := Aside0.mk A30
 clear A30
 simp only [Option.some.injEq, Prod.mk.injEq] at H
 obtain ⟨rfl, rfl⟩ := H
 go_enter Tryd.func52, Tryd.ntmps52
 go_wp2_with (first | ((with_reducible refine gate_callee (f := 63) rfl ?_); refine goesL_ (some 7) rfl rfl Tryd.func63 dq30 rfl #[.pointer (some ⟨g, 0, none⟩), .int .i64 a1] rfl dq29 ?_; (with_reducible refine (spec_l1Rd_below.calls g s0_0 s0_1 a1 t375 t376 w0 _ ?side1 ?side2 A3.out).mono ?_); (case side1 => exact dq7); (case side2 => exact dq8); rintro e w4 ⟨rfl, hi, hb, hk⟩; refine ⟨_, rfl, ?_⟩; have n0_ := Aside0.mk (KeepBut.trans dq97 hk (.inl rfl)); have n1_ := Aside0.mk (hb); have n2_ := Aside0.mk (hi); clear HK; clear HB; clear HI0; have HK := n0_; have HB := n1_; have HI0 := n2_; clear n0_ n1_ n2_; (try clear hb); (try clear hb2); (try clear hk); (try clear hi)))
 go_ret
 exact ⟨dq35, dq99, dq98, dq97⟩

end Go.Proofs.YtpmjpbaeecnpiaaDoor.L
