/- Words and contracts for the row RowFnExactFieldOf: what the Go functions answer that it calls; printed by programs of the kit and of this session, and merged. -/
import Derived.Test.YtpmjpbaeecnpiaaGreatDoorQf6
import Derived.Shelf.Strings.BuilderK
import Derived.Lib.Hide
import Derived.Outline
import Derived.Test.YtpmjpbaeecnpiaaGreatDoorProg
import Derived.Shelf.Strings.Builder2
import Derived.Lib.Join
import Derived.Shelf.RegionOpenPlain
import Derived.Shelf.Strings.FieldsFuncAny
namespace Go.Proofs.YtpmjpbaeecnpiaaGreatDoor.L
open Go.RowKit Go.Proofs.YtpmjpbaeecnpiaaGreatDoorW.PrintWords Go.Proofs.YtpmjpbaeecnpiaaGreatDoorW.PrintLast Go.Proofs.YtpmjpbaeecnpiaaGreatDoorW.PrintMore
attribute [local go_sem] max2_int min2_int max_two min_two max_three min_three max_four min_four
set_option linter.unusedVariables false
set_option linter.unusedSimpArgs false

/-! ### impl_within: function 124 -/
def impl_within.l0 : Nat → List (S65) → Int → Int → Option (Bool)
 | 0, _, _, _ => none
 | k + 1, x0, x1, x2 => if x1 > x2 then (if 0 ≤ x1 then (if x1 < (x0.length : Int) then (impl_within.l0 k x0 ((rd_T65 x0 x1).f0) x2) else (none)) else (none)) else (some (x1 == x2))
def impl_within.f (k : Nat) (l0 : List (S65)) (a1 : Int) (a2 : Int) : Option (Bool) := impl_within.l0 k l0 a1 a2
set_option maxHeartbeats 8000000 in
set_option maxRecDepth 100000 in
theorem impl_within.calls (k : Nat) (A0 : Option Addr) (c0 : Nat) (l0 : List (S65)) (a1 : Int) (a2 : Int) (r : Bool) (w : World) (hr0 : Kd.C k65 w A0 l0.length l0) (hc0 : l0.length ≤ c0) (h : impl_within.f k l0 a1 a2 = some r) :
  Calls Tryz.prog 124 #[.slice A0 l0.length c0, .int .i64 a1, .int .i64 a2] w fun e w' => e = .returned (.bool r) ∧ Drawn0 w w' := by
 have HR0 := Aside0.mk hr0
 have HC0 := Aside0.mk hc0
 clear hr0 hc0
 have H : (impl_within.l0 k l0 a1 a2) = some r := h
 clear h
 have H' := Aside0.mk H
 clear H
 go_enter Tryz.func124, Tryz.ntmps124
 go_wp2
 go_loopg [1] k (fun kq v1 w' => ∃ (x1_1 : Int), v1 = .int .i64 x1_1 ∧ Aside0 (impl_within.l0 kq l0 x1_1 a2 = some r) ∧ Aside0 (kq ≤ k) ∧ Drawn0 w w')
 case atStart => exact ⟨(a1), dq12, H', ⟨Nat.le_refl _⟩, dq19⟩
 clear H'
 try clear c1
 try clear p2
 obtain ⟨x1_1, rfl, HA, HK1, ⟨m1, rfl⟩⟩ := hrel
 cases gk with
 | zero => exact absurd HA.out (by simp [impl_within.l0])
 | succ k1 =>
  have H := HA.out
  clear HA
  simp only [impl_within.l0] at H
  by_cases c4 : x1_1 > a2
  rotate_left
  ·rw [if_neg c4] at H
   have c4b0 : decide (a2 < x1_1) = false := decide_eq_false c4
   clear c4
   obtain rfl := Option.some.inj H
   go_wp2
   go_ret
   exact ⟨dq12, dq19⟩
  rw [if_pos c4] at H
  have c4b0 : decide (a2 < x1_1) = true := decide_eq_true c4
  clear c4
  by_cases c5 : 0 ≤ x1_1
  rotate_left
  ·rw [if_neg c5] at H
   exact absurd H dq17
  rw [if_pos c5] at H
  have c5b0 := decide_eq_true c5
  clear c5
  by_cases c6 : x1_1 < (l0.length : Int)
  rotate_left
  ·rw [if_neg c6] at H
   exact absurd H dq17
  rw [if_pos c6] at H
  have c6b0 := decide_eq_true c6
  clear c6
  have H' := Aside0.mk H
  clear H
  have p413 : 0 ≤ (x1_1 : Int) := of_decide_eq_true dq13
  have q413 : x1_1 < (l0.length : Int) := of_decide_eq_true dq13
  obtain ⟨ad413, A413_3, c413_3, e413, hx413_0, hx413_1, hx413_2, hx413_3, hl413_3, hi413_3⟩ := at_T65 HR0.out x1_1 p413 q413
  cases e413
  have HR413_3 := Aside0.mk hi413_3
  have HC413_3 := Aside0.mk hl413_3
  clear hi413_3 hl413_3
  replace p413 := eq_true p413
  replace q413 := eq_true q413
  go_wp2
  go_roundg k1
  case measure => have := HK1.out; omega
  case rel => exact ⟨((rd_T65 l0 x1_1).f0), dq12, H', ⟨dq16⟩, dq19⟩

/-! ### impl_led: function 81 -/
mutual
def impl_led.l0 : Nat → List (S65) → Int → List ByteArray → Bool → List Bool → List (S65) → Int → Int → Option (List Int)
 | 0, _, _, _, _, _, _, _, _ => none
 | k + 1, x0, x1, x2, x3, x9, x23, x24, x25 => if x25 < x24 then (if 0 ≤ x25 then (if x25 < (x23.length : Int) then (if x25 = x1 then (if x25 < (x9.length : Int) then (impl_led.l0 k x0 x1 x2 x3 (x9.set (x25 : Int).toNat true) x23 x24 (wrap64 (x25 + 1))) else (none)) else (if x3 = true then (if ((rd_T65 x23 x25).f1).toList = ([] : List UInt8) then (if x25 < (x9.length : Int) then (impl_led.l0 k x0 x1 x2 x3 (x9.set (x25 : Int).toNat false) x23 x24 (wrap64 (x25 + 1))) else (none)) else ((impl_within.f k x0 x25 x1).bind fun t421 => (if x25 < (x9.length : Int) then (impl_led.l0 k x0 x1 x2 x3 (x9.set (x25 : Int).toNat t421) x23 x24 (wrap64 (x25 + 1))) else (none)))) else (if x25 < (x9.length : Int) then (impl_led.l0 k x0 x1 x2 x3 (x9.set (x25 : Int).toNat false) x23 x24 (wrap64 (x25 + 1))) else (none)))) else (none)) else (none)) else (impl_led.l1 k x0 x9 x2 (x2.length : Int) 0)
def impl_led.l1 : Nat → List (S65) → List Bool → List ByteArray → Int → Int → Option (List Int)
 | 0, _, _, _, _, _ => none
 | k + 1, x0, x9, x51, x52, x53 => if x53 < x52 then (if 0 ≤ x53 then (if x53 < (x51.length : Int) then (if 0 ≤ (x0.length : Int) then (if ((x0.length : Int) : Int).toNat ≤ 281474976710656 then (impl_led.l2 k x0 x9 (rdOf ByteArray.empty x51 x53) (List.replicate ((x0.length : Int) : Int).toNat false) x51 x52 x53 x0 (x0.length : Int) 0) else (none)) else (none)) else (none)) else (none)) else (impl_led.l3 k (([] : List Int)) x9 (x9.length : Int) 0)
def impl_led.l2 : Nat → List (S65) → List Bool → ByteArray → List Bool → List ByteArray → Int → Int → List (S65) → Int → Int → Option (List Int)
 | 0, _, _, _, _, _, _, _, _, _, _ => none
 | k + 1, x0, x9, x13, x14, x51, x52, x53, x60, x61, x62 => if x62 < x61 then (if 0 ≤ x62 then (if x62 < (x60.length : Int) then (if ((rd_T65 x60 x62).f0) ≥ 0 then (if 0 ≤ ((rd_T65 x60 x62).f0) then (if ((rd_T65 x60 x62).f0) < (x9.length : Int) then (if rdOf false x9 ((rd_T65 x60 x62).f0) = true then (if x62 < (x14.length : Int) then (impl_led.l2 k x0 x9 x13 (x14.set (x62 : Int).toNat (((rd_T65 x60 x62).f1).toList == x13.toList)) x51 x52 x53 x60 x61 (wrap64 (x62 + 1))) else (none)) else (if x62 < (x14.length : Int) then (impl_led.l2 k x0 x9 x13 (x14.set (x62 : Int).toNat false) x51 x52 x53 x60 x61 (wrap64 (x62 + 1))) else (none))) else (none)) else (none)) else (if x62 < (x14.length : Int) then (impl_led.l2 k x0 x9 x13 (x14.set (x62 : Int).toNat false) x51 x52 x53 x60 x61 (wrap64 (x62 + 1))) else (none))) else (none)) else (none)) else (impl_led.l1 k x0 x14 x51 x52 (wrap64 (x53 + 1)))
def impl_led.l3 : Nat → List Int → List Bool → Int → Int → Option (List Int)
 | 0, _, _, _, _ => none
 | k + 1, x17, x90, x91, x92 => if x92 < x91 then (if 0 ≤ x92 then (if x92 < (x90.length : Int) then (if rdOf false x90 x92 = true then (if x17.length < 17592186044416 then (impl_led.l3 k (x17 ++ [x92]) x90 x91 (wrap64 (x92 + 1))) else (none)) else (impl_led.l3 k x17 x90 x91 (wrap64 (x92 + 1)))) else (none)) else (none)) else (some x17)
end
def impl_led.f (k : Nat) (l0 : List (S65)) (a1 : Int) (l2 : List ByteArray) (a3 : Bool) : Option (List Int) := if 0 ≤ (l0.length : Int) then (if ((l0.length : Int) : Int).toNat ≤ 281474976710656 then (impl_led.l0 k l0 a1 l2 a3 (List.replicate ((l0.length : Int) : Int).toNat false) l0 (l0.length : Int) 0) else (none)) else (none)
set_option maxHeartbeats 8000000 in
set_option maxRecDepth 100000 in
theorem impl_led.calls (k : Nat) (A0 : Option Addr) (c0 : Nat) (l0 : List (S65)) (a1 : Int) (A2 : Option Addr) (c2 : Nat) (l2 : List ByteArray) (a3 : Bool) (r : List Int) (w : World) (hr0 : Kd.C k65 w A0 l0.length l0) (hc0 : l0.length ≤ c0) (hr2 : Kd.C Kd.string w A2 l2.length l2) (hc2 : l2.length ≤ c2) (h : impl_led.f k l0 a1 l2 a3 = some r) :
  Calls Tryz.prog 81 #[.slice A0 l0.length c0, .int .i64 a1, .slice A2 l2.length c2, .bool a3] w fun e w' => ∃ v0_ : Value, e = .returned (v0_) ∧ Kd.R (Kd.int .i64) 2 w' w.heap.size (fun _ => True) v0_ r ∧ Below w.heap.size w w' := by
 have hu65 := Tryz.underlying65
 have HR0 := Aside0.mk hr0
 have HC0 := Aside0.mk hc0
 clear hr0 hc0
 have HR2 := Aside0.mk hr2
 have HC2 := Aside0.mk hc2
 clear hr2 hc2
 have HB := Aside0.mk (Below.refl w.heap.size w)
 have H : (if 0 ≤ (l0.length : Int) then (if ((l0.length : Int) : Int).toNat ≤ 281474976710656 then (impl_led.l0 k l0 a1 l2 a3 (List.replicate ((l0.length : Int) : Int).toNat false) l0 (l0.length : Int) 0) else (none)) else (none)) = some r := h
 clear h
 by_cases c5 : 0 ≤ (l0.length : Int)
 rotate_left
 ·rw [if_neg c5] at H
  exact absurd H dq17
 rw [if_pos c5] at H
 have c5b0 := eq_true c5
 have c5b1 := decide_eq_true c5
 clear c5
 by_cases c6 : ((l0.length : Int) : Int).toNat ≤ 281474976710656
 rotate_left
 ·rw [if_neg c6] at H
  exact absurd H dq17
 rw [if_pos c6] at H
 have c6b0 := eq_true c6
 have c6b1 := decide_eq_true c6
 clear c6
 obtain ⟨y414, hy414⟩ : ∃ y_ : List Bool, y_ = (List.replicate ((l0.length : Int) : Int).toNat false) := ⟨_, rfl⟩
 replace H : (impl_led.l0 k l0 a1 l2 a3 y414 l0 (l0.length : Int) 0) = some r := by first | (rw [hy414]; with_reducible exact H) | (have H2_ := (Option.bind_some _ _).symm.trans H; rw [hy414]; with_reducible exact H2_) | (have H2_ := (Option.bind_some _ _).symm.trans H; with_reducible exact H2_) | with_reducible exact H | (rw [hy414]; exact H) | exact H
 have Ny414 := Aside0.mk hy414
 clear hy414
 have H' := Aside0.mk H
 clear H
 go_enter Tryz.func81, Tryz.ntmps81
 go_wp2_with (first | ((with_reducible refine gate_dst (N := 22) rfl ?_); refine Kd.R_make Kd.bool _ 4 rfl (N := 22) rfl 158 _ _ rfl (l0.length : Int) rfl rfl Tryz.underlying158 (.bool false) 1 info4 rfl dq24 dq20 false (ok := fun _ => True) (okp := fun _ => True) rfl (fun _ hk => hk) trivial (of_decide_eq_true dq13) (Nat.le_trans (Nat.mul_le_mul_right _ (of_decide_eq_true dq13 : (l0.length : Int).toNat ≤ 281474976710656)) dq20) (Below.refl _ _) (Nat.le_refl _) ?_; intro v415 w7 ho8 hb hg_ hnew_; clear hg_ hnew_; (first | rw [← Ny414.out] at ho8 | (simp only [Int.reduceToNat] at ho8; rw [← Ny414.out] at ho8)); have n0_ := Aside0.mk (Kd.R_lower ho8 (below_size dq9)); have n1_ := Aside0.mk (below_step dq9 hb); clear HB; have HO416 := n0_; have HB := n1_; clear n0_ n1_; clear hb ho8))
 go_loopg [25] k (fun kq v25 w' => ∃ (x9_1 : List Bool) (x25_1 : Int), v25 = .int .i64 x25_1 ∧ Aside0 (impl_led.l0 kq l0 a1 l2 a3 x9_1 l0 (l0.length : Int) x25_1 = some r) ∧ Aside0 (kq ≤ k) ∧ Aside0 (Kd.R Kd.bool 4 w' w.heap.size (fun _ => True) v415 x9_1) ∧ Aside0 (Below w.heap.size w w'))
 case atStart => exact ⟨(y414), (0), dq12, H', ⟨Nat.le_refl _⟩, ⟨by (with_reducible repeat (first | apply Kd.R_alloc | apply Kd.R_drewN | apply Kd.R_drew)); exact HO416.out⟩, ⟨dq9⟩⟩
 clear H'
 try clear c5b0
 try clear c5b1
 try clear c6b0
 try clear c6b1
 obtain ⟨x9_1, x25_1, rfl, HA, HK1, HO_9, HB⟩ := hrel
 cases gk with
 | zero => exact absurd HA.out (by simp [impl_led.l0])
 | succ k1 =>
  have H := HA.out
  clear HA
  simp only [impl_led.l0] at H
  by_cases c9 : x25_1 < (l0.length : Int)
  ·rw [if_pos c9] at H
   have c9b0 := decide_eq_true c9
   clear c9
   by_cases c10 : 0 ≤ x25_1
   rotate_left
   ·rw [if_neg c10] at H
    exact absurd H dq17
   rw [if_pos c10] at H
   have c10b0 := decide_eq_true c10
   clear c10
   by_cases c11 : x25_1 < (l0.length : Int)
   rotate_left
   ·rw [if_neg c11] at H
    exact absurd H dq17
   rw [if_pos c11] at H
   have c11b0 := decide_eq_true c11
   clear c11
   by_cases c12 : x25_1 = a1
   ·rw [if_pos c12] at H
    have c12b0 := beq_iff_eq.mpr c12
    have c12b1 := bne_eq_false_iff_eq.mpr c12
    clear c12
    by_cases c13 : x25_1 < (x9_1.length : Int)
    rotate_left
    ·rw [if_neg c13] at H
     exact absurd H dq17
    rw [if_pos c13] at H
    have c13b0 := decide_eq_true c13
    clear c13
    obtain ⟨y419, hy419⟩ : ∃ y_ : List Bool, y_ = (x9_1.set (x25_1 : Int).toNat true) := ⟨_, rfl⟩
    replace H : (impl_led.l0 k1 l0 a1 l2 a3 y419 l0 (l0.length : Int) (wrap64 (x25_1 + 1))) = some r := by first | (rw [hy419]; with_reducible exact H) | (have H2_ := (Option.bind_some _ _).symm.trans H; rw [hy419]; with_reducible exact H2_) | (have H2_ := (Option.bind_some _ _).symm.trans H; with_reducible exact H2_) | with_reducible exact H | (rw [hy419]; exact H) | exact H
    have Ny419 := Aside0.mk hy419
    clear hy419
    have H' := Aside0.mk H
    clear H
    have p417 : 0 ≤ (x25_1 : Int) := of_decide_eq_true dq13
    have q417 : x25_1 < (l0.length : Int) := of_decide_eq_true dq13
    obtain ⟨ad417, A417_3, c417_3, e417, hx417_0, hx417_1, hx417_2, hx417_3, hl417_3, hi417_3⟩ := at_T65 HR0.out x25_1 p417 q417
    cases e417
    replace hx417_0 := (HB.out.cell (World.block_lt_of_cell? w _ hx417_0)).trans hx417_0
    replace hx417_1 := (HB.out.cell (World.block_lt_of_cell? w _ hx417_1)).trans hx417_1
    replace hx417_2 := (HB.out.cell (World.block_lt_of_cell? w _ hx417_2)).trans hx417_2
    replace hx417_3 := (HB.out.cell (World.block_lt_of_cell? w _ hx417_3)).trans hx417_3
    have HR417_3 := Aside0.mk hi417_3
    have HC417_3 := Aside0.mk hl417_3
    clear hi417_3 hl417_3
    replace p417 := eq_true p417
    replace q417 := eq_true q417
    go_wp2_with (first | ((with_reducible refine gate_dst (N := 11) rfl ?_); refine box_event ?hg (N := 11) ?hd (cs := #[.int .i64 0, .string (⟨#[]⟩ : ByteArray), .string (⟨#[]⟩ : ByteArray), .slice none 0 0]) (t := 65) ?hr ?_; (case hd => rfl); (case hg => rfl); (case hr => exact dq0); intro gb418 hg w15 hbox hb; have n0_ := Aside0.mk (Kd.R_below dq92 hb); have n1_ := Aside0.mk (below_step dq9 hb); have n2_ := Aside0.mk (hbox); have n3_ := Aside0.mk ((dq8 : w.heap.size ≤ gb418)); have n4_ := Aside0.mk ((dq8 : w.heap.size ≤ gb418)); clear HO_9; clear HB; have HO_9 := n0_; have HB := n1_; have BK418 := n2_; have GW418 := n3_; have GE418 := n4_; clear n0_ n1_ n2_ n3_ n4_; clear hb hbox hg; obtain ⟨⟨hcz16_0, hcz16_1, hcz16_2, hcz16_3⟩, hfz16_0, hfz16_1, hfz16_2, hfz16_3⟩ := blkC4 BK418.out) | ((with_reducible refine gate_store (t := 65) (p := 11) rfl ?_); refine store_event (t := 65) (p := 11) (v := ?vo_w17) (w1 := ((((w15.setCell ⟨gb418, 0, none⟩ (.int .i64 ((rd_T65 l0 x25_1).f0))).setCell ⟨gb418, 1, none⟩ (.string ((rd_T65 l0 x25_1).f1))).setCell ⟨gb418, 2, none⟩ (.string ((rd_T65 l0 x25_1).f2))).setCell ⟨gb418, 3, none⟩ (.slice A417_3 ((rd_T65 l0 x25_1).f3).length c417_3))) ?hg ?ho ?hn ?hr ?_; (case ho => rfl); (case hg => rfl); (case hn => rfl); (case hr => exact dq0); intro w17 hw; have n0_ : Aside0 (Kd.R Kd.bool 4 w17 w.heap.size (fun _ => True) v415 x9_1) := ⟨dq91⟩; have n1_ : Aside0 (w17.heap[gb418]? = some (.cells #[.int .i64 ((rd_T65 l0 x25_1).f0), .string ((rd_T65 l0 x25_1).f1), .string ((rd_T65 l0 x25_1).f2), .slice A417_3 ((rd_T65 l0 x25_1).f3).length c417_3] 65 (0, 0))) := ⟨dq90⟩; have n2_ : Aside0 (Below w.heap.size w w17) := ⟨dq89⟩; clear hw; clear HO_9; clear BK418; clear HB; have HO_9 := n0_; have BK418 := n1_; have HB := n2_; clear n0_ n1_ n2_; have p14 : 0 ≤ (x25_1 : Int) := of_decide_eq_true dq13; have q14 : (x25_1 : Int) < ((x9_1.length : Int) : Int) := of_decide_eq_true dq13; obtain ⟨go14, co14, eo14, gb14, gl14, cl14, HG14⟩ := Kd.R_form HO_9.out dq20; (first | cases eo14 | (injection eo14 with ea_ en_ ec_; (first | subst ea_ | (injection ea_ with ea_; subst ea_)); subst ec_; clear en_)); have GB14 := Aside0.mk gb14; have GG14 := Aside0.mk HG14; clear gb14 gl14 HG14; obtain ⟨hx14_0, hf14_0⟩ := Kd.R_celln false HO_9.out (x25_1 : Int) p14 q14; replace p14 := eq_true p14; replace q14 := eq_true q14; obtain ⟨hy18_, hz18_⟩ := Kd.R_celln false HO_9.out (x25_1 : Int) (of_decide_eq_true dq13) (of_decide_eq_true dq13); have HP18 := Kd.R_putg HO_9.out (x25_1 : Int) true) | ((with_reducible refine gate_store (t := 4) (p := 49) rfl ?_); refine store_event (t := 4) (p := 49) (v := ?vo_w19) (w1 := (w17.setCell ⟨go14, (x25_1 : Int).toNat, none⟩ (.bool true))) ?hg ?ho ?hn ?hr ?_; (case ho => rfl); (case hg => rfl); (case hn => rfl); (case hr => exact dq0); intro w19 hw; have hg : w17.grownBy w19 (some go14) := (by rw [hw]; exact HP18.2); have hp_ : Kd.R Kd.bool 4 w19 w.heap.size (fun _ => True) (.slice (some ⟨go14, 0, none⟩) x9_1.length co14) y419 := (by rw [hw, Ny419.out]; exact HP18.1); clear HP18; have n0_ := Aside0.mk (hp_); have n1_ := Aside0.mk (blk_grown (g := gb418) (o := .cells #[.int .i64 ((rd_T65 l0 x25_1).f0), .string ((rd_T65 l0 x25_1).f1), .string ((rd_T65 l0 x25_1).f2), .slice A417_3 ((rd_T65 l0 x25_1).f3).length c417_3] 65 (0, 0)) (by refine blk_up ?_; exact BK418.out) hg (Kd.R_ne HO_9.out BK418.out dq24)); have n2_ := Aside0.mk ((by rw [hw]; exact below_set (HB.out) GB14.out : Below w.heap.size w w19)); clear HO_9; clear BK418; clear HB; have HO_9 := n0_; have BK418 := n1_; have HB := n2_; clear n0_ n1_ n2_; clear hg hw hp_))
    go_roundg k1
    case measure => have := HK1.out; omega
    case rel => exact ⟨(y419), (wrap64 (x25_1 + 1)), dq12, H', ⟨dq16⟩, ⟨dq92⟩, ⟨dq93⟩⟩
   rw [if_neg c12] at H
   have c12b0 := beq_eq_false_iff_ne.mpr c12
   have c12b1 := bne_iff_ne.mpr c12
   by_cases c20 : a3 = true
   rotate_left
   ·replace c20 := Bool.eq_false_iff.mpr c20
    subst c20
    have H1 : (if x25_1 < (x9_1.length : Int) then (impl_led.l0 k1 l0 a1 l2 false (x9_1.set (x25_1 : Int).toNat false) l0 (l0.length : Int) (wrap64 (x25_1 + 1))) else (none)) = some r := by rw [if_neg (show ¬ (false = true) by decide)] at H; exact H
    clear H
    have H := H1
    clear H1
    by_cases c39 : x25_1 < (x9_1.length : Int)
    rotate_left
    ·rw [if_neg c39] at H
     exact absurd H dq17
    rw [if_pos c39] at H
    have c39b0 := decide_eq_true c39
    clear c39
    obtain ⟨y423, hy423⟩ : ∃ y_ : List Bool, y_ = (x9_1.set (x25_1 : Int).toNat false) := ⟨_, rfl⟩
    replace H : (impl_led.l0 k1 l0 a1 l2 false y423 l0 (l0.length : Int) (wrap64 (x25_1 + 1))) = some r := by first | (rw [hy423]; with_reducible exact H) | (have H2_ := (Option.bind_some _ _).symm.trans H; rw [hy423]; with_reducible exact H2_) | (have H2_ := (Option.bind_some _ _).symm.trans H; with_reducible exact H2_) | with_reducible exact H | (rw [hy423]; exact H) | exact H
    have Ny423 := Aside0.mk hy423
    clear hy423
    have H' := Aside0.mk H
    clear H
    have p417 : 0 ≤ (x25_1 : Int) := of_decide_eq_true dq13
    have q417 : x25_1 < (l0.length : Int) := of_decide_eq_true dq13
    obtain ⟨ad417, A417_3, c417_3, e417, hx417_0, hx417_1, hx417_2, hx417_3, hl417_3, hi417_3⟩ := at_T65 HR0.out x25_1 p417 q417
    cases e417
    replace hx417_0 := (HB.out.cell (World.block_lt_of_cell? w _ hx417_0)).trans hx417_0
    replace hx417_1 := (HB.out.cell (World.block_lt_of_cell? w _ hx417_1)).trans hx417_1
    replace hx417_2 := (HB.out.cell (World.block_lt_of_cell? w _ hx417_2)).trans hx417_2
    replace hx417_3 := (HB.out.cell (World.block_lt_of_cell? w _ hx417_3)).trans hx417_3
    have HR417_3 := Aside0.mk hi417_3
    have HC417_3 := Aside0.mk hl417_3
    clear hi417_3 hl417_3
    replace p417 := eq_true p417
    replace q417 := eq_true q417
    go_wp2_with (first | ((with_reducible refine gate_dst (N := 11) rfl ?_); refine box_event ?hg (N := 11) ?hd (cs := #[.int .i64 0, .string (⟨#[]⟩ : ByteArray), .string (⟨#[]⟩ : ByteArray), .slice none 0 0]) (t := 65) ?hr ?_; (case hd => rfl); (case hg => rfl); (case hr => exact dq0); intro gb418 hg w41 hbox hb; have n0_ := Aside0.mk (Kd.R_below dq92 hb); have n1_ := Aside0.mk (below_step dq9 hb); have n2_ := Aside0.mk (hbox); have n3_ := Aside0.mk ((dq8 : w.heap.size ≤ gb418)); have n4_ := Aside0.mk ((dq8 : w.heap.size ≤ gb418)); clear HO_9; clear HB; have HO_9 := n0_; have HB := n1_; have BK418 := n2_; have GW418 := n3_; have GE418 := n4_; clear n0_ n1_ n2_ n3_ n4_; clear hb hbox hg; obtain ⟨⟨hcz42_0, hcz42_1, hcz42_2, hcz42_3⟩, hfz42_0, hfz42_1, hfz42_2, hfz42_3⟩ := blkC4 BK418.out) | ((with_reducible refine gate_store (t := 65) (p := 11) rfl ?_); refine store_event (t := 65) (p := 11) (v := ?vo_w43) (w1 := ((((w41.setCell ⟨gb418, 0, none⟩ (.int .i64 ((rd_T65 l0 x25_1).f0))).setCell ⟨gb418, 1, none⟩ (.string ((rd_T65 l0 x25_1).f1))).setCell ⟨gb418, 2, none⟩ (.string ((rd_T65 l0 x25_1).f2))).setCell ⟨gb418, 3, none⟩ (.slice A417_3 ((rd_T65 l0 x25_1).f3).length c417_3))) ?hg ?ho ?hn ?hr ?_; (case ho => rfl); (case hg => rfl); (case hn => rfl); (case hr => exact dq0); intro w43 hw; have n0_ : Aside0 (Kd.R Kd.bool 4 w43 w.heap.size (fun _ => True) v415 x9_1) := ⟨dq91⟩; have n1_ : Aside0 (w43.heap[gb418]? = some (.cells #[.int .i64 ((rd_T65 l0 x25_1).f0), .string ((rd_T65 l0 x25_1).f1), .string ((rd_T65 l0 x25_1).f2), .slice A417_3 ((rd_T65 l0 x25_1).f3).length c417_3] 65 (0, 0))) := ⟨dq90⟩; have n2_ : Aside0 (Below w.heap.size w w43) := ⟨dq89⟩; clear hw; clear HO_9; clear BK418; clear HB; have HO_9 := n0_; have BK418 := n1_; have HB := n2_; clear n0_ n1_ n2_; have p40 : 0 ≤ (x25_1 : Int) := of_decide_eq_true dq13; have q40 : (x25_1 : Int) < ((x9_1.length : Int) : Int) := of_decide_eq_true dq13; obtain ⟨go40, co40, eo40, gb40, gl40, cl40, HG40⟩ := Kd.R_form HO_9.out dq20; (first | cases eo40 | (injection eo40 with ea_ en_ ec_; (first | subst ea_ | (injection ea_ with ea_; subst ea_)); subst ec_; clear en_)); have GB40 := Aside0.mk gb40; have GG40 := Aside0.mk HG40; clear gb40 gl40 HG40; obtain ⟨hx40_0, hf40_0⟩ := Kd.R_celln false HO_9.out (x25_1 : Int) p40 q40; replace p40 := eq_true p40; replace q40 := eq_true q40; obtain ⟨hy44_, hz44_⟩ := Kd.R_celln false HO_9.out (x25_1 : Int) (of_decide_eq_true dq13) (of_decide_eq_true dq13); have HP44 := Kd.R_putg HO_9.out (x25_1 : Int) false) | ((with_reducible refine gate_store (t := 4) (p := 49) rfl ?_); refine store_event (t := 4) (p := 49) (v := ?vo_w45) (w1 := (w43.setCell ⟨go40, (x25_1 : Int).toNat, none⟩ (.bool false))) ?hg ?ho ?hn ?hr ?_; (case ho => rfl); (case hg => rfl); (case hn => rfl); (case hr => exact dq0); intro w45 hw; have hg : w43.grownBy w45 (some go40) := (by rw [hw]; exact HP44.2); have hp_ : Kd.R Kd.bool 4 w45 w.heap.size (fun _ => True) (.slice (some ⟨go40, 0, none⟩) x9_1.length co40) y423 := (by rw [hw, Ny423.out]; exact HP44.1); clear HP44; have n0_ := Aside0.mk (hp_); have n1_ := Aside0.mk (blk_grown (g := gb418) (o := .cells #[.int .i64 ((rd_T65 l0 x25_1).f0), .string ((rd_T65 l0 x25_1).f1), .string ((rd_T65 l0 x25_1).f2), .slice A417_3 ((rd_T65 l0 x25_1).f3).length c417_3] 65 (0, 0)) (by refine blk_up ?_; exact BK418.out) hg (Kd.R_ne HO_9.out BK418.out dq24)); have n2_ := Aside0.mk ((by rw [hw]; exact below_set (HB.out) GB40.out : Below w.heap.size w w45)); clear HO_9; clear BK418; clear HB; have HO_9 := n0_; have BK418 := n1_; have HB := n2_; clear n0_ n1_ n2_; clear hg hw hp_))
    go_roundg k1
    case measure => have := HK1.out; omega
    case rel => exact ⟨(y423), (wrap64 (x25_1 + 1)), dq12, H', ⟨dq16⟩, ⟨dq92⟩, ⟨dq93⟩⟩
   subst c20
   have H1 : (if ((rd_T65 l0 x25_1).f1).toList = ([] : List UInt8) then (if x25_1 < (x9_1.length : Int) then (impl_led.l0 k1 l0 a1 l2 true (x9_1.set (x25_1 : Int).toNat false) l0 (l0.length : Int) (wrap64 (x25_1 + 1))) else (none)) else ((impl_within.f k1 l0 x25_1 a1).bind fun t421 => (if x25_1 < (x9_1.length : Int) then (impl_led.l0 k1 l0 a1 l2 true (x9_1.set (x25_1 : Int).toNat t421) l0 (l0.length : Int) (wrap64 (x25_1 + 1))) else (none)))) = some r := by rw [if_pos rfl] at H; exact H
   clear H
   have H := H1
   clear H1
   by_cases c21 : ((rd_T65 l0 x25_1).f1).toList = ([] : List UInt8)
   ·rw [if_pos c21] at H
    have c21b0 := beq_iff_eq.mpr c21
    have c21b1 := bne_eq_false_iff_eq.mpr c21
    clear c21
    by_cases c22 : x25_1 < (x9_1.length : Int)
    rotate_left
    ·rw [if_neg c22] at H
     exact absurd H dq17
    rw [if_pos c22] at H
    have c22b0 := decide_eq_true c22
    clear c22
    obtain ⟨y420, hy420⟩ : ∃ y_ : List Bool, y_ = (x9_1.set (x25_1 : Int).toNat false) := ⟨_, rfl⟩
    replace H : (impl_led.l0 k1 l0 a1 l2 true y420 l0 (l0.length : Int) (wrap64 (x25_1 + 1))) = some r := by first | (rw [hy420]; with_reducible exact H) | (have H2_ := (Option.bind_some _ _).symm.trans H; rw [hy420]; with_reducible exact H2_) | (have H2_ := (Option.bind_some _ _).symm.trans H; with_reducible exact H2_) | with_reducible exact H | (rw [hy420]; exact H) | exact H
    have Ny420 := Aside0.mk hy420
    clear hy420
    have H' := Aside0.mk H
    clear H
    have p417 : 0 ≤ (x25_1 : Int) := of_decide_eq_true dq13
    have q417 : x25_1 < (l0.length : Int) := of_decide_eq_true dq13
    obtain ⟨ad417, A417_3, c417_3, e417, hx417_0, hx417_1, hx417_2, hx417_3, hl417_3, hi417_3⟩ := at_T65 HR0.out x25_1 p417 q417
    cases e417
    replace hx417_0 := (HB.out.cell (World.block_lt_of_cell? w _ hx417_0)).trans hx417_0
    replace hx417_1 := (HB.out.cell (World.block_lt_of_cell? w _ hx417_1)).trans hx417_1
    replace hx417_2 := (HB.out.cell (World.block_lt_of_cell? w _ hx417_2)).trans hx417_2
    replace hx417_3 := (HB.out.cell (World.block_lt_of_cell? w _ hx417_3)).trans hx417_3
    have HR417_3 := Aside0.mk hi417_3
    have HC417_3 := Aside0.mk hl417_3
    clear hi417_3 hl417_3
    replace p417 := eq_true p417
    replace q417 := eq_true q417
    go_wp2_with (first | ((with_reducible refine gate_dst (N := 11) rfl ?_); refine box_event ?hg (N := 11) ?hd (cs := #[.int .i64 0, .string (⟨#[]⟩ : ByteArray), .string (⟨#[]⟩ : ByteArray), .slice none 0 0]) (t := 65) ?hr ?_; (case hd => rfl); (case hg => rfl); (case hr => exact dq0); intro gb418 hg w24 hbox hb; have n0_ := Aside0.mk (Kd.R_below dq92 hb); have n1_ := Aside0.mk (below_step dq9 hb); have n2_ := Aside0.mk (hbox); have n3_ := Aside0.mk ((dq8 : w.heap.size ≤ gb418)); have n4_ := Aside0.mk ((dq8 : w.heap.size ≤ gb418)); clear HO_9; clear HB; have HO_9 := n0_; have HB := n1_; have BK418 := n2_; have GW418 := n3_; have GE418 := n4_; clear n0_ n1_ n2_ n3_ n4_; clear hb hbox hg; obtain ⟨⟨hcz25_0, hcz25_1, hcz25_2, hcz25_3⟩, hfz25_0, hfz25_1, hfz25_2, hfz25_3⟩ := blkC4 BK418.out) | ((with_reducible refine gate_store (t := 65) (p := 11) rfl ?_); refine store_event (t := 65) (p := 11) (v := ?vo_w26) (w1 := ((((w24.setCell ⟨gb418, 0, none⟩ (.int .i64 ((rd_T65 l0 x25_1).f0))).setCell ⟨gb418, 1, none⟩ (.string ((rd_T65 l0 x25_1).f1))).setCell ⟨gb418, 2, none⟩ (.string ((rd_T65 l0 x25_1).f2))).setCell ⟨gb418, 3, none⟩ (.slice A417_3 ((rd_T65 l0 x25_1).f3).length c417_3))) ?hg ?ho ?hn ?hr ?_; (case ho => rfl); (case hg => rfl); (case hn => rfl); (case hr => exact dq0); intro w26 hw; have n0_ : Aside0 (Kd.R Kd.bool 4 w26 w.heap.size (fun _ => True) v415 x9_1) := ⟨dq91⟩; have n1_ : Aside0 (w26.heap[gb418]? = some (.cells #[.int .i64 ((rd_T65 l0 x25_1).f0), .string ((rd_T65 l0 x25_1).f1), .string ((rd_T65 l0 x25_1).f2), .slice A417_3 ((rd_T65 l0 x25_1).f3).length c417_3] 65 (0, 0))) := ⟨dq90⟩; have n2_ : Aside0 (Below w.heap.size w w26) := ⟨dq89⟩; clear hw; clear HO_9; clear BK418; clear HB; have HO_9 := n0_; have BK418 := n1_; have HB := n2_; clear n0_ n1_ n2_; obtain ⟨⟨hcz27_0, hcz27_1, hcz27_2, hcz27_3⟩, hfz27_0, hfz27_1, hfz27_2, hfz27_3⟩ := blkC4 BK418.out; have p23 : 0 ≤ (x25_1 : Int) := of_decide_eq_true dq13; have q23 : (x25_1 : Int) < ((x9_1.length : Int) : Int) := of_decide_eq_true dq13; obtain ⟨go23, co23, eo23, gb23, gl23, cl23, HG23⟩ := Kd.R_form HO_9.out dq20; (first | cases eo23 | (injection eo23 with ea_ en_ ec_; (first | subst ea_ | (injection ea_ with ea_; subst ea_)); subst ec_; clear en_)); have GB23 := Aside0.mk gb23; have GG23 := Aside0.mk HG23; clear gb23 gl23 HG23; obtain ⟨hx23_0, hf23_0⟩ := Kd.R_celln false HO_9.out (x25_1 : Int) p23 q23; replace p23 := eq_true p23; replace q23 := eq_true q23; obtain ⟨hy28_, hz28_⟩ := Kd.R_celln false HO_9.out (x25_1 : Int) (of_decide_eq_true dq13) (of_decide_eq_true dq13); have HP28 := Kd.R_putg HO_9.out (x25_1 : Int) false) | ((with_reducible refine gate_store (t := 4) (p := 49) rfl ?_); refine store_event (t := 4) (p := 49) (v := ?vo_w29) (w1 := (w26.setCell ⟨go23, (x25_1 : Int).toNat, none⟩ (.bool false))) ?hg ?ho ?hn ?hr ?_; (case ho => rfl); (case hg => rfl); (case hn => rfl); (case hr => exact dq0); intro w29 hw; have hg : w26.grownBy w29 (some go23) := (by rw [hw]; exact HP28.2); have hp_ : Kd.R Kd.bool 4 w29 w.heap.size (fun _ => True) (.slice (some ⟨go23, 0, none⟩) x9_1.length co23) y420 := (by rw [hw, Ny420.out]; exact HP28.1); clear HP28; have n0_ := Aside0.mk (hp_); have n1_ := Aside0.mk (blk_grown (g := gb418) (o := .cells #[.int .i64 ((rd_T65 l0 x25_1).f0), .string ((rd_T65 l0 x25_1).f1), .string ((rd_T65 l0 x25_1).f2), .slice A417_3 ((rd_T65 l0 x25_1).f3).length c417_3] 65 (0, 0)) (by refine blk_up ?_; exact BK418.out) hg (Kd.R_ne HO_9.out BK418.out dq24)); have n2_ := Aside0.mk ((by rw [hw]; exact below_set (HB.out) GB23.out : Below w.heap.size w w29)); clear HO_9; clear BK418; clear HB; have HO_9 := n0_; have BK418 := n1_; have HB := n2_; clear n0_ n1_ n2_; clear hg hw hp_))
    go_roundg k1
    case measure => have := HK1.out; omega
    case rel => exact ⟨(y420), (wrap64 (x25_1 + 1)), dq12, H', ⟨dq16⟩, ⟨dq92⟩, ⟨dq93⟩⟩
   rw [if_neg c21] at H
   have c21b0 := beq_eq_false_iff_ne.mpr c21
   have c21b1 := bne_iff_ne.mpr c21
   replace H := Option.bind_eq_some_iff.mp H
   obtain ⟨t421, A300, H⟩ := H
   replace H : (if x25_1 < (x9_1.length : Int) then (impl_led.l0 k1 l0 a1 l2 true (x9_1.set (x25_1 : Int).toNat t421) l0 (l0.length : Int) (wrap64 (x25_1 + 1))) else (none)) = some r := H
   have A30 := Aside0.mk A300
   clear A300
   by_cases c31 : x25_1 < (x9_1.length : Int)
   rotate_left
   ·rw [if_neg c31] at H
    exact absurd H dq17
   rw [if_pos c31] at H
   have c31b0 := decide_eq_true c31
   clear c31
   obtain ⟨y422, hy422⟩ : ∃ y_ : List Bool, y_ = (x9_1.set (x25_1 : Int).toNat t421) := ⟨_, rfl⟩
   replace H : (impl_led.l0 k1 l0 a1 l2 true y422 l0 (l0.length : Int) (wrap64 (x25_1 + 1))) = some r := by first | (rw [hy422]; with_reducible exact H) | (have H2_ := (Option.bind_some _ _).symm.trans H; rw [hy422]; with_reducible exact H2_) | (have H2_ := (Option.bind_some _ _).symm.trans H; with_reducible exact H2_) | with_reducible exact H | (rw [hy422]; exact H) | exact H
   have Ny422 := Aside0.mk hy422
   clear hy422
   have H' := Aside0.mk H
   clear H
   have p417 : 0 ≤ (x25_1 : Int) := of_decide_eq_true dq13
   have q417 : x25_1 < (l0.length : Int) := of_decide_eq_true dq13
   obtain ⟨ad417, A417_3, c417_3, e417, hx417_0, hx417_1, hx417_2, hx417_3, hl417_3, hi417_3⟩ := at_T65 HR0.out x25_1 p417 q417
   cases e417
   replace hx417_0 := (HB.out.cell (World.block_lt_of_cell? w _ hx417_0)).trans hx417_0
   replace hx417_1 := (HB.out.cell (World.block_lt_of_cell? w _ hx417_1)).trans hx417_1
   replace hx417_2 := (HB.out.cell (World.block_lt_of_cell? w _ hx417_2)).trans hx417_2
   replace hx417_3 := (HB.out.cell (World.block_lt_of_cell? w _ hx417_3)).trans hx417_3
   have HR417_3 := Aside0.mk hi417_3
   have HC417_3 := Aside0.mk hl417_3
   clear hi417_3 hl417_3
   replace p417 := eq_true p417
   replace q417 := eq_true q417
   go_wp2_with (first | ((with_reducible refine gate_dst (N := 11) rfl ?_); refine box_event ?hg (N := 11) ?hd (cs := #[.int .i64 0, .string (⟨#[]⟩ : ByteArray), .string (⟨#[]⟩ : ByteArray), .slice none 0 0]) (t := 65) ?hr ?_; (case hd => rfl); (case hg => rfl); (case hr => exact dq0); intro gb418 hg w33 hbox hb; have n0_ := Aside0.mk (Kd.R_below dq92 hb); have n1_ := Aside0.mk (below_step dq9 hb); have n2_ := Aside0.mk (hbox); have n3_ := Aside0.mk ((dq8 : w.heap.size ≤ gb418)); have n4_ := Aside0.mk ((dq8 : w.heap.size ≤ gb418)); clear HO_9; clear HB; have HO_9 := n0_; have HB := n1_; have BK418 := n2_; have GW418 := n3_; have GE418 := n4_; clear n0_ n1_ n2_ n3_ n4_; clear hb hbox hg; obtain ⟨⟨hcz34_0, hcz34_1, hcz34_2, hcz34_3⟩, hfz34_0, hfz34_1, hfz34_2, hfz34_3⟩ := blkC4 BK418.out) | ((with_reducible refine gate_store (t := 65) (p := 11) rfl ?_); refine store_event (t := 65) (p := 11) (v := ?vo_w35) (w1 := ((((w33.setCell ⟨gb418, 0, none⟩ (.int .i64 ((rd_T65 l0 x25_1).f0))).setCell ⟨gb418, 1, none⟩ (.string ((rd_T65 l0 x25_1).f1))).setCell ⟨gb418, 2, none⟩ (.string ((rd_T65 l0 x25_1).f2))).setCell ⟨gb418, 3, none⟩ (.slice A417_3 ((rd_T65 l0 x25_1).f3).length c417_3))) ?hg ?ho ?hn ?hr ?_; (case ho => rfl); (case hg => rfl); (case hn => rfl); (case hr => exact dq0); intro w35 hw; have n0_ : Aside0 (Kd.R Kd.bool 4 w35 w.heap.size (fun _ => True) v415 x9_1) := ⟨dq91⟩; have n1_ : Aside0 (w35.heap[gb418]? = some (.cells #[.int .i64 ((rd_T65 l0 x25_1).f0), .string ((rd_T65 l0 x25_1).f1), .string ((rd_T65 l0 x25_1).f2), .slice A417_3 ((rd_T65 l0 x25_1).f3).length c417_3] 65 (0, 0))) := ⟨dq90⟩; have n2_ : Aside0 (Below w.heap.size w w35) := ⟨dq89⟩; clear hw; clear HO_9; clear BK418; clear HB; have HO_9 := n0_; have BK418 := n1_; have HB := n2_; clear n0_ n1_ n2_; obtain ⟨⟨hcz36_0, hcz36_1, hcz36_2, hcz36_3⟩, hfz36_0, hfz36_1, hfz36_2, hfz36_3⟩ := blkC4 BK418.out) | (go_at_call 124; (with_reducible refine (impl_within.calls k1 _ _ l0 x25_1 a1 t421 _ ?side1 ?side2 A30.out).mono ?_); (case side1 => exact dq2); (case side2 => exact HC0.out); rintro e w' ⟨rfl, ⟨nd, rfl⟩⟩; (try (rw [drewN_self w35]; generalize hq_ : World.drewN w35 _ = w35; have n0_ : Aside0 (Kd.R Kd.bool 4 w35 w.heap.size (fun _ => True) v415 x9_1) := ⟨by rw [← hq_]; exact dq92⟩; have n1_ : Aside0 (w35.heap[gb418]? = some (.cells #[.int .i64 ((rd_T65 l0 x25_1).f0), .string ((rd_T65 l0 x25_1).f1), .string ((rd_T65 l0 x25_1).f2), .slice A417_3 ((rd_T65 l0 x25_1).f3).length c417_3] 65 (0, 0))) := ⟨by rw [← hq_]; exact (by refine blk_up ?_; exact BK418.out)⟩; have n2_ : Aside0 (Below w.heap.size w w35) := ⟨by rw [← hq_]; exact dq93⟩; clear HO_9 BK418 HB hq_; have HO_9 := n0_; have BK418 := n1_; have HB := n2_; clear n0_ n1_ n2_)); have p32 : 0 ≤ (x25_1 : Int) := of_decide_eq_true dq13; have q32 : (x25_1 : Int) < ((x9_1.length : Int) : Int) := of_decide_eq_true dq13; obtain ⟨go32, co32, eo32, gb32, gl32, cl32, HG32⟩ := Kd.R_form HO_9.out dq20; (first | cases eo32 | (injection eo32 with ea_ en_ ec_; (first | subst ea_ | (injection ea_ with ea_; subst ea_)); subst ec_; clear en_)); have GB32 := Aside0.mk gb32; have GG32 := Aside0.mk HG32; clear gb32 gl32 HG32; obtain ⟨hx32_0, hf32_0⟩ := Kd.R_celln false HO_9.out (x25_1 : Int) p32 q32; replace p32 := eq_true p32; replace q32 := eq_true q32; obtain ⟨hy37_, hz37_⟩ := Kd.R_celln false HO_9.out (x25_1 : Int) (of_decide_eq_true dq13) (of_decide_eq_true dq13); have HP37 := Kd.R_putg HO_9.out (x25_1 : Int) t421) | ((with_reducible refine gate_store (t := 4) (p := 49) rfl ?_); refine store_event (t := 4) (p := 49) (v := ?vo_w38) (w1 := (w35.setCell ⟨go32, (x25_1 : Int).toNat, none⟩ (.bool t421))) ?hg ?ho ?hn ?hr ?_; (case ho => rfl); (case hg => rfl); (case hn => rfl); (case hr => exact dq0); intro w38 hw; have hg : w35.grownBy w38 (some go32) := (by rw [hw]; exact HP37.2); have hp_ : Kd.R Kd.bool 4 w38 w.heap.size (fun _ => True) (.slice (some ⟨go32, 0, none⟩) x9_1.length co32) y422 := (by rw [hw, Ny422.out]; exact HP37.1); clear HP37; have n0_ := Aside0.mk (hp_); have n1_ := Aside0.mk (blk_grown (g := gb418) (o := .cells #[.int .i64 ((rd_T65 l0 x25_1).f0), .string ((rd_T65 l0 x25_1).f1), .string ((rd_T65 l0 x25_1).f2), .slice A417_3 ((rd_T65 l0 x25_1).f3).length c417_3] 65 (0, 0)) (by refine blk_up ?_; exact BK418.out) hg (Kd.R_ne HO_9.out BK418.out dq24)); have n2_ := Aside0.mk ((by rw [hw]; exact below_set (HB.out) GB32.out : Below w.heap.size w w38)); clear HO_9; clear BK418; clear HB; have HO_9 := n0_; have BK418 := n1_; have HB := n2_; clear n0_ n1_ n2_; clear hg hw hp_))
   go_roundg k1
   case measure => have := HK1.out; omega
   case rel => exact ⟨(y422), (wrap64 (x25_1 + 1)), dq12, H', ⟨dq16⟩, ⟨dq92⟩, ⟨dq93⟩⟩
  rw [if_neg c9] at H
  have c9b0 := decide_eq_false c9
  clear c9
  have H' := Aside0.mk H
  clear H
  go_wp2
  go_loopg [9, 53] k1 (fun kq v9 v53 w' => ∃ (x9_2 : List Bool) (x53_2 : Int), v53 = .int .i64 x53_2 ∧ Aside0 (impl_led.l1 kq l0 x9_2 l2 (l2.length : Int) x53_2 = some r) ∧ Aside0 (kq ≤ k1) ∧ Aside0 (Kd.R Kd.bool 4 w' w.heap.size (fun _ => True) v9 x9_2) ∧ Aside0 (Below w.heap.size w w'))
  case atStart => exact ⟨(x9_1), (0), dq12, H', ⟨Nat.le_refl _⟩, ⟨dq92⟩, ⟨dq9⟩⟩
  clear H'
  try clear c9b0
  obtain ⟨x9_2, x53_2, rfl, HA, HK2, HO_9, HB⟩ := hrel
  cases gk with
  | zero => exact absurd HA.out (by simp [impl_led.l1])
  | succ k2 =>
   have H := HA.out
   clear HA
   simp only [impl_led.l1] at H
   by_cases c46 : x53_2 < (l2.length : Int)
   rotate_left
   ·rw [if_neg c46] at H
    have c46b0 := decide_eq_false c46
    clear c46
    obtain ⟨y434, hy434⟩ : ∃ y_ : List Int, y_ = (([] : List Int)) := ⟨_, rfl⟩
    replace H : (impl_led.l3 k2 y434 x9_2 (x9_2.length : Int) 0) = some r := by first | (rw [hy434]; with_reducible exact H) | (have H2_ := (Option.bind_some _ _).symm.trans H; rw [hy434]; with_reducible exact H2_) | (have H2_ := (Option.bind_some _ _).symm.trans H; with_reducible exact H2_) | with_reducible exact H | (rw [hy434]; exact H) | exact H
    have Ny434 := Aside0.mk hy434
    clear hy434
    have H' := Aside0.mk H
    clear H
    go_wp2_with (first | ((with_reducible refine gate_dst (N := 89) rfl ?_); refine Kd.R_lit (Kd.int .i64) _ 2 ?hg (N := 89) ?hd (xs := ([] : List Int)) (inner := []) (ok := fun _ => True) (okp := fun _ => True) ?hr ?hp (fun _ hk => hk) trivial (Below.refl _ _) (Nat.le_refl _) dq17 ?_; (case hd => rfl); (case hg => rfl); (case hr => exact dq0); (case hp => exact (Reps.none _ _)); intro v435 w87 ho88 hb hg_ hnew_; clear hg_ hnew_; (first | rw [← Ny434.out] at ho88 | (simp only [Int.reduceToNat] at ho88; rw [← Ny434.out] at ho88)); have n0_ := Aside0.mk (Kd.R_below dq92 hb); have n1_ := Aside0.mk (Kd.R_lower ho88 (below_size dq9)); have n2_ := Aside0.mk (below_step dq9 hb); clear HO_9; clear HB; have HO_9 := n0_; have HO436 := n1_; have HB := n2_; clear n0_ n1_ n2_; clear hb ho88; obtain ⟨Ao89, co89, eo89⟩ := Kd.R_slice HO_9.out; subst eo89))
    go_loopg [17, 92] k2 (fun kq v17 v92 w' => ∃ (x17_3 : List Int) (x92_3 : Int), v92 = .int .i64 x92_3 ∧ Aside0 (impl_led.l3 kq x17_3 x9_2 (x9_2.length : Int) x92_3 = some r) ∧ Aside0 (kq ≤ k2) ∧ Aside0 (Kd.R (Kd.int .i64) 2 w' w.heap.size (fun _ => True) v17 x17_3) ∧ Aside0 (Kd.R Kd.bool 4 w' w.heap.size (fun _ => True) (.slice Ao89 x9_2.length co89) x9_2) ∧ Aside0 (Below w.heap.size w w'))
    case atStart => exact ⟨(y434), (0), dq12, H', ⟨Nat.le_refl _⟩, ⟨by (with_reducible repeat (first | apply Kd.R_alloc | apply Kd.R_drewN | apply Kd.R_drew)); exact HO436.out⟩, ⟨dq92⟩, ⟨dq9⟩⟩
    clear H'
    try clear c46b0
    obtain ⟨x17_3, x92_3, rfl, HA, HK3, HO_17, HO_90, HB⟩ := hrel
    cases gk with
    | zero => exact absurd HA.out (by simp [impl_led.l3])
    | succ k3 =>
     have H := HA.out
     clear HA
     simp only [impl_led.l3] at H
     by_cases c90 : x92_3 < (x9_2.length : Int)
     rotate_left
     ·rw [if_neg c90] at H
      have c90b0 := decide_eq_false c90
      clear c90
      obtain rfl := Option.some.inj H
      go_wp2
      go_ret
      exact ⟨_, dq11, dq102, dq9⟩
     rw [if_pos c90] at H
     have c90b0 := decide_eq_true c90
     clear c90
     by_cases c91 : 0 ≤ x92_3
     rotate_left
     ·rw [if_neg c91] at H
      exact absurd H dq17
     rw [if_pos c91] at H
     have c91b0 := decide_eq_true c91
     clear c91
     by_cases c92 : x92_3 < (x9_2.length : Int)
     rotate_left
     ·rw [if_neg c92] at H
      exact absurd H dq17
     rw [if_pos c92] at H
     have c92b0 := decide_eq_true c92
     clear c92
     obtain ⟨bq93, hbq93⟩ : ∃ b_ : Bool, b_ = (rdOf false x9_2 x92_3) := ⟨_, rfl⟩
     replace H : (if bq93 = true then (if x17_3.length < 17592186044416 then (impl_led.l3 k3 (x17_3 ++ [x92_3]) x9_2 (x9_2.length : Int) (wrap64 (x92_3 + 1))) else (none)) else (impl_led.l3 k3 x17_3 x9_2 (x9_2.length : Int) (wrap64 (x92_3 + 1)))) = some r := by rw [← hbq93] at H; exact H
     have Nbq93 := Aside0.mk hbq93
     clear hbq93
     by_cases c94 : bq93 = true
     rotate_left
     ·replace c94 := Bool.eq_false_iff.mpr c94
      subst c94
      have H1 : (impl_led.l3 k3 x17_3 x9_2 (x9_2.length : Int) (wrap64 (x92_3 + 1))) = some r := by rw [if_neg (show ¬ (false = true) by decide)] at H; exact H
      clear H
      have H := H1
      clear H1
      have H' := Aside0.mk H
      clear H
      have p437 : 0 ≤ (x92_3 : Int) := of_decide_eq_true dq13
      have q437 : x92_3 < (x9_2.length : Int) := of_decide_eq_true dq13
      obtain ⟨ad437, e437, hx437_0⟩ := Kd.at_bool (Kd.R_reads' HO_90.out).2.2 x92_3 p437 q437
      (try rw [← Nbq93.out] at hx437_0)
      cases e437
      replace p437 := eq_true p437
      replace q437 := eq_true q437
      go_wp2
      go_roundg k3
      case measure => have := HK1.out; have := HK2.out; have := HK3.out; omega
      case rel => exact ⟨(x17_3), (wrap64 (x92_3 + 1)), dq12, H', ⟨dq101⟩, ⟨dq102⟩, ⟨dq103⟩, ⟨dq9⟩⟩
     subst c94
     have H1 : (if x17_3.length < 17592186044416 then (impl_led.l3 k3 (x17_3 ++ [x92_3]) x9_2 (x9_2.length : Int) (wrap64 (x92_3 + 1))) else (none)) = some r := by rw [if_pos rfl] at H; exact H
     clear H
     have H := H1
     clear H1
     by_cases c95 : x17_3.length < 17592186044416
     rotate_left
     ·rw [if_neg c95] at H
      exact absurd H dq17
     rw [if_pos c95] at H
     have LMc95 := Aside0.mk c95
     clear c95
     obtain ⟨y438, hy438⟩ : ∃ y_ : List Int, y_ = (x17_3 ++ [x92_3]) := ⟨_, rfl⟩
     replace H : (impl_led.l3 k3 y438 x9_2 (x9_2.length : Int) (wrap64 (x92_3 + 1))) = some r := by first | (rw [hy438]; with_reducible exact H) | (have H2_ := (Option.bind_some _ _).symm.trans H; rw [hy438]; with_reducible exact H2_) | (have H2_ := (Option.bind_some _ _).symm.trans H; with_reducible exact H2_) | with_reducible exact H | (rw [hy438]; exact H) | exact H
     have Ny438 := Aside0.mk hy438
     clear hy438
     have H' := Aside0.mk H
     clear H
     have p437 : 0 ≤ (x92_3 : Int) := of_decide_eq_true dq13
     have q437 : x92_3 < (x9_2.length : Int) := of_decide_eq_true dq13
     obtain ⟨ad437, e437, hx437_0⟩ := Kd.at_bool (Kd.R_reads' HO_90.out).2.2 x92_3 p437 q437
     (try rw [← Nbq93.out] at hx437_0)
     cases e437
     replace p437 := eq_true p437
     replace q437 := eq_true q437
     go_wp2_with (first | ((with_reducible refine gate_builtin (b := .append) (xs := #[.tmp 98, .tmp 100]) rfl ?_); at_builtin; refine Kd.R_append (Kd.int .i64) (w0 := w) w.heap.size rfl (.tmp 98) (.tmp 100) 47 2 (.int .i64 0) 8 rfl Tryz.underlying47 info2 rfl dq24 dq20 u17 x17_3 x92_3 [.int .i64 x92_3] (fun _ => True) (fun _ => False) rfl rfl ?aP (fun _ hk => hk.elim) ?aF ?aO ?aB ?aS ?aL ?_; (case aP => exact rfl); (case aB => exact dq9); (case aF => exact (fun _ _ => trivial)); (case aO => exact dq102); (case aS => exact (below_size dq9)); (case aL => have := LMc95.out; omega); intro v439 w96 ho hb hg hat; rw [← Ny438.out] at ho; have n0_ := Aside0.mk (Kd.R_over' dq103 (Kd.R_typed dq102) dq24 hg); have n1_ := Aside0.mk (hb); have n2_ := Aside0.mk (ho); clear HO_90; clear HB; clear HO_17; have HO_90 := n0_; have HB := n1_; have HO440 := n2_; clear n0_ n1_ n2_; clear ho hb hg hat))
     go_roundg k3
     case measure => have := HK1.out; have := HK2.out; have := HK3.out; omega
     case rel => exact ⟨(y438), (wrap64 (x92_3 + 1)), dq12, H', ⟨dq101⟩, ⟨by (with_reducible repeat (first | apply Kd.R_alloc | apply Kd.R_drewN | apply Kd.R_drew)); exact HO440.out⟩, ⟨dq103⟩, ⟨dq9⟩⟩
   rw [if_pos c46] at H
   have c46b0 := decide_eq_true c46
   clear c46
   by_cases c47 : 0 ≤ x53_2
   rotate_left
   ·rw [if_neg c47] at H
    exact absurd H dq17
   rw [if_pos c47] at H
   have c47b0 := decide_eq_true c47
   clear c47
   by_cases c48 : x53_2 < (l2.length : Int)
   rotate_left
   ·rw [if_neg c48] at H
    exact absurd H dq17
   rw [if_pos c48] at H
   have c48b0 := decide_eq_true c48
   clear c48
   by_cases c49 : 0 ≤ (l0.length : Int)
   rotate_left
   ·rw [if_neg c49] at H
    exact absurd H dq17
   rw [if_pos c49] at H
   have c49b0 := eq_true c49
   have c49b1 := decide_eq_true c49
   clear c49
   by_cases c50 : ((l0.length : Int) : Int).toNat ≤ 281474976710656
   rotate_left
   ·rw [if_neg c50] at H
    exact absurd H dq17
   rw [if_pos c50] at H
   have c50b0 := eq_true c50
   have c50b1 := decide_eq_true c50
   clear c50
   obtain ⟨y425, hy425⟩ : ∃ y_ : List Bool, y_ = (List.replicate ((l0.length : Int) : Int).toNat false) := ⟨_, rfl⟩
   replace H : (impl_led.l2 k2 l0 x9_2 (rdOf ByteArray.empty l2 x53_2) y425 l2 (l2.length : Int) x53_2 l0 (l0.length : Int) 0) = some r := by first | (rw [hy425]; with_reducible exact H) | (have H2_ := (Option.bind_some _ _).symm.trans H; rw [hy425]; with_reducible exact H2_) | (have H2_ := (Option.bind_some _ _).symm.trans H; with_reducible exact H2_) | with_reducible exact H | (rw [hy425]; exact H) | exact H
   have Ny425 := Aside0.mk hy425
   clear hy425
   have H' := Aside0.mk H
   clear H
   have p424 : 0 ≤ (x53_2 : Int) := of_decide_eq_true dq13
   have q424 : x53_2 < (l2.length : Int) := of_decide_eq_true dq13
   obtain ⟨ad424, e424, hx424_0⟩ := Kd.at_string HR2.out x53_2 p424 q424
   cases e424
   replace hx424_0 := (HB.out.cell (World.block_lt_of_cell? w _ hx424_0)).trans hx424_0
   replace p424 := eq_true p424
   replace q424 := eq_true q424
   go_wp2_with (first | ((with_reducible refine gate_dst (N := 59) rfl ?_); refine Kd.R_make Kd.bool _ 4 rfl (N := 59) rfl 158 _ _ rfl (l0.length : Int) rfl rfl Tryz.underlying158 (.bool false) 1 info4 rfl dq24 dq20 false (ok := fun _ => True) (okp := fun _ => True) rfl (fun _ hk => hk) trivial (of_decide_eq_true dq13) (Nat.le_trans (Nat.mul_le_mul_right _ (of_decide_eq_true dq13 : (l0.length : Int).toNat ≤ 281474976710656)) dq20) (Below.refl _ _) (Nat.le_refl _) ?_; intro v426 w51 ho52 hb hg_ hnew_; clear hg_ hnew_; (first | rw [← Ny425.out] at ho52 | (simp only [Int.reduceToNat] at ho52; rw [← Ny425.out] at ho52)); have n0_ := Aside0.mk (Kd.R_elder' dq92 (Kd.R_base ho52) hb); have n1_ := Aside0.mk (Kd.R_lower (Kd.R_new' ho52 (Kd.R_lt dq92)) (below_size dq9)); have n2_ := Aside0.mk (below_step dq9 hb); clear HO_9; clear HB; have HO_9 := n0_; have HO427 := n1_; have HB := n2_; clear n0_ n1_ n2_; clear hb ho52))
   go_loopg [62] k2 (fun kq v62 w' => ∃ (x14_3 : List Bool) (x62_3 : Int), v62 = .int .i64 x62_3 ∧ Aside0 (impl_led.l2 kq l0 x9_2 (rdOf ByteArray.empty l2 x53_2) x14_3 l2 (l2.length : Int) x53_2 l0 (l0.length : Int) x62_3 = some r) ∧ Aside0 (kq ≤ k2) ∧ Aside0 (Kd.R Kd.bool 4 w' w.heap.size (fun k_ => some k_ ≠ (v426 : Value).ownBlock) u9 x9_2) ∧ Aside0 (Kd.R Kd.bool 4 w' w.heap.size (fun k_ => some k_ ≠ (u9 : Value).ownBlock) v426 x14_3) ∧ Aside0 (Below w.heap.size w w'))
   case atStart => exact ⟨(y425), (0), dq12, H', ⟨Nat.le_refl _⟩, ⟨dq94⟩, ⟨by (with_reducible repeat (first | apply Kd.R_alloc | apply Kd.R_drewN | apply Kd.R_drew)); exact Kd.R_mono HO427.out (fun _ hk => hk.2)⟩, ⟨dq9⟩⟩
   clear H'
   try clear c46b0
   try clear c47b0
   try clear c48b0
   try clear c49b0
   try clear c49b1
   try clear c50b0
   try clear c50b1
   try clear hx424_0
   try clear p424
   try clear q424
   obtain ⟨x14_3, x62_3, rfl, HA, HK3, HO_9, HO_14, HB⟩ := hrel
   cases gk with
   | zero => exact absurd HA.out (by simp [impl_led.l2])
   | succ k3 =>
    have H := HA.out
    clear HA
    simp only [impl_led.l2] at H
    by_cases c53 : x62_3 < (l0.length : Int)
    rotate_left
    ·rw [if_neg c53] at H
     have c53b0 := decide_eq_false c53
     clear c53
     have H' := Aside0.mk H
     clear H
     go_wp2
     go_roundg k3
     case measure => have := HK1.out; have := HK2.out; have := HK3.out; omega
     case rel => exact ⟨(x14_3), (wrap64 (x53_2 + 1)), dq12, H', ⟨dq101⟩, ⟨by (with_reducible repeat (first | apply Kd.R_alloc | apply Kd.R_drewN | apply Kd.R_drew)); exact Kd.R_mono HO_14.out (fun _ hk => trivial)⟩, ⟨dq9⟩⟩
    rw [if_pos c53] at H
    have c53b0 := decide_eq_true c53
    clear c53
    by_cases c54 : 0 ≤ x62_3
    rotate_left
    ·rw [if_neg c54] at H
     exact absurd H dq17
    rw [if_pos c54] at H
    have c54b0 := decide_eq_true c54
    clear c54
    by_cases c55 : x62_3 < (l0.length : Int)
    rotate_left
    ·rw [if_neg c55] at H
     exact absurd H dq17
    rw [if_pos c55] at H
    have c55b0 := decide_eq_true c55
    clear c55
    by_cases c56 : ((rd_T65 l0 x62_3).f0) ≥ 0
    rotate_left
    ·rw [if_neg c56] at H
     have c56b0 : decide (0 ≤ ((rd_T65 l0 x62_3).f0)) = false := decide_eq_false c56
     clear c56
     by_cases c79 : x62_3 < (x14_3.length : Int)
     rotate_left
     ·rw [if_neg c79] at H
      exact absurd H dq17
     rw [if_pos c79] at H
     have c79b0 := decide_eq_true c79
     clear c79
     obtain ⟨y433, hy433⟩ : ∃ y_ : List Bool, y_ = (x14_3.set (x62_3 : Int).toNat false) := ⟨_, rfl⟩
     replace H : (impl_led.l2 k3 l0 x9_2 (rdOf ByteArray.empty l2 x53_2) y433 l2 (l2.length : Int) x53_2 l0 (l0.length : Int) (wrap64 (x62_3 + 1))) = some r := by first | (rw [hy433]; with_reducible exact H) | (have H2_ := (Option.bind_some _ _).symm.trans H; rw [hy433]; with_reducible exact H2_) | (have H2_ := (Option.bind_some _ _).symm.trans H; with_reducible exact H2_) | with_reducible exact H | (rw [hy433]; exact H) | exact H
     have Ny433 := Aside0.mk hy433
     clear hy433
     have H' := Aside0.mk H
     clear H
     have p428 : 0 ≤ (x62_3 : Int) := of_decide_eq_true dq13
     have q428 : x62_3 < (l0.length : Int) := of_decide_eq_true dq13
     obtain ⟨ad428, A428_3, c428_3, e428, hx428_0, hx428_1, hx428_2, hx428_3, hl428_3, hi428_3⟩ := at_T65 HR0.out x62_3 p428 q428
     cases e428
     replace hx428_0 := (HB.out.cell (World.block_lt_of_cell? w _ hx428_0)).trans hx428_0
     replace hx428_1 := (HB.out.cell (World.block_lt_of_cell? w _ hx428_1)).trans hx428_1
     replace hx428_2 := (HB.out.cell (World.block_lt_of_cell? w _ hx428_2)).trans hx428_2
     replace hx428_3 := (HB.out.cell (World.block_lt_of_cell? w _ hx428_3)).trans hx428_3
     have HR428_3 := Aside0.mk hi428_3
     have HC428_3 := Aside0.mk hl428_3
     clear hi428_3 hl428_3
     replace p428 := eq_true p428
     replace q428 := eq_true q428
     go_wp2_with (first | ((with_reducible refine gate_dst (N := 16) rfl ?_); refine box_event ?hg (N := 16) ?hd (cs := #[.int .i64 0, .string (⟨#[]⟩ : ByteArray), .string (⟨#[]⟩ : ByteArray), .slice none 0 0]) (t := 65) ?hr ?_; (case hd => rfl); (case hg => rfl); (case hr => exact dq0); intro gb429 hg w81 hbox hb; have n0_ := Aside0.mk (Kd.R_below dq92 hb); have n1_ := Aside0.mk (Kd.R_below dq45 hb); have n2_ := Aside0.mk (below_step dq9 hb); have n3_ := Aside0.mk (hbox); have n4_ := Aside0.mk ((dq8 : w.heap.size ≤ gb429)); have n5_ := Aside0.mk ((dq8 : w.heap.size ≤ gb429)); clear HO_9; clear HO_14; clear HB; have HO_9 := n0_; have HO_14 := n1_; have HB := n2_; have BK429 := n3_; have GW429 := n4_; have GE429 := n5_; clear n0_ n1_ n2_ n3_ n4_ n5_; clear hb hbox hg; obtain ⟨⟨hcz82_0, hcz82_1, hcz82_2, hcz82_3⟩, hfz82_0, hfz82_1, hfz82_2, hfz82_3⟩ := blkC4 BK429.out) | ((with_reducible refine gate_store (t := 65) (p := 16) rfl ?_); refine store_event (t := 65) (p := 16) (v := ?vo_w83) (w1 := ((((w81.setCell ⟨gb429, 0, none⟩ (.int .i64 ((rd_T65 l0 x62_3).f0))).setCell ⟨gb429, 1, none⟩ (.string ((rd_T65 l0 x62_3).f1))).setCell ⟨gb429, 2, none⟩ (.string ((rd_T65 l0 x62_3).f2))).setCell ⟨gb429, 3, none⟩ (.slice A428_3 ((rd_T65 l0 x62_3).f3).length c428_3))) ?hg ?ho ?hn ?hr ?_; (case ho => rfl); (case hg => rfl); (case hn => rfl); (case hr => exact dq0); intro w83 hw; have n0_ : Aside0 (Kd.R Kd.bool 4 w83 w.heap.size (fun k_ => some k_ ≠ (v426 : Value).ownBlock) u9 x9_2) := ⟨dq99⟩; have n1_ : Aside0 (Kd.R Kd.bool 4 w83 w.heap.size (fun k_ => some k_ ≠ (u9 : Value).ownBlock) v426 x14_3) := ⟨dq98⟩; have n2_ : Aside0 (w83.heap[gb429]? = some (.cells #[.int .i64 ((rd_T65 l0 x62_3).f0), .string ((rd_T65 l0 x62_3).f1), .string ((rd_T65 l0 x62_3).f2), .slice A428_3 ((rd_T65 l0 x62_3).f3).length c428_3] 65 (0, 0))) := ⟨dq97⟩; have n3_ : Aside0 (Below w.heap.size w w83) := ⟨dq96⟩; clear hw; clear HO_9; clear HO_14; clear BK429; clear HB; have HO_9 := n0_; have HO_14 := n1_; have BK429 := n2_; have HB := n3_; clear n0_ n1_ n2_ n3_; obtain ⟨⟨hcz84_0, hcz84_1, hcz84_2, hcz84_3⟩, hfz84_0, hfz84_1, hfz84_2, hfz84_3⟩ := blkC4 BK429.out; have p80 : 0 ≤ (x62_3 : Int) := of_decide_eq_true dq13; have q80 : (x62_3 : Int) < ((x14_3.length : Int) : Int) := of_decide_eq_true dq13; obtain ⟨go80, co80, eo80, gb80, gl80, cl80, HG80⟩ := Kd.R_form HO_14.out dq20; (first | cases eo80 | (injection eo80 with ea_ en_ ec_; (first | subst ea_ | (injection ea_ with ea_; subst ea_)); subst ec_; clear en_)); have GB80 := Aside0.mk gb80; have GG80 := Aside0.mk HG80; clear gb80 gl80 HG80; obtain ⟨hx80_0, hf80_0⟩ := Kd.R_celln false HO_14.out (x62_3 : Int) p80 q80; replace p80 := eq_true p80; replace q80 := eq_true q80; obtain ⟨hy85_, hz85_⟩ := Kd.R_celln false HO_14.out (x62_3 : Int) (of_decide_eq_true dq13) (of_decide_eq_true dq13); have HP85 := Kd.R_putg HO_14.out (x62_3 : Int) false) | ((with_reducible refine gate_store (t := 4) (p := 85) rfl ?_); refine store_event (t := 4) (p := 85) (v := ?vo_w86) (w1 := (w83.setCell ⟨go80, (x62_3 : Int).toNat, none⟩ (.bool false))) ?hg ?ho ?hn ?hr ?_; (case ho => rfl); (case hg => rfl); (case hn => rfl); (case hr => exact dq0); intro w86 hw; have hg : w83.grownBy w86 (some go80) := (by rw [hw]; exact HP85.2); have hp_ : Kd.R Kd.bool 4 w86 w.heap.size (fun k_ => some k_ ≠ (u9 : Value).ownBlock) (.slice (some ⟨go80, 0, none⟩) x14_3.length co80) y433 := (by rw [hw, Ny433.out]; exact HP85.1); clear HP85; have n0_ := Aside0.mk (Kd.R_after (v := (.slice (some ⟨go80, 0, none⟩) x14_3.length co80)) (v1 := (.slice (some ⟨go80, 0, none⟩) x14_3.length co80)) (ok := (fun _ => True)) dq95 hg (.inl rfl)); have n1_ := Aside0.mk (hp_); have n2_ := Aside0.mk (blk_grown (g := gb429) (o := .cells #[.int .i64 ((rd_T65 l0 x62_3).f0), .string ((rd_T65 l0 x62_3).f1), .string ((rd_T65 l0 x62_3).f2), .slice A428_3 ((rd_T65 l0 x62_3).f3).length c428_3] 65 (0, 0)) (by refine blk_up ?_; exact BK429.out) hg (Kd.R_ne HO_14.out BK429.out dq24)); have n3_ := Aside0.mk ((by rw [hw]; exact below_set (HB.out) GB80.out : Below w.heap.size w w86)); clear HO_9; clear HO_14; clear BK429; clear HB; have HO_9 := n0_; have HO_14 := n1_; have BK429 := n2_; have HB := n3_; clear n0_ n1_ n2_ n3_; clear hg hw hp_))
     go_roundg k3
     case measure => have := HK1.out; have := HK2.out; have := HK3.out; omega
     case rel => exact ⟨(y433), (wrap64 (x62_3 + 1)), dq12, H', ⟨dq101⟩, ⟨dq94⟩, ⟨dq45⟩, ⟨dq100⟩⟩
    rw [if_pos c56] at H
    have c56b0 : decide (0 ≤ ((rd_T65 l0 x62_3).f0)) = true := decide_eq_true c56
    clear c56
    by_cases c57 : 0 ≤ ((rd_T65 l0 x62_3).f0)
    rotate_left
    ·rw [if_neg c57] at H
     exact absurd H dq17
    rw [if_pos c57] at H
    have c57b0 := decide_eq_true c57
    clear c57
    by_cases c58 : ((rd_T65 l0 x62_3).f0) < (x9_2.length : Int)
    rotate_left
    ·rw [if_neg c58] at H
     exact absurd H dq17
    rw [if_pos c58] at H
    have c58b0 := decide_eq_true c58
    clear c58
    obtain ⟨bq59, hbq59⟩ : ∃ b_ : Bool, b_ = (rdOf false x9_2 ((rd_T65 l0 x62_3).f0)) := ⟨_, rfl⟩
    replace H : (if bq59 = true then (if x62_3 < (x14_3.length : Int) then (impl_led.l2 k3 l0 x9_2 (rdOf ByteArray.empty l2 x53_2) (x14_3.set (x62_3 : Int).toNat (((rd_T65 l0 x62_3).f1).toList == (rdOf ByteArray.empty l2 x53_2).toList)) l2 (l2.length : Int) x53_2 l0 (l0.length : Int) (wrap64 (x62_3 + 1))) else (none)) else (if x62_3 < (x14_3.length : Int) then (impl_led.l2 k3 l0 x9_2 (rdOf ByteArray.empty l2 x53_2) (x14_3.set (x62_3 : Int).toNat false) l2 (l2.length : Int) x53_2 l0 (l0.length : Int) (wrap64 (x62_3 + 1))) else (none))) = some r := by rw [← hbq59] at H; exact H
    have Nbq59 := Aside0.mk hbq59
    clear hbq59
    by_cases c60 : bq59 = true
    rotate_left
    ·replace c60 := Bool.eq_false_iff.mpr c60
     subst c60
     have H1 : (if x62_3 < (x14_3.length : Int) then (impl_led.l2 k3 l0 x9_2 (rdOf ByteArray.empty l2 x53_2) (x14_3.set (x62_3 : Int).toNat false) l2 (l2.length : Int) x53_2 l0 (l0.length : Int) (wrap64 (x62_3 + 1))) else (none)) = some r := by rw [if_neg (show ¬ (false = true) by decide)] at H; exact H
     clear H
     have H := H1
     clear H1
     by_cases c70 : x62_3 < (x14_3.length : Int)
     rotate_left
     ·rw [if_neg c70] at H
      exact absurd H dq17
     rw [if_pos c70] at H
     have c70b0 := decide_eq_true c70
     clear c70
     obtain ⟨y432, hy432⟩ : ∃ y_ : List Bool, y_ = (x14_3.set (x62_3 : Int).toNat false) := ⟨_, rfl⟩
     replace H : (impl_led.l2 k3 l0 x9_2 (rdOf ByteArray.empty l2 x53_2) y432 l2 (l2.length : Int) x53_2 l0 (l0.length : Int) (wrap64 (x62_3 + 1))) = some r := by first | (rw [hy432]; with_reducible exact H) | (have H2_ := (Option.bind_some _ _).symm.trans H; rw [hy432]; with_reducible exact H2_) | (have H2_ := (Option.bind_some _ _).symm.trans H; with_reducible exact H2_) | with_reducible exact H | (rw [hy432]; exact H) | exact H
     have Ny432 := Aside0.mk hy432
     clear hy432
     have H' := Aside0.mk H
     clear H
     have p428 : 0 ≤ (x62_3 : Int) := of_decide_eq_true dq13
     have q428 : x62_3 < (l0.length : Int) := of_decide_eq_true dq13
     obtain ⟨ad428, A428_3, c428_3, e428, hx428_0, hx428_1, hx428_2, hx428_3, hl428_3, hi428_3⟩ := at_T65 HR0.out x62_3 p428 q428
     cases e428
     replace hx428_0 := (HB.out.cell (World.block_lt_of_cell? w _ hx428_0)).trans hx428_0
     replace hx428_1 := (HB.out.cell (World.block_lt_of_cell? w _ hx428_1)).trans hx428_1
     replace hx428_2 := (HB.out.cell (World.block_lt_of_cell? w _ hx428_2)).trans hx428_2
     replace hx428_3 := (HB.out.cell (World.block_lt_of_cell? w _ hx428_3)).trans hx428_3
     have HR428_3 := Aside0.mk hi428_3
     have HC428_3 := Aside0.mk hl428_3
     clear hi428_3 hl428_3
     replace p428 := eq_true p428
     replace q428 := eq_true q428
     go_wp2_with (first | ((with_reducible refine gate_dst (N := 16) rfl ?_); refine box_event ?hg (N := 16) ?hd (cs := #[.int .i64 0, .string (⟨#[]⟩ : ByteArray), .string (⟨#[]⟩ : ByteArray), .slice none 0 0]) (t := 65) ?hr ?_; (case hd => rfl); (case hg => rfl); (case hr => exact dq0); intro gb429 hg w72 hbox hb; have n0_ := Aside0.mk (Kd.R_below dq92 hb); have n1_ := Aside0.mk (Kd.R_below dq45 hb); have n2_ := Aside0.mk (below_step dq9 hb); have n3_ := Aside0.mk (hbox); have n4_ := Aside0.mk ((dq8 : w.heap.size ≤ gb429)); have n5_ := Aside0.mk ((dq8 : w.heap.size ≤ gb429)); clear HO_9; clear HO_14; clear HB; have HO_9 := n0_; have HO_14 := n1_; have HB := n2_; have BK429 := n3_; have GW429 := n4_; have GE429 := n5_; clear n0_ n1_ n2_ n3_ n4_ n5_; clear hb hbox hg; obtain ⟨⟨hcz73_0, hcz73_1, hcz73_2, hcz73_3⟩, hfz73_0, hfz73_1, hfz73_2, hfz73_3⟩ := blkC4 BK429.out) | ((with_reducible refine gate_store (t := 65) (p := 16) rfl ?_); refine store_event (t := 65) (p := 16) (v := ?vo_w74) (w1 := ((((w72.setCell ⟨gb429, 0, none⟩ (.int .i64 ((rd_T65 l0 x62_3).f0))).setCell ⟨gb429, 1, none⟩ (.string ((rd_T65 l0 x62_3).f1))).setCell ⟨gb429, 2, none⟩ (.string ((rd_T65 l0 x62_3).f2))).setCell ⟨gb429, 3, none⟩ (.slice A428_3 ((rd_T65 l0 x62_3).f3).length c428_3))) ?hg ?ho ?hn ?hr ?_; (case ho => rfl); (case hg => rfl); (case hn => rfl); (case hr => exact dq0); intro w74 hw; have n0_ : Aside0 (Kd.R Kd.bool 4 w74 w.heap.size (fun k_ => some k_ ≠ (v426 : Value).ownBlock) u9 x9_2) := ⟨dq99⟩; have n1_ : Aside0 (Kd.R Kd.bool 4 w74 w.heap.size (fun k_ => some k_ ≠ (u9 : Value).ownBlock) v426 x14_3) := ⟨dq98⟩; have n2_ : Aside0 (w74.heap[gb429]? = some (.cells #[.int .i64 ((rd_T65 l0 x62_3).f0), .string ((rd_T65 l0 x62_3).f1), .string ((rd_T65 l0 x62_3).f2), .slice A428_3 ((rd_T65 l0 x62_3).f3).length c428_3] 65 (0, 0))) := ⟨dq97⟩; have n3_ : Aside0 (Below w.heap.size w w74) := ⟨dq96⟩; clear hw; clear HO_9; clear HO_14; clear BK429; clear HB; have HO_9 := n0_; have HO_14 := n1_; have BK429 := n2_; have HB := n3_; clear n0_ n1_ n2_ n3_; obtain ⟨⟨hcz75_0, hcz75_1, hcz75_2, hcz75_3⟩, hfz75_0, hfz75_1, hfz75_2, hfz75_3⟩ := blkC4 BK429.out; obtain ⟨Ao76, co76, eo76⟩ := Kd.R_slice HO_9.out; subst eo76; have p430 : 0 ≤ (((rd_T65 l0 x62_3).f0) : Int) := of_decide_eq_true dq13; have q430 : ((rd_T65 l0 x62_3).f0) < (x9_2.length : Int) := of_decide_eq_true dq13; obtain ⟨ad430, e430, hx430_0⟩ := Kd.at_bool (Kd.R_reads' HO_9.out).2.2 ((rd_T65 l0 x62_3).f0) p430 q430; (try rw [← Nbq59.out] at hx430_0); cases e430; replace p430 := eq_true p430; replace q430 := eq_true q430; have p71 : 0 ≤ (x62_3 : Int) := of_decide_eq_true dq13; have q71 : (x62_3 : Int) < ((x14_3.length : Int) : Int) := of_decide_eq_true dq13; obtain ⟨go71, co71, eo71, gb71, gl71, cl71, HG71⟩ := Kd.R_form HO_14.out dq20; (first | cases eo71 | (injection eo71 with ea_ en_ ec_; (first | subst ea_ | (injection ea_ with ea_; subst ea_)); subst ec_; clear en_)); have GB71 := Aside0.mk gb71; have GG71 := Aside0.mk HG71; clear gb71 gl71 HG71; obtain ⟨hx71_0, hf71_0⟩ := Kd.R_celln false HO_14.out (x62_3 : Int) p71 q71; replace p71 := eq_true p71; replace q71 := eq_true q71; obtain ⟨hy77_, hz77_⟩ := Kd.R_celln false HO_14.out (x62_3 : Int) (of_decide_eq_true dq13) (of_decide_eq_true dq13); have HP77 := Kd.R_putg HO_14.out (x62_3 : Int) false) | ((with_reducible refine gate_store (t := 4) (p := 85) rfl ?_); refine store_event (t := 4) (p := 85) (v := ?vo_w78) (w1 := (w74.setCell ⟨go71, (x62_3 : Int).toNat, none⟩ (.bool false))) ?hg ?ho ?hn ?hr ?_; (case ho => rfl); (case hg => rfl); (case hn => rfl); (case hr => exact dq0); intro w78 hw; have hg : w74.grownBy w78 (some go71) := (by rw [hw]; exact HP77.2); have hp_ : Kd.R Kd.bool 4 w78 w.heap.size (fun k_ => some k_ ≠ (.slice (some ad430) x9_2.length co76 : Value).ownBlock) (.slice (some ⟨go71, 0, none⟩) x14_3.length co71) y432 := (by rw [hw, Ny432.out]; exact HP77.1); clear HP77; have n0_ := Aside0.mk (Kd.R_after (v := (.slice (some ⟨go71, 0, none⟩) x14_3.length co71)) (v1 := (.slice (some ⟨go71, 0, none⟩) x14_3.length co71)) (ok := (fun _ => True)) dq95 hg (.inl rfl)); have n1_ := Aside0.mk (hp_); have n2_ := Aside0.mk (blk_grown (g := gb429) (o := .cells #[.int .i64 ((rd_T65 l0 x62_3).f0), .string ((rd_T65 l0 x62_3).f1), .string ((rd_T65 l0 x62_3).f2), .slice A428_3 ((rd_T65 l0 x62_3).f3).length c428_3] 65 (0, 0)) (by refine blk_up ?_; exact BK429.out) hg (Kd.R_ne HO_14.out BK429.out dq24)); have n3_ := Aside0.mk ((by rw [hw]; exact below_set (HB.out) GB71.out : Below w.heap.size w w78)); clear HO_9; clear HO_14; clear BK429; clear HB; have HO_9 := n0_; have HO_14 := n1_; have BK429 := n2_; have HB := n3_; clear n0_ n1_ n2_ n3_; clear hg hw hp_))
     go_roundg k3
     case measure => have := HK1.out; have := HK2.out; have := HK3.out; omega
     case rel => exact ⟨(y432), (wrap64 (x62_3 + 1)), dq12, H', ⟨dq101⟩, ⟨dq94⟩, ⟨dq45⟩, ⟨dq100⟩⟩
    subst c60
    have H1 : (if x62_3 < (x14_3.length : Int) then (impl_led.l2 k3 l0 x9_2 (rdOf ByteArray.empty l2 x53_2) (x14_3.set (x62_3 : Int).toNat (((rd_T65 l0 x62_3).f1).toList == (rdOf ByteArray.empty l2 x53_2).toList)) l2 (l2.length : Int) x53_2 l0 (l0.length : Int) (wrap64 (x62_3 + 1))) else (none)) = some r := by rw [if_pos rfl] at H; exact H
    clear H
    have H := H1
    clear H1
    by_cases c61 : x62_3 < (x14_3.length : Int)
    rotate_left
    ·rw [if_neg c61] at H
     exact absurd H dq17
    rw [if_pos c61] at H
    have c61b0 := decide_eq_true c61
    clear c61
    obtain ⟨y431, hy431⟩ : ∃ y_ : List Bool, y_ = (x14_3.set (x62_3 : Int).toNat (((rd_T65 l0 x62_3).f1).toList == (rdOf ByteArray.empty l2 x53_2).toList)) := ⟨_, rfl⟩
    replace H : (impl_led.l2 k3 l0 x9_2 (rdOf ByteArray.empty l2 x53_2) y431 l2 (l2.length : Int) x53_2 l0 (l0.length : Int) (wrap64 (x62_3 + 1))) = some r := by first | (rw [hy431]; with_reducible exact H) | (have H2_ := (Option.bind_some _ _).symm.trans H; rw [hy431]; with_reducible exact H2_) | (have H2_ := (Option.bind_some _ _).symm.trans H; with_reducible exact H2_) | with_reducible exact H | (rw [hy431]; exact H) | exact H
    have Ny431 := Aside0.mk hy431
    clear hy431
    have H' := Aside0.mk H
    clear H
    have p428 : 0 ≤ (x62_3 : Int) := of_decide_eq_true dq13
    have q428 : x62_3 < (l0.length : Int) := of_decide_eq_true dq13
    obtain ⟨ad428, A428_3, c428_3, e428, hx428_0, hx428_1, hx428_2, hx428_3, hl428_3, hi428_3⟩ := at_T65 HR0.out x62_3 p428 q428
    cases e428
    replace hx428_0 := (HB.out.cell (World.block_lt_of_cell? w _ hx428_0)).trans hx428_0
    replace hx428_1 := (HB.out.cell (World.block_lt_of_cell? w _ hx428_1)).trans hx428_1
    replace hx428_2 := (HB.out.cell (World.block_lt_of_cell? w _ hx428_2)).trans hx428_2
    replace hx428_3 := (HB.out.cell (World.block_lt_of_cell? w _ hx428_3)).trans hx428_3
    have HR428_3 := Aside0.mk hi428_3
    have HC428_3 := Aside0.mk hl428_3
    clear hi428_3 hl428_3
    replace p428 := eq_true p428
    replace q428 := eq_true q428
    go_wp2_with (first | ((with_reducible refine gate_dst (N := 16) rfl ?_); refine box_event ?hg (N := 16) ?hd (cs := #[.int .i64 0, .string (⟨#[]⟩ : ByteArray), .string (⟨#[]⟩ : ByteArray), .slice none 0 0]) (t := 65) ?hr ?_; (case hd => rfl); (case hg => rfl); (case hr => exact dq0); intro gb429 hg w63 hbox hb; have n0_ := Aside0.mk (Kd.R_below dq92 hb); have n1_ := Aside0.mk (Kd.R_below dq45 hb); have n2_ := Aside0.mk (below_step dq9 hb); have n3_ := Aside0.mk (hbox); have n4_ := Aside0.mk ((dq8 : w.heap.size ≤ gb429)); have n5_ := Aside0.mk ((dq8 : w.heap.size ≤ gb429)); clear HO_9; clear HO_14; clear HB; have HO_9 := n0_; have HO_14 := n1_; have HB := n2_; have BK429 := n3_; have GW429 := n4_; have GE429 := n5_; clear n0_ n1_ n2_ n3_ n4_ n5_; clear hb hbox hg; obtain ⟨⟨hcz64_0, hcz64_1, hcz64_2, hcz64_3⟩, hfz64_0, hfz64_1, hfz64_2, hfz64_3⟩ := blkC4 BK429.out) | ((with_reducible refine gate_store (t := 65) (p := 16) rfl ?_); refine store_event (t := 65) (p := 16) (v := ?vo_w65) (w1 := ((((w63.setCell ⟨gb429, 0, none⟩ (.int .i64 ((rd_T65 l0 x62_3).f0))).setCell ⟨gb429, 1, none⟩ (.string ((rd_T65 l0 x62_3).f1))).setCell ⟨gb429, 2, none⟩ (.string ((rd_T65 l0 x62_3).f2))).setCell ⟨gb429, 3, none⟩ (.slice A428_3 ((rd_T65 l0 x62_3).f3).length c428_3))) ?hg ?ho ?hn ?hr ?_; (case ho => rfl); (case hg => rfl); (case hn => rfl); (case hr => exact dq0); intro w65 hw; have n0_ : Aside0 (Kd.R Kd.bool 4 w65 w.heap.size (fun k_ => some k_ ≠ (v426 : Value).ownBlock) u9 x9_2) := ⟨dq99⟩; have n1_ : Aside0 (Kd.R Kd.bool 4 w65 w.heap.size (fun k_ => some k_ ≠ (u9 : Value).ownBlock) v426 x14_3) := ⟨dq98⟩; have n2_ : Aside0 (w65.heap[gb429]? = some (.cells #[.int .i64 ((rd_T65 l0 x62_3).f0), .string ((rd_T65 l0 x62_3).f1), .string ((rd_T65 l0 x62_3).f2), .slice A428_3 ((rd_T65 l0 x62_3).f3).length c428_3] 65 (0, 0))) := ⟨dq97⟩; have n3_ : Aside0 (Below w.heap.size w w65) := ⟨dq96⟩; clear hw; clear HO_9; clear HO_14; clear BK429; clear HB; have HO_9 := n0_; have HO_14 := n1_; have BK429 := n2_; have HB := n3_; clear n0_ n1_ n2_ n3_; obtain ⟨⟨hcz66_0, hcz66_1, hcz66_2, hcz66_3⟩, hfz66_0, hfz66_1, hfz66_2, hfz66_3⟩ := blkC4 BK429.out; obtain ⟨Ao67, co67, eo67⟩ := Kd.R_slice HO_9.out; subst eo67; have p430 : 0 ≤ (((rd_T65 l0 x62_3).f0) : Int) := of_decide_eq_true dq13; have q430 : ((rd_T65 l0 x62_3).f0) < (x9_2.length : Int) := of_decide_eq_true dq13; obtain ⟨ad430, e430, hx430_0⟩ := Kd.at_bool (Kd.R_reads' HO_9.out).2.2 ((rd_T65 l0 x62_3).f0) p430 q430; (try rw [← Nbq59.out] at hx430_0); cases e430; replace p430 := eq_true p430; replace q430 := eq_true q430; have p62 : 0 ≤ (x62_3 : Int) := of_decide_eq_true dq13; have q62 : (x62_3 : Int) < ((x14_3.length : Int) : Int) := of_decide_eq_true dq13; obtain ⟨go62, co62, eo62, gb62, gl62, cl62, HG62⟩ := Kd.R_form HO_14.out dq20; (first | cases eo62 | (injection eo62 with ea_ en_ ec_; (first | subst ea_ | (injection ea_ with ea_; subst ea_)); subst ec_; clear en_)); have GB62 := Aside0.mk gb62; have GG62 := Aside0.mk HG62; clear gb62 gl62 HG62; obtain ⟨hx62_0, hf62_0⟩ := Kd.R_celln false HO_14.out (x62_3 : Int) p62 q62; replace p62 := eq_true p62; replace q62 := eq_true q62; obtain ⟨hy68_, hz68_⟩ := Kd.R_celln false HO_14.out (x62_3 : Int) (of_decide_eq_true dq13) (of_decide_eq_true dq13); have HP68 := Kd.R_putg HO_14.out (x62_3 : Int) (((rd_T65 l0 x62_3).f1).toList == (rdOf ByteArray.empty l2 x53_2).toList)) | ((with_reducible refine gate_store (t := 4) (p := 85) rfl ?_); refine store_event (t := 4) (p := 85) (v := ?vo_w69) (w1 := (w65.setCell ⟨go62, (x62_3 : Int).toNat, none⟩ (.bool (((rd_T65 l0 x62_3).f1).toList == (rdOf ByteArray.empty l2 x53_2).toList)))) ?hg ?ho ?hn ?hr ?_; (case ho => rfl); (case hg => rfl); (case hn => rfl); (case hr => exact dq0); intro w69 hw; have hg : w65.grownBy w69 (some go62) := (by rw [hw]; exact HP68.2); have hp_ : Kd.R Kd.bool 4 w69 w.heap.size (fun k_ => some k_ ≠ (.slice (some ad430) x9_2.length co67 : Value).ownBlock) (.slice (some ⟨go62, 0, none⟩) x14_3.length co62) y431 := (by rw [hw, Ny431.out]; exact HP68.1); clear HP68; have n0_ := Aside0.mk (Kd.R_after (v := (.slice (some ⟨go62, 0, none⟩) x14_3.length co62)) (v1 := (.slice (some ⟨go62, 0, none⟩) x14_3.length co62)) (ok := (fun _ => True)) dq95 hg (.inl rfl)); have n1_ := Aside0.mk (hp_); have n2_ := Aside0.mk (blk_grown (g := gb429) (o := .cells #[.int .i64 ((rd_T65 l0 x62_3).f0), .string ((rd_T65 l0 x62_3).f1), .string ((rd_T65 l0 x62_3).f2), .slice A428_3 ((rd_T65 l0 x62_3).f3).length c428_3] 65 (0, 0)) (by refine blk_up ?_; exact BK429.out) hg (Kd.R_ne HO_14.out BK429.out dq24)); have n3_ := Aside0.mk ((by rw [hw]; exact below_set (HB.out) GB62.out : Below w.heap.size w w69)); clear HO_9; clear HO_14; clear BK429; clear HB; have HO_9 := n0_; have HO_14 := n1_; have BK429 := n2_; have HB := n3_; clear n0_ n1_ n2_ n3_; clear hg hw hp_))
    go_roundg k3
    case measure => have := HK1.out; have := HK2.out; have := HK3.out; omega
    case rel => exact ⟨(y431), (wrap64 (x62_3 + 1)), dq12, H', ⟨dq101⟩, ⟨dq94⟩, ⟨dq45⟩, ⟨dq100⟩⟩

end Go.Proofs.YtpmjpbaeecnpiaaGreatDoor.L

namespace Go.Proofs.YtpmjpbaeecnpiaaGreatDoor.L
open Go.RowKit Go.Proofs.YtpmjpbaeecnpiaaGreatDoorW.PrintWords Go.Proofs.YtpmjpbaeecnpiaaGreatDoorW.PrintLast Go.Proofs.YtpmjpbaeecnpiaaGreatDoorW.PrintMore
set_option linter.unusedVariables false
set_option linter.unusedSimpArgs false

theorem bld_size : (Tryz.prog.info? 131).map (fun i => i.size) = some 2 := by kernel_rfl
theorem bld_byte : (Tryz.prog.info? 5).map (fun i => (i.zero, i.size, i.bytes)) = some (some (.int .u8 0), 1, 1) := by kernel_rfl
set_option maxHeartbeats 1000000 in
set_option maxRecDepth 100000 in
theorem bld_check_used (b : Nat) (w : World) (h0 : w.cell? ⟨b, 0, none⟩ = some (.pointer (some ⟨b, 0, none⟩))) :
    Calls Tryz.prog 151 #[.pointer (some ⟨b, 0, none⟩)] w fun e w' => e = .returned (.tuple #[]) ∧ w' = w := by
  obtain ⟨j, hj, _⟩ := Option.map_eq_some_iff.1 bld_size
  go_enter Tryz.func151, Tryz.ntmps151
  go_wp2
  rw [Lib.run_neq_ptr_same w _ Tryz.underlying129 hj]
  go_wp2
  go_end0
  exact ⟨rfl, rfl⟩
set_option maxHeartbeats 1000000 in
set_option maxRecDepth 100000 in
theorem bld_check_fresh (b : Nat) (w : World) (h0 : w.cell? ⟨b, 0, none⟩ = some (.pointer none)) (hsh : w.shape? b = some (131, 2)) (hfz : w.frozen? ⟨b, 0, none⟩ = false) :
    Calls Tryz.prog 151 #[.pointer (some ⟨b, 0, none⟩)] w fun e w' => e = .returned (.tuple #[]) ∧ w' = w.setCell ⟨b, 0, none⟩ (.pointer (some ⟨b, 0, none⟩)) := by
  obtain ⟨j, hj, hjs⟩ := Option.map_eq_some_iff.1 bld_size
  go_enter Tryz.func151, Tryz.ntmps151
  go_wp2
  rw [Lib.run_to_unsafe w ⟨b, 0, none⟩ Tryz.underlying129 Tryz.underlying191 hj (by rw [hjs]; decide) hsh (Nat.zero_lt_succ 1)]
  simp only [Result.andThen]
  rw [Oper.upon_value]
  go_wp2
  rw [run_callFunc_extern Tryz.func166 (by kernel_rfl) (by kernel_rfl) (by kernel_rfl) (e := Extern.AbiNoEscape.same) (by kernel_rfl)]
  rw [Lib.run_noEscape]
  simp only [Result.andThen]
  rw [Oper.upon_value]
  go_wp2
  rw [Lib.run_from_unsafe w ⟨b, 0, none⟩ Tryz.underlying191 Tryz.underlying129 hj hsh (by kernel_rfl)]
  simp only [Result.andThen]
  rw [Oper.upon_value]
  go_wp2
  go_end0
  exact ⟨rfl, rfl⟩
theorem bld_check (B b : Nat) (bs : List Value) (w : World) (h : Lib.IsBuilderF 131 5 B b bs w) :
    Calls Tryz.prog 151 #[.pointer (some ⟨b, 0, none⟩)] w fun e w' => e = .returned (.tuple #[]) ∧ (Lib.BuilderAtF 131 5 B b (.pointer (some ⟨b, 0, none⟩)) bs w' ∧ Below B w w' ∧ Lib.OthersKept 5 (some b) w w') := by
  rcases h with h | h
  · refine (bld_check_fresh b w h.cell0 h.shape h.frozen0).mono ?_
    rintro e w' ⟨rfl, rfl⟩
    exact ⟨rfl, h.used _, (Below.refl B w).setCell (p := ⟨b, 0, none⟩) h.1 _, (Lib.OthersKept.refl _ _ w).setCell ⟨b, 0, none⟩ rfl _⟩
  · refine (bld_check_used b w h.cell0).mono ?_
    rintro e w' ⟨rfl, rfl⟩
    exact ⟨rfl, h, Below.refl B _, Lib.OthersKept.refl _ _ _⟩
set_option maxHeartbeats 2000000 in
set_option maxRecDepth 100000 in
theorem bld_str_k (B b : Nat) (bs : List Value) (s : ByteArray) (w : World) (h : Lib.IsBuilderF 131 5 B b bs w) (hlen : bs.length + s.size ≤ 140737488355328) (hBw : B ≤ w.heap.size) :
    Calls Tryz.prog 113 #[.pointer (some ⟨b, 0, none⟩), .string s] w fun e w' => e = .returned (.tuple #[.int .i64 s.size, .nilIface]) ∧ (Lib.BuilderAtF 131 5 B b (.pointer (some ⟨b, 0, none⟩)) (bs ++ Lib.strCells s) w' ∧ Below B w w' ∧ Lib.OthersKept 5 (some b) w w') := by
  obtain ⟨i0, hi, hz0, hz1, hz2⟩ := info_parts bld_byte
  go_enter Tryz.func113, Tryz.ntmps113
  go_wp2_with (go_at_call 151; refine (bld_check B b bs _ h).mono ?_)
  rintro e w1 ⟨rfl, h1, hb1, hk1⟩
  obtain ⟨hB, v, hbk, hown, hne⟩ := h1
  have c0 : w1.cell? ⟨b, 0, none⟩ = some (.pointer (some ⟨b, 0, none⟩)) := by rw [Lib.cell_of_heap hbk]; rfl
  have c1 : w1.cell? ⟨b, 1, none⟩ = some v := by rw [Lib.cell_of_heap hbk]; rfl
  go_wp2_with (at_builtin; refine Lib.wpList_append_own_stringF _ rfl _ _ 56 9 rfl B 5 i0 Tryz.underlying56 Tryz.underlying9 hi hz0 hz1 hz2 _ _ _ rfl hown s rfl ?c3 ?c4 ?c5 ?_)
  case c3 => unfold maxLen; omega
  case c4 => omega
  case c5 => have := hb1.size; omega
  intro v' w2 hown' hgrow _
  have hlt : b < w1.heap.size := by
    rcases Nat.lt_or_ge b w1.heap.size with h' | h'
    · exact h'
    · simp [Array.getElem?_eq_none h'] at hbk
  have hb2 : w2.heap[b]? = some (.cells #[.pointer (some ⟨b, 0, none⟩), v] 131 (0, 0)) := by
    rw [hgrow.block b hlt (fun e => hne e.symm)]
    exact hbk
  have d0 : w2.cell? ⟨b, 0, none⟩ = some (.pointer (some ⟨b, 0, none⟩)) := by rw [Lib.cell_of_heap hb2]; rfl
  have d1 : w2.cell? ⟨b, 1, none⟩ = some v := by rw [Lib.cell_of_heap hb2]; rfl
  have f1 : w2.frozen? ⟨b, 1, none⟩ = false := Lib.frozen_of_heap hb2 1
  obtain ⟨ao, n', cap, rfl⟩ : ∃ ao n' cap, v' = .slice ao n' cap := by
    rcases hown'.2 with ⟨hv, _⟩ | ⟨g, cap, cur, fz, hv, _⟩
    · exact ⟨_, _, _, hv⟩
    · exact ⟨_, _, _, hv⟩
  go_wp2
  go_ret2
  refine ⟨rfl, ?_, ?_, (hk1.grown hgrow (Lib.ownsRowF_kind hown)).setCell ⟨b, 1, none⟩ rfl _⟩
  · exact Lib.BuilderAtF.put (T := 131) (e := 5) hB hb2 (bs' := bs ++ Lib.strCells s) (by simpa [Lib.strCells_length] using hown') (by decide)
  · exact (hb1.grown hgrow (by have := hb1.size; omega) (fun k hk => (hown.lt k hk).1)).setCell (p := ⟨b, 1, none⟩) hB _
theorem bld_keep {T e B b : Nat} {bs : List Value} {w w' : World} (h : Lib.IsBuilderF T e B b bs w) (hk : ∀ (g : Nat) (c : Array Value) (t : TypeId) (fz : Nat × Nat), w.heap[g]? = some (.cells c t fz) → (t = T ∨ t = e) → w'.heap[g]? = some (.cells c t fz)) : Lib.IsBuilderF T e B b bs w' := by
  have one : ∀ p, Lib.BuilderAtF T e B b p bs w → Lib.BuilderAtF T e B b p bs w' := by
    rintro p ⟨hB, v, hb, hown, hne⟩
    refine ⟨hB, v, hk _ _ _ _ hb (.inl rfl), ⟨hown.1, ?_⟩, hne⟩
    rcases hown.2 with h1 | ⟨g, cap, cur, fz, hv, hg0, hg, rest⟩
    · exact .inl h1
    · exact .inr ⟨g, cap, cur, fz, hv, hg0, hk _ _ _ _ hg (.inr rfl), rest⟩
  exact h.elim (fun x => .inl (one _ x)) (fun x => .inr (one _ x))
theorem bld_below {T e B b : Nat} {bs : List Value} {w w' : World} (h : Lib.IsBuilderF T e B b bs w) (hb : Below w.heap.size w w') : Lib.IsBuilderF T e B b bs w' :=
  bld_keep h fun g c t fz hg _ => blk_below hg hb
theorem bld_sets {T e B b gb : Nat} {bs : List Value} {cs : Array Value} {t : TypeId} {fr : Nat × Nat} {w w' : World} (h : Lib.IsBuilderF T e B b bs w) (hb : w.heap[gb]? = some (.cells cs t fr)) (h1 : t ≠ T) (h2 : t ≠ e) (hw : ∀ g, g ≠ gb → w'.heap[g]? = w.heap[g]?) : Lib.IsBuilderF T e B b bs w' :=
  bld_keep h fun g c t' fz hg ht => by
    rw [hw g ?_]
    · exact hg
    · rintro rfl
      rw [hb] at hg
      injection hg with hg
      injection hg with _ hg
      subst hg
      exact ht.elim h1 h2
theorem bld_drew {T e B b : Nat} {bs : List Value} {w : World} (h : Lib.IsBuilderF T e B b bs w) : Lib.IsBuilderF T e B b bs w.drew := h.elim (fun x => .inl x.drew) (fun x => .inr x.drew)
theorem bld_drewN {T e B b : Nat} {bs : List Value} {w : World} (h : Lib.IsBuilderF T e B b bs w) (n : Nat) : Lib.IsBuilderF T e B b bs (w.drewN n) := bld_keep h fun g c t fz hg _ => blk_drewN hg n
theorem bld_fresh {w : World} {B b : Nat} (hB : B ≤ b) (h : w.heap[b]? = some (.cells #[.pointer none, .slice none 0 0] 131 (0, 0))) : Lib.IsBuilderF 131 5 B b (Lib.byteCells []) w :=
  .inl ⟨hB, _, h, World.ownsRowF_of (World.ownsRow_nil _ _ _ _), by simp [Value.ownBlock]⟩
end Go.Proofs.YtpmjpbaeecnpiaaGreatDoor.L

namespace Go.Proofs
open Go.Shelf
def Tryz.lays169_ren : Go.Shelf.Ren := ⟨fun | 169 => 114 | n => n, fun | 70 => 129 | 9 => 9 | 0 => 0 | 72 => 131 | 37 => 56 | 127 => 179 | 3 => 3 | 5 => 5 | n => n, fun | n => n⟩
theorem Tryz.lays169 : Go.Proofs.Lays.n169 Tryz.prog Tryz.lays169_ren := {
  mixed := by kernel_rfl
  f169 := Tryz.func114.trans (congrArg some (by kernel_rfl))
  t0 := Tryz.underlying0
  a0 := Tryz.isAgg0
  z0 := Tryz.sizeOf0
  v0 := Tryz.zeroValue0
  t3 := Tryz.underlying3
  a3 := Tryz.isAgg3
  z3 := Tryz.sizeOf3
  v3 := Tryz.zeroValue3
  t9 := Tryz.underlying9
  a9 := Tryz.isAgg9
  z9 := Tryz.sizeOf9
  v9 := Tryz.zeroValue9
  t37 := Tryz.underlying56
  a37 := Tryz.isAgg56
  z37 := Tryz.sizeOf56
  v37 := Tryz.zeroValue56
  t70 := Tryz.underlying129
  a70 := Tryz.isAgg129
  z70 := Tryz.sizeOf129
  v70 := Tryz.zeroValue129
  t72 := Tryz.underlying131
  a72 := Tryz.isAgg131
  z72 := Tryz.sizeOf131
  v72 := Tryz.zeroValue131
  t127 := Tryz.underlying179
  a127 := Tryz.isAgg179
  z127 := Tryz.sizeOf179
  v127 := Tryz.zeroValue179 }
theorem Tryz.Builder_Extra_169 : Builder.Extra Tryz.prog Tryz.lays169_ren := {
  sizeBuilder := by kernel_rfl
  liesBuilder := by kernel_rfl
  t5 := Tryz.underlying5
  a5 := Tryz.isAgg5
  z5 := Tryz.sizeOf5
  v5 := Tryz.zeroValue5
  infoByte := by kernel_rfl
  cellsByte := by kernel_rfl
  sizeByte := by kernel_rfl
  neB5 := by decide }
open Go.RowKit in
/-- (*strings.Builder).String: "String returns the accumulated string.": WHATEVER THE BUILDER HOLDS; THE FORM '_k': OVER 'Lib.IsBuilderF' (a builder that 'String()' may have read), AND WITH THE FRAME THAT REACHES ABOVE THE BUILDER: 'Lib.OthersKept': every block that is not b and is no row of uint8's stands as it stood: the iterator of a range among them. (LAID: no walk: one application.) -/
theorem Tryz.Builder_String_any_k (B b : Nat) (l : List UInt8) (w : World) (h : Lib.IsBuilderF 131 5 B b (Lib.byteCells l) w) (hBw : B ≤ w.heap.size) :
    Calls Tryz.prog 114 #[.pointer (some ⟨b, 0, none⟩)] w fun e w' => e = .returned (.string ⟨l.toArray⟩) ∧ (Lib.IsBuilderF 131 5 B b (Lib.byteCells l) w' ∧ Below B w w' ∧ Lib.OthersKept 5 (some b) w w') := Any.Builder_String_any_k Tryz.lays169 Tryz.Builder_Extra_169 B b l w h hBw
end Go.Proofs

namespace Go.Proofs.YtpmjpbaeecnpiaaGreatDoor.L
open Go.RowKit Go.Proofs.YtpmjpbaeecnpiaaGreatDoorW.PrintWords Go.Proofs.YtpmjpbaeecnpiaaGreatDoorW.PrintLast Go.Proofs.YtpmjpbaeecnpiaaGreatDoorW.PrintMore
set_option linter.unusedVariables false
set_option linter.unusedSimpArgs false

def txtV (l : List S65) (a : Int) : List UInt8 := l.flatMap fun x => if x.f0 = a then x.f2.data.toList else []
def impl_textBelow.f (l0 : List S65) (a1 : Int) : Option ByteArray := if (txtV l0 a1).length ≤ 140737488355328 then some ⟨(txtV l0 a1).toArray⟩ else none
theorem txt_rd {l : List S65} {kk : Nat} (h : kk < l.length) : rd_T65 l (kk : Int) = l[kk] := by
  unfold rd_T65
  simp [h]
theorem txt_next {l : List S65} {a : Int} {kk : Nat} (h : kk < l.length) : txtV (l.take (kk + 1)) a = txtV (l.take kk) a ++ (if (rd_T65 l (kk : Int)).f0 = a then (rd_T65 l (kk : Int)).f2.data.toList else []) := by
  rw [txt_rd h]
  unfold txtV
  rw [List.take_succ_eq_append_getElem h, List.flatMap_append]
  simp
theorem txt_len {l : List S65} {a : Int} (kk : Nat) : (txtV (l.take kk) a).length ≤ (txtV l a).length := by
  have e : txtV l a = txtV (l.take kk) a ++ txtV (l.drop kk) a := by
    unfold txtV
    rw [← List.flatMap_append, List.take_append_drop]
  rw [e, List.length_append]
  omega
set_option maxHeartbeats 2000000 in
set_option maxRecDepth 100000 in
theorem impl_textBelow.calls (A0 : Option Addr) (c0 : Nat) (l0 : List (S65)) (a1 : Int) (r : ByteArray) (w : World) (hr0 : Kd.C k65 w A0 l0.length l0) (hc0 : l0.length ≤ c0) (h : impl_textBelow.f l0 a1 = some r) :
    Calls Tryz.prog 73 #[.slice A0 l0.length c0, .int .i64 a1] w fun e w' => e = .returned (.string r) ∧ Below w.heap.size w w' := by
  have hmax := Kd.C_max hr0
  have HR0 := Aside0.mk hr0
  clear hr0
  have HB := Aside0.mk (Below.refl w.heap.size w)
  unfold impl_textBelow.f at h
  have hlen : (txtV l0 a1).length ≤ 140737488355328 := by
    by_cases c : (txtV l0 a1).length ≤ 140737488355328
    · exact c
    · rw [if_neg c] at h; cases h
  rw [if_pos hlen] at h
  obtain rfl := Option.some.inj h
  clear h
  have HLN := Aside0.mk hlen
  clear hlen
  obtain ⟨n, hn⟩ : ∃ n, l0.length = n := ⟨_, rfl⟩
  have HN := Aside0.mk hn
  rw [hn] at hmax ⊢
  clear hn
  go_enter Tryz.func73, Tryz.ntmps73
  go_wp2_with (first | ((with_reducible refine gate_dst (N := 9) rfl ?_); refine box_event ?hg (N := 9) ?hd (cs := #[.pointer none, .slice none 0 0]) (t := 131) ?hr ?_; (case hd => rfl); (case hg => rfl); (case hr => first | (go_simp; done) | (go_simp; rfl)); intro gb hg w14 hbox hb; have n1_ := Aside0.mk (below_step (by repeat (first | (with_reducible first | exact HB.out | apply below_alloc | apply pw_below_drewN | apply below_drew1) | exact HB.out)) hb); have GE := Aside0.mk ((by rw [hg]; exact (below_size (by repeat (first | (with_reducible first | exact HB.out | apply below_alloc | apply pw_below_drewN | apply below_drew1) | exact HB.out))) : w.heap.size ≤ gb)); have BB := Aside0.mk (bld_fresh GE.out hbox); clear HB; have HB := n1_; clear n1_; clear hb hbox hg))
  go_loopg [12] n (fun gg v12 w' => ∃ kk : Nat, kk ≤ n ∧ n - kk ≤ gg ∧ v12 = .int .i64 (kk : Int) ∧ Aside0 (Lib.IsBuilderF 131 5 w.heap.size gb (Lib.byteCells (txtV (l0.take kk) a1)) w') ∧ Aside0 (Below w.heap.size w w'))
  case atStart => exact ⟨0, Nat.zero_le _, by omega, rfl, ⟨by (with_reducible repeat (first | refine bld_drewN ?_ _ | apply bld_drew)); exact BB.out⟩, ⟨by repeat (first | (with_reducible first | exact HB.out | apply below_alloc | apply pw_below_drewN | apply below_drew1) | exact HB.out)⟩⟩
  case round =>
    clear BB HB
    obtain ⟨kk, hkk, hgg, rfl, BB, HB⟩ := hrel
    by_cases hlt : kk < n
    · have c6b0 : decide ((kk : Int) < (n : Int)) = true := decide_eq_true (by omega)
      have hll : kk < l0.length := by have := HN.out; omega
      obtain ⟨ad, A3, c3, e, hx0, hx1, hx2, hx3, _, _⟩ := at_T65 HR0.out (kk : Int) (by omega) (by omega)
      cases e
      have hnx := Aside0.mk (txt_next (a := a1) hll)
      have hle := Aside0.mk (Nat.le_trans (txt_len (l := l0) (a := a1) (kk + 1)) HLN.out)
      replace hx0 := (HB.out.cell (World.block_lt_of_cell? w _ hx0)).trans hx0
      replace hx1 := (HB.out.cell (World.block_lt_of_cell? w _ hx1)).trans hx1
      replace hx2 := (HB.out.cell (World.block_lt_of_cell? w _ hx2)).trans hx2
      replace hx3 := (HB.out.cell (World.block_lt_of_cell? w _ hx3)).trans hx3
      rw [Int.toNat_natCast] at hx0 hx1 hx2 hx3
      generalize hy : rd_T65 l0 (kk : Int) = y at hx0 hx1 hx2 hx3 hnx
      clear hy
      by_cases cu : y.f0 = a1
      · have cub : (y.f0 == a1) = true := beq_iff_eq.mpr cu
        go_wp2_with (first | ((with_reducible refine gate_dst (N := 7) rfl ?_); refine box_event ?hg (N := 7) ?hd (cs := #[.int .i64 0, .string (⟨#[]⟩ : ByteArray), .string (⟨#[]⟩ : ByteArray), .slice none 0 0]) (t := 65) ?hr ?_; (case hd => rfl); (case hg => rfl); (case hr => first | (go_simp; done) | (go_simp; rfl)); intro gx hg w14 hbox hb; have n0_ := Aside0.mk (bld_below (by (with_reducible repeat (first | refine bld_drewN ?_ _ | apply bld_drew)); exact BB.out) hb); have n1_ := Aside0.mk (below_step (by repeat (first | (with_reducible first | exact HB.out | apply below_alloc | apply pw_below_drewN | apply below_drew1) | exact HB.out)) hb); have n2_ := Aside0.mk hbox; have GX := Aside0.mk ((by rw [hg]; exact (below_size (by repeat (first | (with_reducible first | exact HB.out | apply below_alloc | apply pw_below_drewN | apply below_drew1) | exact HB.out))) : w.heap.size ≤ gx)); clear BB HB; have BB := n0_; have HB := n1_; have BK := n2_; clear n0_ n1_ n2_; clear hb hbox hg; have hcz0 : w14.cell? ⟨gx, 0, none⟩ = some (.int .i64 0) := (blk_cell BK.out 0).trans rfl; have hcz1 : w14.cell? ⟨gx, 1, none⟩ = some (.string (⟨#[]⟩ : ByteArray)) := (blk_cell BK.out 1).trans rfl; have hcz2 : w14.cell? ⟨gx, 2, none⟩ = some (.string (⟨#[]⟩ : ByteArray)) := (blk_cell BK.out 2).trans rfl; have hcz3 : w14.cell? ⟨gx, 3, none⟩ = some (.slice none 0 0) := (blk_cell BK.out 3).trans rfl; have hfz0 := blk_frozen BK.out 0; have hfz1 := blk_frozen BK.out 1; have hfz2 := blk_frozen BK.out 2; have hfz3 := blk_frozen BK.out 3) | (go_at_call 113; refine (bld_str_k w.heap.size gb (Lib.byteCells (txtV (l0.take kk) a1)) y.f2 _ (bld_sets BB.out BK.out (by decide) (by decide) (fun g hg => by rw [Below.heap_setCell _ _ _ _ hg, Below.heap_setCell _ _ _ _ hg, Below.heap_setCell _ _ _ _ hg, Below.heap_setCell _ _ _ _ hg])) ?hl ?hB).mono ?_; (case hl => have h1_ := hle.out; rw [hnx.out, if_pos cu, List.length_append] at h1_; rw [Lib.byteCells_length, ByteArray.size]; simpa using h1_); (case hB => exact below_size (by repeat (first | (with_reducible first | exact HB.out | apply below_alloc | apply pw_below_drewN | apply below_drew1 | refine below_set ?_ GX.out) | exact HB.out))); rintro e w55 ⟨rfl, hbd, hb, hko⟩; have n0_ := Aside0.mk (show Lib.IsBuilderF 131 5 w.heap.size gb _ w55 from .inr hbd); have n1_ := Aside0.mk (Below.trans (by repeat (first | (with_reducible first | exact HB.out | apply below_alloc | apply pw_below_drewN | apply below_drew1 | refine below_set ?_ GX.out) | exact HB.out)) hb); clear BB BK HB hcz0 hcz1 hcz2 hcz3 hfz0 hfz1 hfz2 hfz3; have BB := n0_; have HB := n1_; clear n0_ n1_ hbd hb hko))
        go_roundg (n - (kk + 1))
        case measure => omega
        case rel => exact ⟨kk + 1, by omega, by omega, by go_num, ⟨by (with_reducible repeat (first | refine bld_drewN ?_ _ | apply bld_drew)); rw [show Lib.byteCells (txtV (l0.take (kk + 1)) a1) = Lib.byteCells (txtV (l0.take kk) a1) ++ Lib.strCells y.f2 from by rw [hnx.out, if_pos cu, Lib.strCells_eq]; simp only [Lib.byteCells, List.map_append]]; exact BB.out⟩, ⟨by repeat (first | (with_reducible first | exact HB.out | apply below_alloc | apply pw_below_drewN | apply below_drew1) | exact HB.out)⟩⟩
      · have cub : (y.f0 == a1) = false := beq_eq_false_iff_ne.mpr cu
        go_wp2_with (first | ((with_reducible refine gate_dst (N := 7) rfl ?_); refine box_event ?hg (N := 7) ?hd (cs := #[.int .i64 0, .string (⟨#[]⟩ : ByteArray), .string (⟨#[]⟩ : ByteArray), .slice none 0 0]) (t := 65) ?hr ?_; (case hd => rfl); (case hg => rfl); (case hr => first | (go_simp; done) | (go_simp; rfl)); intro gx hg w14 hbox hb; have n0_ := Aside0.mk (bld_below (by (with_reducible repeat (first | refine bld_drewN ?_ _ | apply bld_drew)); exact BB.out) hb); have n1_ := Aside0.mk (below_step (by repeat (first | (with_reducible first | exact HB.out | apply below_alloc | apply pw_below_drewN | apply below_drew1) | exact HB.out)) hb); have n2_ := Aside0.mk hbox; have GX := Aside0.mk ((by rw [hg]; exact (below_size (by repeat (first | (with_reducible first | exact HB.out | apply below_alloc | apply pw_below_drewN | apply below_drew1) | exact HB.out))) : w.heap.size ≤ gx)); clear BB HB; have BB := n0_; have HB := n1_; have BK := n2_; clear n0_ n1_ n2_; clear hb hbox hg; have hcz0 : w14.cell? ⟨gx, 0, none⟩ = some (.int .i64 0) := (blk_cell BK.out 0).trans rfl; have hcz1 : w14.cell? ⟨gx, 1, none⟩ = some (.string (⟨#[]⟩ : ByteArray)) := (blk_cell BK.out 1).trans rfl; have hcz2 : w14.cell? ⟨gx, 2, none⟩ = some (.string (⟨#[]⟩ : ByteArray)) := (blk_cell BK.out 2).trans rfl; have hcz3 : w14.cell? ⟨gx, 3, none⟩ = some (.slice none 0 0) := (blk_cell BK.out 3).trans rfl; have hfz0 := blk_frozen BK.out 0; have hfz1 := blk_frozen BK.out 1; have hfz2 := blk_frozen BK.out 2; have hfz3 := blk_frozen BK.out 3))
        go_roundg (n - (kk + 1))
        case measure => omega
        case rel => exact ⟨kk + 1, by omega, by omega, by go_num, ⟨by (with_reducible repeat (first | refine bld_drewN ?_ _ | apply bld_drew)); rw [show txtV (l0.take (kk + 1)) a1 = txtV (l0.take kk) a1 from by rw [hnx.out, if_neg cu, List.append_nil]]; exact (bld_sets BB.out BK.out (by decide) (by decide) (fun g hg => by rw [Below.heap_setCell _ _ _ _ hg, Below.heap_setCell _ _ _ _ hg, Below.heap_setCell _ _ _ _ hg, Below.heap_setCell _ _ _ _ hg]))⟩, ⟨by repeat (first | (with_reducible first | exact HB.out | apply below_alloc | apply pw_below_drewN | apply below_drew1 | refine below_set ?_ GX.out) | exact HB.out)⟩⟩
    · have hk2 : kk = n := by omega
      have c6b0 : decide ((kk : Int) < (n : Int)) = false := decide_eq_false (by omega)
      have hw : txtV (l0.take kk) a1 = txtV l0 a1 := by rw [List.take_of_length_le (by have := HN.out; omega)]
      rw [hw] at BB
      go_wp2_with (first | (go_at_call 114; refine (Tryz.Builder_String_any_k w.heap.size gb (txtV l0 a1) _ BB.out ?hB).mono ?_; (case hB => exact below_size (by repeat (first | (with_reducible first | exact HB.out | apply below_alloc | apply pw_below_drewN | apply below_drew1) | exact HB.out))); rintro e w58 ⟨rfl, hbd, hb, hko⟩; have n1_ := Aside0.mk (Below.trans (by repeat (first | (with_reducible first | exact HB.out | apply below_alloc | apply pw_below_drewN | apply below_drew1) | exact HB.out)) hb); clear BB HB; have HB := n1_; clear n1_ hbd hb hko))
      go_ret
      exact ⟨rfl, (by repeat (first | (with_reducible first | exact HB.out | apply below_alloc | apply pw_below_drewN | apply below_drew1) | exact HB.out))⟩
end Go.Proofs.YtpmjpbaeecnpiaaGreatDoor.L

namespace Go.Proofs
open Go.Shelf
def Tryz.lays241_ren : Go.Shelf.Ren := ⟨fun | 241 => 155 | 277 => 173 | n => n, fun | 70 => 129 | 3 => 3 | 0 => 0 | 72 => 131 | 37 => 56 | 5 => 5 | n => n, fun | n => n⟩
theorem Tryz.lays241 : Go.Proofs.Lays.n241 Tryz.prog Tryz.lays241_ren := {
  mixed := by kernel_rfl
  f241 := Tryz.func155.trans (congrArg some (by kernel_rfl))
  f277 := Tryz.func173.trans (congrArg some (by kernel_rfl))
  t0 := Tryz.underlying0
  a0 := Tryz.isAgg0
  z0 := Tryz.sizeOf0
  v0 := Tryz.zeroValue0
  t3 := Tryz.underlying3
  a3 := Tryz.isAgg3
  z3 := Tryz.sizeOf3
  v3 := Tryz.zeroValue3
  t37 := Tryz.underlying56
  a37 := Tryz.isAgg56
  z37 := Tryz.sizeOf56
  v37 := Tryz.zeroValue56
  t70 := Tryz.underlying129
  a70 := Tryz.isAgg129
  z70 := Tryz.sizeOf129
  v70 := Tryz.zeroValue129
  t72 := Tryz.underlying131
  a72 := Tryz.isAgg131
  z72 := Tryz.sizeOf131
  v72 := Tryz.zeroValue131 }
theorem Tryz.Builder_Extra_241 : Builder.Extra Tryz.prog Tryz.lays241_ren := {
  sizeBuilder := by kernel_rfl
  liesBuilder := by kernel_rfl
  t5 := Tryz.underlying5
  a5 := Tryz.isAgg5
  z5 := Tryz.sizeOf5
  v5 := Tryz.zeroValue5
  infoByte := by kernel_rfl
  cellsByte := by kernel_rfl
  sizeByte := by kernel_rfl
  neB5 := by decide }
open Go.RowKit in
/-- (*strings.Builder).grow (no doc but "grow copies the buffer to a new, larger buffer so that there are at least n bytes of capacity beyond len(b.buf)."): AT A BUILDER WITHOUT A BUFFER: a new row of whatever bytes for its buffer, none of them its own yet. Three draws. (LAID: no walk: one application.) -/
theorem Tryz.Builder_grow_fresh (B b n : Nat) (w : World) (hB : B ≤ b) (hbk : w.heap[b]? = some (.cells #[.pointer (some ⟨b, 0, none⟩), .slice none 0 0] 131 (0, 0))) (hBw : B ≤ w.heap.size) (hn : n ≤ 281474976710656) :
    Calls Tryz.prog 155 #[.pointer (some ⟨b, 0, none⟩), .int .i64 n] w fun e w' => e = .returned (.tuple #[]) ∧ (Lib.BuilderAt 131 5 B b (.pointer (some ⟨b, 0, none⟩)) [] w' ∧ Below B w w') := Any.Builder_grow_fresh Tryz.lays241 Tryz.Builder_Extra_241 B b n w hB hbk hBw hn
end Go.Proofs

namespace Go.Proofs.YtpmjpbaeecnpiaaGreatDoor.L
open Go.RowKit Go.Proofs.YtpmjpbaeecnpiaaGreatDoorW.PrintWords Go.Proofs.YtpmjpbaeecnpiaaGreatDoorW.PrintLast Go.Proofs.YtpmjpbaeecnpiaaGreatDoorW.PrintMore
set_option linter.unusedVariables false
set_option linter.unusedSimpArgs false

theorem bld_ofF {T e B b : Nat} {bs : List Value} {w : World} {p : Value} (h : Lib.BuilderAt T e B b p bs w) : Lib.BuilderAtF T e B b p bs w := Lib.BuilderAtF.of h
set_option maxHeartbeats 2000000 in
set_option maxRecDepth 1000000 in
theorem bld_grow (B b n : Nat) (w : World) (hB : B ≤ b) (hbk : w.heap[b]? = some (.cells #[.pointer none, .slice none 0 0] 131 (0, 0))) (hBw : B ≤ w.heap.size) (hn : n ≤ 281474976710656) :
    Calls Tryz.prog 117 #[.pointer (some ⟨b, 0, none⟩), .int .i64 n] w fun e w' => e = .returned (.tuple #[]) ∧ Lib.IsBuilderF 131 5 B b [] w' ∧ Below B w w' := by
  have hbk1 : (w.setCell ⟨b, 0, none⟩ (.pointer (some ⟨b, 0, none⟩))).heap[b]? = some (.cells #[.pointer (some ⟨b, 0, none⟩), .slice none 0 0] 131 (0, 0)) := by
    simp [World.setCell, Array.getElem?_modify, hbk]
  have c1 : (w.setCell ⟨b, 0, none⟩ (.pointer (some ⟨b, 0, none⟩))).cell? ⟨b, 1, none⟩ = some (.slice none 0 0) := by rw [Lib.cell_of_heap hbk1]; rfl
  have hb1 : Below B w (w.setCell ⟨b, 0, none⟩ (.pointer (some ⟨b, 0, none⟩))) := (Below.refl B w).setCell (p := ⟨b, 0, none⟩) hB _
  have hU : Lib.IsBuilderF 131 5 B b [] (w.setCell ⟨b, 0, none⟩ (.pointer (some ⟨b, 0, none⟩))) := .inr (bld_ofF ⟨hB, .slice none 0 0, hbk1, World.ownsRow_nil _ _ _ _, by simp [Value.ownBlock]⟩)
  have c1' : (w.setCell ⟨b, 0, none⟩ (.pointer (some ⟨b, 0, none⟩))).drew.cell? ⟨b, 1, none⟩ = some (.slice none 0 0) := c1
  have mixed : Tryz.prog.follows Departure.mixedOrders = true := by kernel_rfl
  go_enter Tryz.func117, Tryz.ntmps117
  go_wp2_with (go_at_call 151; refine (bld_check_fresh b w (by rw [Lib.cell_of_heap hbk]; rfl) (by simp [World.shape?, hbk]) (Lib.frozen_of_heap hbk 0)).mono ?_; rintro e w' ⟨rfl, rfl⟩)
  go_region_o
  all_goals go_wp2_with (go_at_call 155; refine (Tryz.Builder_grow_fresh B b n (w.setCell ⟨b, 0, none⟩ (.pointer (some ⟨b, 0, none⟩))).drew hB hbk1 (by simpa [World.setCell, World.drew, -World.drew_eq] using hBw) hn).mono ?_; rintro e w' ⟨rfl, h1, h2⟩)
  all_goals first
    | (go_end0; exact ⟨rfl, .inr (bld_ofF h1), hb1.drew.trans h2⟩)
    | (go_end0; exact ⟨rfl, bld_drew hU, hb1.drew⟩)
/-- The pieces, a blank between them. -/
def joinV : List ByteArray → List UInt8
  | [] => []
  | x :: r => x.data.toList ++ r.flatMap fun y => 32 :: y.data.toList
def sumB (xs : List ByteArray) : Nat := (xs.map (·.size)).sum
theorem sumB_take {xs : List ByteArray} {k : Nat} (h : k < xs.length) : sumB (xs.take (k + 1)) = sumB (xs.take k) + xs[k].size := by
  unfold sumB
  rw [List.take_succ_eq_append_getElem h, List.map_append, List.sum_append]
  simp
theorem sumB_le (xs : List ByteArray) (k : Nat) : sumB (xs.take k) ≤ sumB xs := by
  have : sumB xs = sumB (xs.take k) + sumB (xs.drop k) := by
    unfold sumB
    rw [← List.sum_append, ← List.map_append, List.take_append_drop]
  omega
theorem joinV_step {xs : List ByteArray} {k : Nat} (h : k + 1 < xs.length) : joinV (xs.take (k + 2)) = joinV (xs.take (k + 1)) ++ 32 :: xs[k + 1].data.toList := by
  cases xs with
  | nil => simp at h
  | cons x r =>
    have hk : k < r.length := by simpa using h
    rw [List.take_succ_cons, List.take_succ_cons, List.take_succ_eq_append_getElem hk]
    simp only [joinV, List.flatMap_append, List.flatMap_cons, List.flatMap_nil, List.append_nil, List.append_assoc, List.getElem_cons_succ]
theorem joinV_len : ∀ xs : List ByteArray, (joinV xs).length ≤ sumB xs + xs.length
  | [] => by simp [joinV]
  | x :: r => by
    have hr : ∀ r : List ByteArray, (r.flatMap fun y => 32 :: y.data.toList).length ≤ sumB r + r.length := by
      intro r
      induction r with
      | nil => simp
      | cons y r ih =>
        have e : sumB (y :: r) = y.size + sumB r := by simp [sumB]
        rw [List.flatMap_cons, List.length_append, List.length_cons, List.length_cons, e, Lib.size_eq]
        omega
    have h1 := hr r
    have e : sumB (x :: r) = x.size + sumB r := by simp [sumB]
    simp only [joinV, List.length_append, List.length_cons]
    rw [e, Lib.size_eq]
    omega
set_option maxHeartbeats 4000000 in
set_option maxRecDepth 1000000 in
theorem join_many (bk c n : Nat) (xs : List ByteArray) (w : World) (hn : xs.length = n) (h2 : 2 ≤ n) (hN : n ≤ 4194304) (hcap : n ≤ c) (hbk : bk < w.heap.size)
    (hcells : ∀ (j : Nat) (h : j < xs.length), w.cell? ⟨bk, j, none⟩ = some (.string xs[j])) (hsz : sumB xs ≤ 4398046511104) :
    Calls Tryz.prog 76 #[.slice (some ⟨bk, 0, none⟩) n c, .string (⟨#[32]⟩ : ByteArray)] w fun e w' => e = .returned (.string ⟨(joinV xs).toArray⟩) ∧ Below w.heap.size w w' := by
  have HC := Aside0.mk hcells
  have HNN := Aside0.mk hn
  have HSZ := Aside0.mk hsz
  clear hcells hn hsz
  have hne0 : ((n : Int) == 0) = false := beq_eq_false_iff_ne.2 (by omega)
  have hne1 : ((n : Int) == 1) = false := beq_eq_false_iff_ne.2 (by omega)
  have HB := Aside0.mk (Below.refl w.heap.size w)
  have hdl : (2 : Int) ≤ 9223372036854775807 / ((n : Int) - 1) := Int.le_ediv_of_mul_le (by omega) (by omega)
  have hdv : ¬ (9223372036854775807 / ((n : Int) - 1) ≤ 1) := by omega
  go_enter Tryz.func76, Tryz.ntmps76
  go_wp2_with fail
  all_goals (
    go_loopg [5, 41] n (fun gg v5 v41 w' => ∃ kk : Nat, kk ≤ n ∧ n - kk ≤ gg ∧ v41 = .int .i64 (kk : Int) ∧ v5 = .int .i64 ((n - 1 + sumB (xs.take kk) : Nat) : Int) ∧ Aside0 (Below w.heap.size w w'))
    case atStart => exact ⟨0, Nat.zero_le _, by omega, rfl, by rw [show sumB (xs.take 0) = 0 from rfl]; congr 1; omega, ⟨by repeat (first | (with_reducible first | exact HB.out | apply below_alloc | apply pw_below_drewN | apply below_drew1) | exact HB.out)⟩⟩
    case round =>
      clear HB
      obtain ⟨kk, hkk, hgg, rfl, rfl, HB⟩ := hrel
      by_cases hlt : kk < n
      · have hll : kk < xs.length := by have := HNN.out; omega
        have hx := (HB.out.cell (p := ⟨bk, kk, none⟩) hbk).trans (HC.out kk hll)
        have hstep := sumB_take hll
        have hle := Nat.le_trans (sumB_le xs (kk + 1)) HSZ.out
        generalize hA1 : sumB (xs.take (kk + 1)) = A1 at hstep hle
        generalize sumB (xs.take kk) = A0 at hstep
        generalize xs[kk] = y at hx hstep
        have HA1 := Aside0.mk hA1
        clear hA1
        go_wp2
        go_roundg (n - (kk + 1))
        case measure => omega
        case rel => exact ⟨kk + 1, by omega, by omega, by go_num, by rw [HA1.out]; congr 1; omega, ⟨by repeat (first | (with_reducible first | exact HB.out | apply below_alloc | apply pw_below_drewN | apply below_drew1) | exact HB.out)⟩⟩
      · obtain rfl : n = kk := by omega
        have hT : sumB (xs.take n) = sumB xs := by rw [List.take_of_length_le (by have := HNN.out; omega)]
        rw [hT]
        have hTS := HSZ.out
        generalize hTe : sumB xs = T at hTS
        clear hTe hT
        go_wp2_with fail
        rw [show (((n - 1 : Nat) : Int) + (T : Int)) = ((n - 1 + T : Nat) : Int) by omega]
        have hsz := HB.out.size
        refine (bld_grow w.heap.size wr.heap.size (n - 1 + T) _ hsz (heap_alloc_new wr _) (by simp; omega) (by omega)).mono ?_
        rintro e w1 ⟨rfl, h1, hb1⟩
        have HB1 := Aside0.mk ((HB.out.alloc hsz _).trans hb1)
        have BB := Aside0.mk h1
        clear h1 hb1 HB
        have HB := HB1
        clear HB1
        have h0l : 0 < xs.length := by have := HNN.out; omega
        have hc0 := (HB.out.cell (p := ⟨bk, 0, none⟩) hbk).trans (HC.out 0 h0l)
        have HJL := Aside0.mk (show ∀ k, (joinV (xs.take k)).length ≤ 4398054899712 from fun k => by
          have h1 := joinV_len (xs.take k)
          have h2 := sumB_le xs k
          have h3 := HSZ.out
          have h4 := HNN.out
          have h5 : (xs.take k).length ≤ xs.length := by rw [List.length_take]; omega
          omega)
        have HJ0 := Aside0.mk (show Lib.byteCells [] ++ Lib.strCells xs[0] = Lib.byteCells (joinV (xs.take 1)) from by
          cases xs with
          | nil => exact absurd h0l (by simp)
          | cons x r => simp [joinV, Lib.strCells_eq, Lib.byteCells])
        have hl0 := HJL.out 1
        rw [← Lib.byteCells_length, ← HJ0.out, List.length_append, Lib.strCells_length] at hl0
        generalize xs[0] = x0 at hc0 HJ0 hl0
        go_wp2_with fail
        refine (bld_str_k w.heap.size wr.heap.size [] x0 w1 BB.out (by simp at hl0 ⊢; omega) HB.out.size).mono ?_
        rintro e w2 ⟨rfl, h2', hb2, _⟩
        have B2 := Aside0.mk (show Lib.IsBuilderF 131 5 w.heap.size wr.heap.size (Lib.byteCells (joinV (xs.take 1))) w2 from by rw [← HJ0.out]; exact .inr h2')
        have HB2 := Aside0.mk (HB.out.trans hb2)
        clear BB HB h2' hb2 hc0 hl0 HJ0
        have BB := B2
        have HB := HB2
        clear B2 HB2
        go_wp2_with fail
        generalize hbb : wr.heap.size = b at BB ⊢
        clear hbb
        go_loopg [65] n (fun gg v65 w' => ∃ kk : Nat, kk ≤ n - 1 ∧ n - 1 - kk ≤ gg ∧ v65 = .int .i64 (kk : Int) ∧ Aside0 (Lib.IsBuilderF 131 5 w.heap.size b (Lib.byteCells (joinV (xs.take (kk + 1)))) w') ∧ Aside0 (Below w.heap.size w w'))
        case atStart => exact ⟨0, Nat.zero_le _, by omega, rfl, ⟨by (with_reducible repeat (first | refine bld_drewN ?_ _ | apply bld_drew)); exact BB.out⟩, ⟨by repeat (first | (with_reducible first | exact HB.out | apply below_alloc | apply pw_below_drewN | apply below_drew1) | exact HB.out)⟩⟩
        case round =>
          clear BB HB
          obtain ⟨kk, hkk, hgg, rfl, BB, HB⟩ := hrel
          by_cases hlt2 : kk < n - 1
          · have hll : kk + 1 < xs.length := by have := HNN.out; omega
            have hcy := (HB.out.cell (p := ⟨bk, kk + 1, none⟩) hbk).trans (HC.out (kk + 1) hll)
            have HST := Aside0.mk (show Lib.byteCells (joinV (xs.take (kk + 1))) ++ Lib.strCells (⟨#[32]⟩ : ByteArray) ++ Lib.strCells xs[kk + 1] = Lib.byteCells (joinV (xs.take (kk + 2))) from by
              rw [joinV_step hll, Lib.strCells_eq, Lib.strCells_eq]
              simp [Lib.byteCells])
            have hl1 := HJL.out (kk + 1)
            have hl2 := HJL.out (kk + 2)
            rw [← Lib.byteCells_length] at hl1
            rw [← Lib.byteCells_length, ← HST.out, List.length_append, List.length_append, Lib.strCells_length, Lib.strCells_length] at hl2
            have h32 : (⟨#[32]⟩ : ByteArray).size = 1 := rfl
            rw [h32] at hl2
            have HL1 := Aside0.mk hl1
            have HL2 := Aside0.mk hl2
            clear hl1 hl2
            generalize xs[kk + 1] = y at hcy HST HL2
            rw [Nat.add_comm kk 1] at hcy
            go_wp2_with fail
            refine (bld_str_k w.heap.size b _ (⟨#[32]⟩ : ByteArray) _ (by (with_reducible repeat (first | refine bld_drewN ?_ _ | apply bld_drew)); exact BB.out) (by have := HL1.out; rw [h32]; omega) (below_size (by repeat (first | (with_reducible first | exact HB.out | apply below_alloc | apply pw_below_drewN | apply below_drew1) | exact HB.out)))).mono ?_
            rintro e w3 ⟨rfl, h3, hb3, _⟩
            have B3 := Aside0.mk (show Lib.IsBuilderF 131 5 w.heap.size b _ w3 from .inr h3)
            have HB3 := Aside0.mk (Below.trans (by repeat (first | (with_reducible first | exact HB.out | apply below_alloc | apply pw_below_drewN | apply below_drew1) | exact HB.out)) hb3)
            clear BB HB h3 hb3
            have HB := HB3
            clear HB3
            go_wp2_with fail
            refine (bld_str_k w.heap.size b _ y _ (by (with_reducible repeat (first | refine bld_drewN ?_ _ | apply bld_drew)); exact B3.out) (by have := HL2.out; rw [List.length_append, Lib.strCells_length, h32]; omega) (below_size (by repeat (first | (with_reducible first | exact HB.out | apply below_alloc | apply pw_below_drewN | apply below_drew1) | exact HB.out)))).mono ?_
            rintro e w4 ⟨rfl, h4, hb4, _⟩
            have BB := Aside0.mk (show Lib.IsBuilderF 131 5 w.heap.size b (Lib.byteCells (joinV (xs.take (kk + 2)))) w4 from by rw [← HST.out]; exact .inr h4)
            have HB4 := Aside0.mk (Below.trans (by repeat (first | (with_reducible first | exact HB.out | apply below_alloc | apply pw_below_drewN | apply below_drew1) | exact HB.out)) hb4)
            clear B3 HB h4 hb4
            have HB := HB4
            clear HB4
            go_wp2
            go_roundg (n - (kk + 2))
            case measure => omega
            case rel => exact ⟨kk + 1, by omega, by omega, by go_num, ⟨by (with_reducible repeat (first | refine bld_drewN ?_ _ | apply bld_drew)); exact BB.out⟩, ⟨by repeat (first | (with_reducible first | exact HB.out | apply below_alloc | apply pw_below_drewN | apply below_drew1) | exact HB.out)⟩⟩
          · obtain rfl : kk = n - 1 := by omega
            have hfull : xs.take (n - 1 + 1) = xs := List.take_of_length_le (by have := HNN.out; omega)
            rw [hfull] at BB
            go_wp2_with fail
            refine (Tryz.Builder_String_any_k w.heap.size b (joinV xs) _ (by (with_reducible repeat (first | refine bld_drewN ?_ _ | apply bld_drew)); exact BB.out) (below_size (by repeat (first | (with_reducible first | exact HB.out | apply below_alloc | apply pw_below_drewN | apply below_drew1) | exact HB.out)))).mono ?_
            rintro e w5 ⟨rfl, _, hb5, _⟩
            have HB5 := Aside0.mk (Below.trans (by repeat (first | (with_reducible first | exact HB.out | apply below_alloc | apply pw_below_drewN | apply below_drew1) | exact HB.out)) hb5)
            clear HB hb5
            have HB := HB5
            clear HB5
            go_wp2
            go_ret
            exact ⟨rfl, (by repeat (first | (with_reducible first | exact HB.out | apply below_alloc | apply pw_below_drewN | apply below_drew1) | exact HB.out))⟩)
theorem join_ev (bk c : Nat) (xs : List ByteArray) (n : Nat) (w : World) (hn : xs.length = n) (hN : n ≤ 4194304) (hcap : n ≤ c) (hbk : bk < w.heap.size)
    (hcells : ∀ (j : Nat) (h : j < xs.length), w.cell? ⟨bk, j, none⟩ = some (.string xs[j])) (hsz : sumB xs ≤ 4398046511104) :
    Calls Tryz.prog 76 #[.slice (some ⟨bk, 0, none⟩) n c, .string (⟨#[32]⟩ : ByteArray)] w fun e w' => e = .returned (.string ⟨(joinV xs).toArray⟩) ∧ Below w.heap.size w w' := by
  by_cases h2 : 2 ≤ n
  · exact join_many bk c n xs w hn h2 hN hcap hbk hcells hsz
  · cases xs with
    | nil =>
      obtain rfl : n = 0 := by simpa using hn.symm
      go_enter Tryz.func76, Tryz.ntmps76
      go_wp2
      go_ret
      exact ⟨rfl, Below.refl _ _⟩
    | cons x r =>
      have hr : r = [] := by
        cases r with
        | nil => rfl
        | cons y r => simp at hn; omega
      subst hr
      obtain rfl : n = 1 := by simpa using hn.symm
      have hc := hcells 0 (by simp)
      simp only [List.getElem_cons_zero] at hc
      have e : (⟨(joinV [x]).toArray⟩ : ByteArray) = x := by simp [joinV]
      rw [e]
      clear hcells hn hsz e
      go_enter Tryz.func76, Tryz.ntmps76
      go_wp2
      go_ret
      exact ⟨rfl, Below.refl _ _⟩
end Go.Proofs.YtpmjpbaeecnpiaaGreatDoor.L

namespace Go.Proofs
open Go.Shelf
def Tryz.lays229_ren : Go.Shelf.Ren := ⟨fun | 229 => 118 | n => n, fun | 9 => 9 | 40 => 155 | 31 => 30 | 152 => 182 | 3 => 3 | 0 => 0 | 4 => 4 | 21 => 21 | 154 => 184 | n => n, fun | n => n⟩
theorem Tryz.lays229 : Go.Proofs.Lays.n229 Tryz.prog Tryz.lays229_ren := {
  mixed := by kernel_rfl
  f229 := Tryz.func118.trans (congrArg some (by kernel_rfl))
  t0 := Tryz.underlying0
  a0 := Tryz.isAgg0
  z0 := Tryz.sizeOf0
  v0 := Tryz.zeroValue0
  t3 := Tryz.underlying3
  a3 := Tryz.isAgg3
  z3 := Tryz.sizeOf3
  v3 := Tryz.zeroValue3
  t4 := Tryz.underlying4
  a4 := Tryz.isAgg4
  z4 := Tryz.sizeOf4
  v4 := Tryz.zeroValue4
  t9 := Tryz.underlying9
  a9 := Tryz.isAgg9
  z9 := Tryz.sizeOf9
  v9 := Tryz.zeroValue9
  t21 := Tryz.underlying21
  a21 := Tryz.isAgg21
  z21 := Tryz.sizeOf21
  v21 := Tryz.zeroValue21
  t31 := Tryz.underlying30
  a31 := Tryz.isAgg30
  z31 := Tryz.sizeOf30
  v31 := Tryz.zeroValue30
  t40 := Tryz.underlying155
  a40 := Tryz.isAgg155
  z40 := Tryz.sizeOf155
  v40 := Tryz.zeroValue155
  t152 := Tryz.underlying182
  a152 := Tryz.isAgg182
  z152 := Tryz.sizeOf182
  v152 := Tryz.zeroValue182
  t154 := Tryz.underlying184
  a154 := Tryz.isAgg184
  z154 := Tryz.sizeOf184
  v154 := Tryz.zeroValue184 }
open Go.RowKit Go.Lib in
theorem Tryz.strings_FieldsFunc_runes (g : Nat) (lb : Array Value) (eg : ∀ args w, (callFunc g args).run Tryz.prog w = .ok (.enter g args) w) (p : Nat → Bool) (s : ByteArray) (w : World) (hs : s.size ≤ 4294967296) (hp : PredAtRunes Tryz.prog g lb p w) :
    Calls Tryz.prog 118 #[.string s, .func (.func g) #[] lb] w fun e w' => ∃ A, e = .returned (.slice (some ⟨A, 0, none⟩) (Lib.goFieldsP p s).length (Lib.goFieldsP p s).length) ∧ w.heap.size ≤ A ∧
      w'.ownsRow w.heap.size 9 1 (.slice (some ⟨A, 0, none⟩) (Lib.goFieldsP p s).length (Lib.goFieldsP p s).length) (Lib.goFieldsP p s).length ((Lib.goFieldsP p s).map Value.string) ∧ Below w.heap.size w w' := Any.strings_FieldsFunc_runes Tryz.lays229 g lb eg p s w hs hp (by kernel_rfl) (by kernel_rfl)
end Go.Proofs

namespace Go.Proofs.YtpmjpbaeecnpiaaGreatDoor.L
open Go.RowKit Go.Proofs.YtpmjpbaeecnpiaaGreatDoorW.PrintWords Go.Proofs.YtpmjpbaeecnpiaaGreatDoorW.PrintLast Go.Proofs.YtpmjpbaeecnpiaaGreatDoorW.PrintMore
set_option linter.unusedVariables false
set_option linter.unusedSimpArgs false

def blankN (x : Nat) : Bool := x == 32 || (x == 9 || (x == 10 || x == 13))
def wordsV (s : ByteArray) : List ByteArray := Lib.goFieldsP blankN s
theorem blank_gives (W : World) (x : Nat) (hx : x ≤ 1114111) : FnGives Tryz.prog 119 #[] #[encR x] (.bool (blankN x)) W := by
  unfold FnGives
  show Calls Tryz.prog 119 #[.int .i32 (x : Int)] W _
  by_cases c1 : x = 32
  · subst c1
    go_enter Tryz.func119, Tryz.ntmps119
    go_wp2
    go_ret
    exact ⟨rfl, 0, rfl⟩
  by_cases c2 : x = 9
  · subst c2
    go_enter Tryz.func119, Tryz.ntmps119
    go_wp2
    go_ret
    exact ⟨rfl, 0, rfl⟩
  by_cases c3 : x = 10
  · subst c3
    go_enter Tryz.func119, Tryz.ntmps119
    go_wp2
    go_ret
    exact ⟨rfl, 0, rfl⟩
  by_cases c4 : x = 13
  · subst c4
    go_enter Tryz.func119, Tryz.ntmps119
    go_wp2
    go_ret
    exact ⟨rfl, 0, rfl⟩
  have e : blankN x = false := by simp [blankN, c1, c2, c3, c4]
  have b1 : ((x : Int) == 32) = false := beq_eq_false_iff_ne.2 (by omega)
  have b2 : ((x : Int) == 9) = false := beq_eq_false_iff_ne.2 (by omega)
  have b3 : ((x : Int) == 10) = false := beq_eq_false_iff_ne.2 (by omega)
  have b4 : ((x : Int) == 13) = false := beq_eq_false_iff_ne.2 (by omega)
  rw [e]
  clear e c1 c2 c3 c4
  go_enter Tryz.func119, Tryz.ntmps119
  go_wp2
  go_ret
  exact ⟨rfl, 0, rfl⟩
/-! how many words, and how long -/
theorem spans_count (p : Nat → Bool) (s : ByteArray) : ∀ (f pos : Nat) (st : Option Nat) (acc : List (Nat × Nat)), (Lib.spansFromP p s f pos st acc).1.length ≤ acc.length + f
  | 0, _, _, acc => by simp [Lib.spansFromP]
  | f + 1, pos, st, acc => by
    unfold Lib.spansFromP
    split
    · split
      · cases st with
        | some a =>
          have := spans_count p s f (pos + (Utf8.decode s pos).2) none (acc ++ [(a, pos)])
          simp only [List.length_append, List.length_cons, List.length_nil] at this
          simp only
          omega
        | none =>
          have := spans_count p s f (pos + (Utf8.decode s pos).2) none acc
          simp only
          omega
      · cases st with
        | some a =>
          have := spans_count p s f (pos + (Utf8.decode s pos).2) (some a) acc
          simp only
          omega
        | none =>
          have := spans_count p s f (pos + (Utf8.decode s pos).2) (some pos) acc
          simp only
          omega
    · simp
theorem words_count (s : ByteArray) : (wordsV s).length ≤ s.size + 1 := by
  unfold wordsV Lib.goFieldsP Lib.spansOfP Lib.closeSpans
  rw [List.length_map]
  have := spans_count blankN s s.size 0 none []
  simp only [List.length_nil] at this
  split
  · rw [List.length_append, List.length_cons, List.length_nil]
    omega
  · omega
theorem words_size (s : ByteArray) : ∀ x ∈ wordsV s, x.size ≤ s.size := by
  intro x hx
  unfold wordsV Lib.goFieldsP at hx
  obtain ⟨y, _, rfl⟩ := List.mem_map.1 hx
  rw [ByteArray.size_extract]
  omega
theorem sumB_bound {m : Nat} : ∀ xs : List ByteArray, (∀ x ∈ xs, x.size ≤ m) → sumB xs ≤ xs.length * m
  | [], _ => by simp [sumB]
  | x :: r, h => by
    have h1 := sumB_bound r (fun y hy => h y (List.mem_cons_of_mem _ hy))
    have h2 := h x (by simp)
    have e : sumB (x :: r) = x.size + sumB r := by simp [sumB]
    rw [e, List.length_cons, Nat.add_mul]
    omega
def impl_White.f (a0 : ByteArray) (a1 : Int) : Option ByteArray := if a1 = 2 ∧ a0.size ≤ 1048576 then some ⟨(joinV (wordsV a0)).toArray⟩ else none
set_option maxHeartbeats 2000000 in
theorem words_calls (s : ByteArray) (w : World) (hs : s.size ≤ 1048576) :
    Calls Tryz.prog 77 #[.string s] w fun e w' => ∃ A, e = .returned (.slice (some ⟨A, 0, none⟩) (wordsV s).length (wordsV s).length) ∧ A < w'.heap.size ∧ (∀ (j : Nat) (h : j < (wordsV s).length), w'.cell? ⟨A, j, none⟩ = some (.string (wordsV s)[j])) ∧ Below w.heap.size w w' := by
  have eg := enters_of Tryz.func119 (by kernel_rfl) rfl
  go_enter Tryz.func77, Tryz.ntmps77
  go_wp2_with fail
  refine (Tryz.strings_FieldsFunc_runes 119 #[] eg blankN s _ (by omega) (fun W x hx _ => blank_gives W x hx)).mono ?_
  rintro e w1 ⟨A, rfl, hA, hown, hb⟩
  go_wp2
  go_ret
  have ho := World.ownsRowF_of hown
  refine ⟨A, rfl, (ho.lt A rfl).2, fun j h => ?_, hb⟩
  have := ho.cells (g := A) rfl j (.string (wordsV s)[j]) (by rw [List.getElem?_map, show Lib.goFieldsP blankN s = wordsV s from rfl, List.getElem?_eq_getElem h]; rfl)
  rw [add_plain] at this
  simpa using this
set_option maxHeartbeats 2000000 in
theorem impl_White.calls (a0 : ByteArray) (a1 : Int) (r : ByteArray) (w : World) (h : impl_White.f a0 a1 = some r) :
    Calls Tryz.prog 36 #[.string a0, .int .i64 a1] w fun e w' => e = .returned (.string r) ∧ Below w.heap.size w w' := by
  unfold impl_White.f at h
  by_cases c : a1 = 2 ∧ a0.size ≤ 1048576
  · rw [if_pos c] at h
    obtain rfl := Option.some.inj h
    clear h
    obtain ⟨rfl, hs⟩ := c
    have h1 := words_count a0
    have h2 := sumB_bound (wordsV a0) (words_size a0)
    have h3 : sumB (wordsV a0) ≤ 4398046511104 := by
      have : (wordsV a0).length * a0.size ≤ 1048577 * 1048576 := Nat.mul_le_mul (by omega) hs
      omega
    have H3 := Aside0.mk h3
    have H1 := Aside0.mk h1
    clear h1 h2 h3
    obtain ⟨n, hn⟩ : ∃ n, (wordsV a0).length = n := ⟨_, rfl⟩
    have HN := Aside0.mk hn
    clear hn
    go_enter Tryz.func36, Tryz.ntmps36
    go_wp2_with fail
    refine (words_calls a0 _ hs).mono ?_
    rintro e w1 ⟨A, rfl, hA, hc, hb⟩
    rw [HN.out]
    have HC := Aside0.mk hc
    have HB := Aside0.mk hb
    clear hc hb
    go_wp2_with fail
    refine (join_ev A n (wordsV a0) n _ HN.out (by have := H1.out; have := HN.out; omega) (Nat.le_refl _) hA HC.out H3.out).mono ?_
    rintro e w2 ⟨rfl, hb2⟩
    have hB2 := HB.out.trans (hb2.mono HB.out.size)
    go_wp2
    go_ret
    exact ⟨rfl, hB2⟩
  · rw [if_neg c] at h
    cases h
end Go.Proofs.YtpmjpbaeecnpiaaGreatDoor.L

namespace Go.Proofs.YtpmjpbaeecnpiaaGreatDoor.L
open Go.RowKit Go.Proofs.YtpmjpbaeecnpiaaGreatDoorW.PrintWords Go.Proofs.YtpmjpbaeecnpiaaGreatDoorW.PrintLast Go.Proofs.YtpmjpbaeecnpiaaGreatDoorW.PrintMore
attribute [local go_sem] max2_int min2_int max_two min_two max_three min_three max_four min_four
set_option linter.unusedVariables false
set_option linter.unusedSimpArgs false

/-! ### impl_fieldOf: function 52 -/
mutual
def impl_fieldOf.l0 : Nat → List (S65) → ByteArray → ByteArray → Int → List Int → Int → Int → Option (ByteArray × Int)
 | 0, _, _, _, _, _, _, _ => none
 | k + 1, x0, x3, x10, x11, x19, x20, x21 => if x21 < x20 then (if 0 ≤ x21 then (if x21 < (x19.length : Int) then (if x3.toList = ([] : List UInt8) then ((impl_textBelow.f x0 (rd x19 x21)).bind fun t446 => (impl_fieldOf.l0 k x0 x3 t446 (wrap64 (x11 + 1)) x19 x20 (wrap64 (x21 + 1)))) else (if 0 ≤ (rd x19 x21) then (if (rd x19 x21) < (x0.length : Int) then (impl_fieldOf.l1 k x0 x3 x10 x11 x19 x20 x21 ((rd_T65 x0 (rd x19 x21)).f3) (((rd_T65 x0 (rd x19 x21)).f3).length : Int) 0) else (none)) else (none))) else (none)) else (none)) else (if x11 = 1 then ((impl_White.f x10 2).bind fun t444 => (some (t444, x11))) else (some ((⟨#[]⟩ : ByteArray), x11)))
def impl_fieldOf.l1 : Nat → List (S65) → ByteArray → ByteArray → Int → List Int → Int → Int → List (S67) → Int → Int → Option (ByteArray × Int)
 | 0, _, _, _, _, _, _, _, _, _, _ => none
 | k + 1, x0, x3, x10, x11, x19, x20, x21, x36, x37, x38 => if x38 < x37 then (if 0 ≤ x38 then (if x38 < (x36.length : Int) then (if ((rd_T67 x36 x38).f0).toList = x3.toList then (impl_fieldOf.l1 k x0 x3 ((rd_T67 x36 x38).f1) (wrap64 (x11 + 1)) x19 x20 x21 x36 x37 (wrap64 (x38 + 1))) else (impl_fieldOf.l1 k x0 x3 x10 x11 x19 x20 x21 x36 x37 (wrap64 (x38 + 1)))) else (none)) else (none)) else (impl_fieldOf.l0 k x0 x3 x10 x11 x19 x20 (wrap64 (x21 + 1)))
end
def impl_fieldOf.f (k : Nat) (l0 : List (S65)) (a1 : Int) (l2 : List ByteArray) (a3 : ByteArray) : Option (ByteArray × Int) := (impl_led.f k l0 a1 l2 false).bind fun t441 => (impl_fieldOf.l0 k l0 a3 (⟨#[]⟩ : ByteArray) 0 t441 (t441.length : Int) 0)
set_option maxHeartbeats 8000000 in
set_option maxRecDepth 100000 in
theorem impl_fieldOf.calls (k : Nat) (A0 : Option Addr) (c0 : Nat) (l0 : List (S65)) (a1 : Int) (A2 : Option Addr) (c2 : Nat) (l2 : List ByteArray) (a3 : ByteArray) (r1 : ByteArray) (r2 : Int) (w : World) (hr0 : Kd.C k65 w A0 l0.length l0) (hc0 : l0.length ≤ c0) (hr2 : Kd.C Kd.string w A2 l2.length l2) (hc2 : l2.length ≤ c2) (h : impl_fieldOf.f k l0 a1 l2 a3 = some (r1, r2)) :
  Calls Tryz.prog 52 #[.slice A0 l0.length c0, .int .i64 a1, .slice A2 l2.length c2, .string a3] w fun e w' => e = .returned (.tuple #[.string r1, .int .i64 r2]) ∧ Below w.heap.size w w' := by
 have hu67 := Tryz.underlying67
 have HR0 := Aside0.mk hr0
 have HC0 := Aside0.mk hc0
 clear hr0 hc0
 have HR2 := Aside0.mk hr2
 have HC2 := Aside0.mk hc2
 clear hr2 hc2
 have HB := Aside0.mk (Below.refl w.heap.size w)
 have H : ((impl_led.f k l0 a1 l2 false).bind fun t441 => (impl_fieldOf.l0 k l0 a3 (⟨#[]⟩ : ByteArray) 0 t441 (t441.length : Int) 0)) = some (r1, r2) := h
 clear h
 replace H := Option.bind_eq_some_iff.mp H
 obtain ⟨t441, A50, H⟩ := H
 replace H : (impl_fieldOf.l0 k l0 a3 (⟨#[]⟩ : ByteArray) 0 t441 (t441.length : Int) 0) = some (r1, r2) := H
 have A5 := Aside0.mk A50
 clear A50
 have H' := Aside0.mk H
 clear H
 go_enter Tryz.func52, Tryz.ntmps52
 go_wp2_with (first | ((with_reducible refine gate_callee (f := 81) rfl ?_); refine goesL_ (some 19) rfl rfl Tryz.func81 dq15 rfl #[.slice A0 l0.length c0, .int .i64 a1, .slice A2 l2.length c2, .bool false] rfl dq14 ?_; (with_reducible refine (impl_led.calls k _ _ l0 a1 _ _ l2 false t441 _ ?side1 ?side2 ?side3 ?side4 A5.out).mono ?_); (case side1 => exact dq3); (case side2 => exact HC0.out); (case side3 => repeat (first | exact HR2.out | (with_reducible refine Kd.C_alloc ?_ _) | (with_reducible refine Kd.C_drewN ?_ _) | (with_reducible refine Kd.C_drew ?_))); (case side4 => exact HC2.out); rintro e w6 ⟨v442, rfl, ho0, hb⟩; refine ⟨_, rfl, ?_⟩; have n0_ := Aside0.mk (Kd.R_lower ho0 (below_size dq9)); have n1_ := Aside0.mk (below_step dq9 hb); clear HB; have HO443 := n0_; have HB := n1_; clear n0_ n1_; (try clear hb); (try clear hb2); (try clear hk); (try clear hi); (try clear ho0); obtain ⟨Ao7, co7, eo7⟩ := Kd.R_slice HO443.out; subst eo7))
 go_loopg [10, 11, 21] k (fun kq v10 v11 v21 w' => ∃ (x10_1 : ByteArray) (x11_1 : Int) (x21_1 : Int), v10 = .string x10_1 ∧ v11 = .int .i64 x11_1 ∧ v21 = .int .i64 x21_1 ∧ Aside0 (impl_fieldOf.l0 kq l0 a3 x10_1 x11_1 t441 (t441.length : Int) x21_1 = some (r1, r2)) ∧ Aside0 (kq ≤ k) ∧ Aside0 (Kd.R (Kd.int .i64) 2 w' w.heap.size (fun _ => True) (.slice Ao7 t441.length co7) t441) ∧ Aside0 (Below w.heap.size w w'))
 case atStart => exact ⟨((⟨#[]⟩ : ByteArray)), (0), (0), dq12, dq12, dq12, H', ⟨Nat.le_refl _⟩, ⟨by (with_reducible repeat (first | apply Kd.R_alloc | apply Kd.R_drewN | apply Kd.R_drew)); exact HO443.out⟩, ⟨dq9⟩⟩
 clear H'
 obtain ⟨x10_1, x11_1, x21_1, rfl, rfl, rfl, HA, HK1, HO_19, HB⟩ := hrel
 cases gk with
 | zero => exact absurd HA.out (by simp [impl_fieldOf.l0])
 | succ k1 =>
  have H := HA.out
  clear HA
  simp only [impl_fieldOf.l0] at H
  by_cases c8 : x21_1 < (t441.length : Int)
  rotate_left
  ·rw [if_neg c8] at H
   have c8b0 := decide_eq_false c8
   clear c8
   by_cases c24 : x11_1 = 1
   rotate_left
   ·rw [if_neg c24] at H
    have c24b0 := beq_eq_false_iff_ne.mpr c24
    have c24b1 := bne_iff_ne.mpr c24
    simp only [Option.some.injEq, Prod.mk.injEq] at H
    obtain ⟨rfl, rfl⟩ := H
    go_wp2
    go_ret2
    exact ⟨dq11, dq9⟩
   rw [if_pos c24] at H
   have c24b0 := beq_iff_eq.mpr c24
   have c24b1 := bne_eq_false_iff_eq.mpr c24
   clear c24
   replace H := Option.bind_eq_some_iff.mp H
   obtain ⟨t444, A250, H⟩ := H
   replace H : (some (t444, x11_1)) = some (r1, r2) := H
   have A25 := Aside0.mk A250
   clear A250
   simp only [Option.some.injEq, Prod.mk.injEq] at H
   obtain ⟨rfl, rfl⟩ := H
   go_wp2_with (first | ((with_reducible refine gate_callee (f := 36) rfl ?_); refine goesL_ (some 56) rfl rfl Tryz.func36 dq15 rfl #[.string x10_1, .int .i64 2] rfl dq14 ?_; (with_reducible refine (impl_White.calls x10_1 2 t444 _ A25.out).mono ?_); rintro e w26 ⟨rfl, hb⟩; refine ⟨_, rfl, ?_⟩; have n0_ := Aside0.mk (Kd.R_below dq104 hb); have n1_ := Aside0.mk (below_step dq9 hb); clear HO_19; clear HB; have HO_19 := n0_; have HB := n1_; clear n0_ n1_; (try clear hb); (try clear hb2); (try clear hk); (try clear hi)))
   go_ret2
   exact ⟨dq11, dq9⟩
  rw [if_pos c8] at H
  have c8b0 := decide_eq_true c8
  clear c8
  by_cases c9 : 0 ≤ x21_1
  rotate_left
  ·rw [if_neg c9] at H
   exact absurd H dq17
  rw [if_pos c9] at H
  have c9b0 := decide_eq_true c9
  clear c9
  by_cases c10 : x21_1 < (t441.length : Int)
  rotate_left
  ·rw [if_neg c10] at H
   exact absurd H dq17
  rw [if_pos c10] at H
  have c10b0 := decide_eq_true c10
  clear c10
  by_cases c11 : a3.toList = ([] : List UInt8)
  ·rw [if_pos c11] at H
   have c11b0 := beq_iff_eq.mpr c11
   have c11b1 := bne_eq_false_iff_eq.mpr c11
   clear c11
   replace H := Option.bind_eq_some_iff.mp H
   obtain ⟨t446, A120, H⟩ := H
   replace H : (impl_fieldOf.l0 k1 l0 a3 t446 (wrap64 (x11_1 + 1)) t441 (t441.length : Int) (wrap64 (x21_1 + 1))) = some (r1, r2) := H
   have A12 := Aside0.mk A120
   clear A120
   have H' := Aside0.mk H
   clear H
   have p445 : 0 ≤ (x21_1 : Int) := of_decide_eq_true dq13
   have q445 : x21_1 < (t441.length : Int) := of_decide_eq_true dq13
   obtain ⟨ad445, e445, hx445_0⟩ := Kd.at_int (Kd.R_reads' HO_19.out).2.2 x21_1 p445 q445
   cases e445
   replace p445 := eq_true p445
   replace q445 := eq_true q445
   go_wp2_with (first | ((with_reducible refine gate_callee (f := 73) rfl ?_); refine goesL_ (some 29) rfl rfl Tryz.func73 dq15 rfl #[.slice A0 l0.length c0, .int .i64 (rd t441 x21_1)] rfl dq14 ?_; (with_reducible refine (impl_textBelow.calls _ _ l0 (rd t441 x21_1) t446 _ ?side1 ?side2 A12.out).mono ?_); (case side1 => exact dq2); (case side2 => exact HC0.out); rintro e w13 ⟨rfl, hb⟩; refine ⟨_, rfl, ?_⟩; have n0_ := Aside0.mk (Kd.R_below dq104 hb); have n1_ := Aside0.mk (below_step dq9 hb); clear HO_19; clear HB; have HO_19 := n0_; have HB := n1_; clear n0_ n1_; (try clear hb); (try clear hb2); (try clear hk); (try clear hi)))
   go_roundg k1
   case measure => have := HK1.out; omega
   case rel => exact ⟨(t446), (wrap64 (x11_1 + 1)), (wrap64 (x21_1 + 1)), dq12, dq12, dq12, H', ⟨dq16⟩, ⟨dq104⟩, ⟨dq9⟩⟩
  rw [if_neg c11] at H
  have c11b0 := beq_eq_false_iff_ne.mpr c11
  have c11b1 := bne_iff_ne.mpr c11
  by_cases c14 : 0 ≤ (rd t441 x21_1)
  rotate_left
  ·rw [if_neg c14] at H
   exact absurd H dq17
  rw [if_pos c14] at H
  have c14b0 := decide_eq_true c14
  clear c14
  by_cases c15 : (rd t441 x21_1) < (l0.length : Int)
  rotate_left
  ·rw [if_neg c15] at H
   exact absurd H dq17
  rw [if_pos c15] at H
  have c15b0 := decide_eq_true c15
  clear c15
  have H' := Aside0.mk H
  clear H
  have p445 : 0 ≤ (x21_1 : Int) := of_decide_eq_true dq13
  have q445 : x21_1 < (t441.length : Int) := of_decide_eq_true dq13
  obtain ⟨ad445, e445, hx445_0⟩ := Kd.at_int (Kd.R_reads' HO_19.out).2.2 x21_1 p445 q445
  cases e445
  replace p445 := eq_true p445
  replace q445 := eq_true q445
  have p447 : 0 ≤ ((rd t441 x21_1) : Int) := of_decide_eq_true dq13
  have q447 : (rd t441 x21_1) < (l0.length : Int) := of_decide_eq_true dq13
  obtain ⟨ad447, A447_3, c447_3, e447, hx447_0, hx447_1, hx447_2, hx447_3, hl447_3, hi447_3⟩ := at_T65 HR0.out (rd t441 x21_1) p447 q447
  cases e447
  replace hx447_0 := (HB.out.cell (World.block_lt_of_cell? w _ hx447_0)).trans hx447_0
  replace hx447_1 := (HB.out.cell (World.block_lt_of_cell? w _ hx447_1)).trans hx447_1
  replace hx447_2 := (HB.out.cell (World.block_lt_of_cell? w _ hx447_2)).trans hx447_2
  replace hx447_3 := (HB.out.cell (World.block_lt_of_cell? w _ hx447_3)).trans hx447_3
  have HR447_3 := Aside0.mk hi447_3
  have HC447_3 := Aside0.mk hl447_3
  clear hi447_3 hl447_3
  replace p447 := eq_true p447
  replace q447 := eq_true q447
  go_wp2
  go_loopg [10, 11, 38] k1 (fun kq v10 v11 v38 w' => ∃ (x10_2 : ByteArray) (x11_2 : Int) (x38_2 : Int), v10 = .string x10_2 ∧ v11 = .int .i64 x11_2 ∧ v38 = .int .i64 x38_2 ∧ Aside0 (impl_fieldOf.l1 kq l0 a3 x10_2 x11_2 t441 (t441.length : Int) x21_1 ((rd_T65 l0 (rd t441 x21_1)).f3) (((rd_T65 l0 (rd t441 x21_1)).f3).length : Int) x38_2 = some (r1, r2)) ∧ Aside0 (kq ≤ k1) ∧ Aside0 (Kd.R (Kd.int .i64) 2 w' w.heap.size (fun _ => True) (.slice (some ad445) t441.length co7) t441) ∧ Aside0 (Below w.heap.size w w'))
  case atStart => exact ⟨(x10_1), (x11_1), (0), dq12, dq12, dq12, H', ⟨Nat.le_refl _⟩, ⟨dq104⟩, ⟨dq9⟩⟩
  clear H'
  try clear c8b0
  try clear c9b0
  try clear c10b0
  try clear c11
  try clear c11b0
  try clear c11b1
  try clear c14b0
  try clear c15b0
  try clear hx445_0
  try clear hx447_0
  try clear hx447_1
  try clear hx447_2
  try clear hx447_3
  try clear p445
  try clear p447
  try clear q445
  try clear q447
  obtain ⟨x10_2, x11_2, x38_2, rfl, rfl, rfl, HA, HK2, HO_19, HB⟩ := hrel
  cases gk with
  | zero => exact absurd HA.out (by simp [impl_fieldOf.l1])
  | succ k2 =>
   have H := HA.out
   clear HA
   simp only [impl_fieldOf.l1] at H
   by_cases c16 : x38_2 < (((rd_T65 l0 (rd t441 x21_1)).f3).length : Int)
   rotate_left
   ·rw [if_neg c16] at H
    have c16b0 := decide_eq_false c16
    clear c16
    have H' := Aside0.mk H
    clear H
    go_wp2
    go_roundg k2
    case measure => have := HK1.out; have := HK2.out; omega
    case rel => exact ⟨(x10_2), (x11_2), (wrap64 (x21_1 + 1)), dq12, dq12, dq12, H', ⟨dq37⟩, ⟨dq104⟩, ⟨dq9⟩⟩
   rw [if_pos c16] at H
   have c16b0 := decide_eq_true c16
   clear c16
   by_cases c17 : 0 ≤ x38_2
   rotate_left
   ·rw [if_neg c17] at H
    exact absurd H dq17
   rw [if_pos c17] at H
   have c17b0 := decide_eq_true c17
   clear c17
   by_cases c18 : x38_2 < (((rd_T65 l0 (rd t441 x21_1)).f3).length : Int)
   rotate_left
   ·rw [if_neg c18] at H
    exact absurd H dq17
   rw [if_pos c18] at H
   have c18b0 := decide_eq_true c18
   clear c18
   by_cases c19 : ((rd_T67 ((rd_T65 l0 (rd t441 x21_1)).f3) x38_2).f0).toList = a3.toList
   rotate_left
   ·rw [if_neg c19] at H
    have c19b0 := beq_eq_false_iff_ne.mpr c19
    have c19b1 := bne_iff_ne.mpr c19
    have H' := Aside0.mk H
    clear H
    have p448 : 0 ≤ (x38_2 : Int) := of_decide_eq_true dq13
    have q448 : x38_2 < (((rd_T65 l0 (rd t441 x21_1)).f3).length : Int) := of_decide_eq_true dq13
    obtain ⟨ad448, e448, hx448_0, hx448_1⟩ := at_T67 HR447_3.out x38_2 p448 q448
    cases e448
    replace hx448_0 := (HB.out.cell (World.block_lt_of_cell? w _ hx448_0)).trans hx448_0
    replace hx448_1 := (HB.out.cell (World.block_lt_of_cell? w _ hx448_1)).trans hx448_1
    replace p448 := eq_true p448
    replace q448 := eq_true q448
    go_wp2_with (first | ((with_reducible refine gate_dst (N := 15) rfl ?_); refine box_event ?hg (N := 15) ?hd (cs := #[.string (⟨#[]⟩ : ByteArray), .string (⟨#[]⟩ : ByteArray)]) (t := 67) ?hr ?_; (case hd => rfl); (case hg => rfl); (case hr => exact dq0); intro gb449 hg w22 hbox hb; have n0_ := Aside0.mk (Kd.R_below dq104 hb); have n1_ := Aside0.mk (below_step dq9 hb); have n2_ := Aside0.mk (hbox); have n3_ := Aside0.mk ((dq8 : w.heap.size ≤ gb449)); have n4_ := Aside0.mk ((dq8 : w.heap.size ≤ gb449)); clear HO_19; clear HB; have HO_19 := n0_; have HB := n1_; have BK449 := n2_; have GW449 := n3_; have GE449 := n4_; clear n0_ n1_ n2_ n3_ n4_; clear hb hbox hg; obtain ⟨⟨hcz23_0, hcz23_1⟩, hfz23_0, hfz23_1⟩ := blkC2 BK449.out))
    go_roundg k2
    case measure => have := HK1.out; have := HK2.out; omega
    case rel => exact ⟨(x10_2), (x11_2), (wrap64 (x38_2 + 1)), dq12, dq12, dq12, H', ⟨dq37⟩, ⟨dq106⟩, ⟨dq105⟩⟩
   rw [if_pos c19] at H
   have c19b0 := beq_iff_eq.mpr c19
   have c19b1 := bne_eq_false_iff_eq.mpr c19
   clear c19
   have H' := Aside0.mk H
   clear H
   have p448 : 0 ≤ (x38_2 : Int) := of_decide_eq_true dq13
   have q448 : x38_2 < (((rd_T65 l0 (rd t441 x21_1)).f3).length : Int) := of_decide_eq_true dq13
   obtain ⟨ad448, e448, hx448_0, hx448_1⟩ := at_T67 HR447_3.out x38_2 p448 q448
   cases e448
   replace hx448_0 := (HB.out.cell (World.block_lt_of_cell? w _ hx448_0)).trans hx448_0
   replace hx448_1 := (HB.out.cell (World.block_lt_of_cell? w _ hx448_1)).trans hx448_1
   replace p448 := eq_true p448
   replace q448 := eq_true q448
   go_wp2_with (first | ((with_reducible refine gate_dst (N := 15) rfl ?_); refine box_event ?hg (N := 15) ?hd (cs := #[.string (⟨#[]⟩ : ByteArray), .string (⟨#[]⟩ : ByteArray)]) (t := 67) ?hr ?_; (case hd => rfl); (case hg => rfl); (case hr => exact dq0); intro gb449 hg w20 hbox hb; have n0_ := Aside0.mk (Kd.R_below dq104 hb); have n1_ := Aside0.mk (below_step dq9 hb); have n2_ := Aside0.mk (hbox); have n3_ := Aside0.mk ((dq8 : w.heap.size ≤ gb449)); have n4_ := Aside0.mk ((dq8 : w.heap.size ≤ gb449)); clear HO_19; clear HB; have HO_19 := n0_; have HB := n1_; have BK449 := n2_; have GW449 := n3_; have GE449 := n4_; clear n0_ n1_ n2_ n3_ n4_; clear hb hbox hg; obtain ⟨⟨hcz21_0, hcz21_1⟩, hfz21_0, hfz21_1⟩ := blkC2 BK449.out))
   go_roundg k2
   case measure => have := HK1.out; have := HK2.out; omega
   case rel => exact ⟨((rd_T67 ((rd_T65 l0 (rd t441 x21_1)).f3) x38_2).f1), (wrap64 (x11_2 + 1)), (wrap64 (x38_2 + 1)), dq12, dq12, dq12, H', ⟨dq37⟩, ⟨dq106⟩, ⟨dq105⟩⟩

/-! ### impl_FieldOf: function 12 -/
def impl_FieldOf.f (k : Nat) (l0 : List (S65)) (a1 : Int) (a2 : ByteArray) : Option (ByteArray × Int) := (impl_fieldParts.f k a2).bind fun bt450 => (if bt450.2.2 = true then ((impl_isElement.f k l0 a1).bind fun t455 => (if t455 = true then ((impl_fieldOf.f k l0 a1 bt450.1 bt450.2.1).bind fun bt456 => (some (bt456.1, bt456.2))) else (some ((⟨#[]⟩ : ByteArray), (-1))))) else (some ((⟨#[]⟩ : ByteArray), (-1))))
set_option maxHeartbeats 8000000 in
set_option maxRecDepth 100000 in
theorem impl_FieldOf.calls (k : Nat) (A0 : Option Addr) (c0 : Nat) (l0 : List (S65)) (a1 : Int) (a2 : ByteArray) (r1 : ByteArray) (r2 : Int) (w : World) (hT : Gl w) (hr0 : Kd.C k65 w A0 l0.length l0) (hc0 : l0.length ≤ c0) (h : impl_FieldOf.f k l0 a1 a2 = some (r1, r2)) :
  Calls Tryz.prog 12 #[.slice A0 l0.length c0, .int .i64 a1, .string a2] w fun e w' => e = .returned (.tuple #[.string r1, .int .i64 r2]) ∧ Below w.heap.size w w' := by
 have HR0 := Aside0.mk hr0
 have HC0 := Aside0.mk hc0
 clear hr0 hc0
 have HT := Aside0.mk hT
 clear hT
 have HB := Aside0.mk (Below.refl w.heap.size w)
 have H : ((impl_fieldParts.f k a2).bind fun bt450 => (if bt450.2.2 = true then ((impl_isElement.f k l0 a1).bind fun t455 => (if t455 = true then ((impl_fieldOf.f k l0 a1 bt450.1 bt450.2.1).bind fun bt456 => (some (bt456.1, bt456.2))) else (some ((⟨#[]⟩ : ByteArray), (-1))))) else (some ((⟨#[]⟩ : ByteArray), (-1))))) = some (r1, r2) := h
 clear h
 replace H := Option.bind_eq_some_iff.mp H
 obtain ⟨⟨t450, t451, t452⟩, A40, H⟩ := H
 replace H : (if t452 = true then ((impl_isElement.f k l0 a1).bind fun t455 => (if t455 = true then ((impl_fieldOf.f k l0 a1 t450 t451).bind fun bt456 => (some (bt456.1, bt456.2))) else (some ((⟨#[]⟩ : ByteArray), (-1))))) else (some ((⟨#[]⟩ : ByteArray), (-1)))) = some (r1, r2) := H
 have A4 := Aside0.mk A40
 clear A40
 by_cases c5 : t452 = true
 rotate_left
 ·replace c5 := Bool.eq_false_iff.mpr c5
  subst c5
  have H1 : (some ((⟨#[]⟩ : ByteArray), (-1))) = some (r1, r2) := by rw [if_neg (show ¬ (false = true) by decide)] at H; exact H
  clear H
  have H := H1
  clear H1
  simp only [Option.some.injEq, Prod.mk.injEq] at H
  obtain ⟨rfl, rfl⟩ := H
  go_enter Tryz.func12, Tryz.ntmps12
  go_wp2_with (first | ((with_reducible refine gate_callee (f := 50) rfl ?_); refine goesL_ (some 13) rfl rfl Tryz.func50 dq15 rfl #[.string a2] rfl dq14 ?_; (with_reducible refine (impl_fieldParts.calls k a2 t450 t451 false _ ?side1 A4.out).mono ?_); (case side1 => exact dq4); rintro e w15 ⟨v453, rfl, ho0, hb⟩; refine ⟨_, rfl, ?_⟩; have n0_ := Aside0.mk (Kd.R_lower ho0 (below_size dq9)); have n1_ := Aside0.mk (below_step dq9 hb); clear HB; have HO454 := n0_; have HB := n1_; clear n0_ n1_; (try clear hb); (try clear hb2); (try clear hk); (try clear hi); (try clear ho0)))
  go_ret2
  exact ⟨dq11, dq9⟩
 subst c5
 have H1 : ((impl_isElement.f k l0 a1).bind fun t455 => (if t455 = true then ((impl_fieldOf.f k l0 a1 t450 t451).bind fun bt456 => (some (bt456.1, bt456.2))) else (some ((⟨#[]⟩ : ByteArray), (-1))))) = some (r1, r2) := by rw [if_pos rfl] at H; exact H
 clear H
 have H := H1
 clear H1
 replace H := Option.bind_eq_some_iff.mp H
 obtain ⟨t455, A60, H⟩ := H
 replace H : (if t455 = true then ((impl_fieldOf.f k l0 a1 t450 t451).bind fun bt456 => (some (bt456.1, bt456.2))) else (some ((⟨#[]⟩ : ByteArray), (-1)))) = some (r1, r2) := H
 have A6 := Aside0.mk A60
 clear A60
 by_cases c7 : t455 = true
 rotate_left
 ·replace c7 := Bool.eq_false_iff.mpr c7
  subst c7
  have H1 : (some ((⟨#[]⟩ : ByteArray), (-1))) = some (r1, r2) := by rw [if_neg (show ¬ (false = true) by decide)] at H; exact H
  clear H
  have H := H1
  clear H1
  simp only [Option.some.injEq, Prod.mk.injEq] at H
  obtain ⟨rfl, rfl⟩ := H
  go_enter Tryz.func12, Tryz.ntmps12
  go_wp2_with (first | ((with_reducible refine gate_callee (f := 50) rfl ?_); refine goesL_ (some 13) rfl rfl Tryz.func50 dq15 rfl #[.string a2] rfl dq14 ?_; (with_reducible refine (impl_fieldParts.calls k a2 t450 t451 true _ ?side1 A4.out).mono ?_); (case side1 => exact dq4); rintro e w13 ⟨v453, rfl, ho0, hb⟩; refine ⟨_, rfl, ?_⟩; have n0_ := Aside0.mk (Kd.R_lower ho0 (below_size dq9)); have n1_ := Aside0.mk (below_step dq9 hb); clear HB; have HO454 := n0_; have HB := n1_; clear n0_ n1_; (try clear hb); (try clear hb2); (try clear hk); (try clear hi); (try clear ho0)) | (go_at_call 51; (with_reducible refine (impl_isElement.calls k _ _ l0 a1 false _ ?side3 ?side1 ?side2 A6.out).mono ?_); (case side1 => exact dq2); (case side2 => exact HC0.out); (case side3 => exact dq4); rintro e w14 ⟨rfl, hb⟩; have n0_ := Aside0.mk (Kd.R_below dq107 hb); have n1_ := Aside0.mk (below_step dq9 hb); clear HO454; clear HB; have HO454 := n0_; have HB := n1_; clear n0_ n1_; (try clear hb); (try clear hb2); (try clear hk); (try clear hi)))
  go_ret2
  exact ⟨dq11, dq9⟩
 subst c7
 have H1 : ((impl_fieldOf.f k l0 a1 t450 t451).bind fun bt456 => (some (bt456.1, bt456.2))) = some (r1, r2) := by rw [if_pos rfl] at H; exact H
 clear H
 have H := H1
 clear H1
 replace H := Option.bind_eq_some_iff.mp H
 obtain ⟨⟨t456, t457⟩, A80, H⟩ := H
 replace H : (some (t456, t457)) = some (r1, r2) := H
 have A8 := Aside0.mk A80
 clear A80
 simp only [Option.some.injEq, Prod.mk.injEq] at H
 obtain ⟨rfl, rfl⟩ := H
 go_enter Tryz.func12, Tryz.ntmps12
 go_wp2_with (first | ((with_reducible refine gate_callee (f := 50) rfl ?_); refine goesL_ (some 13) rfl rfl Tryz.func50 dq15 rfl #[.string a2] rfl dq14 ?_; (with_reducible refine (impl_fieldParts.calls k a2 t450 t451 true _ ?side1 A4.out).mono ?_); (case side1 => exact dq4); rintro e w9 ⟨v453, rfl, ho0, hb⟩; refine ⟨_, rfl, ?_⟩; have n0_ := Aside0.mk (Kd.R_lower ho0 (below_size dq9)); have n1_ := Aside0.mk (below_step dq9 hb); clear HB; have HO454 := n0_; have HB := n1_; clear n0_ n1_; (try clear hb); (try clear hb2); (try clear hk); (try clear hi); (try clear ho0)) | (go_at_call 51; (with_reducible refine (impl_isElement.calls k _ _ l0 a1 true _ ?side3 ?side1 ?side2 A6.out).mono ?_); (case side1 => exact dq2); (case side2 => exact HC0.out); (case side3 => exact dq4); rintro e w10 ⟨rfl, hb⟩; have n0_ := Aside0.mk (Kd.R_below dq107 hb); have n1_ := Aside0.mk (below_step dq9 hb); clear HO454; clear HB; have HO454 := n0_; have HB := n1_; clear n0_ n1_; (try clear hb); (try clear hb2); (try clear hk); (try clear hi); obtain ⟨Ao11, co11, eo11⟩ := Kd.R_slice HO454.out; subst eo11) | ((with_reducible refine gate_callee (f := 52) rfl ?_); refine goesL_ (some 29) rfl rfl Tryz.func52 dq15 rfl #[.slice A0 l0.length c0, .int .i64 a1, .slice Ao11 t450.length co11, .string t451] rfl dq14 ?_; (with_reducible refine (impl_fieldOf.calls k _ _ l0 a1 _ _ t450 t451 t456 t457 _ ?side1 ?side2 ?side3 ?side4 A8.out).mono ?_); (case side1 => exact dq2); (case side2 => exact HC0.out); (case side3 => repeat (first | exact (Kd.R_reads' HO454.out).2.2 | (with_reducible refine Kd.C_alloc ?_ _) | (with_reducible refine Kd.C_drewN ?_ _) | (with_reducible refine Kd.C_drew ?_))); (case side4 => exact (Kd.R_reads' HO454.out).2.1); rintro e w12 ⟨rfl, hb⟩; refine ⟨_, rfl, ?_⟩; have n0_ := Aside0.mk (Kd.R_below dq107 hb); have n1_ := Aside0.mk (below_step dq9 hb); clear HO454; clear HB; have HO454 := n0_; have HB := n1_; clear n0_ n1_; (try clear hb); (try clear hb2); (try clear hk); (try clear hi)))
 go_ret2
 exact ⟨dq11, dq9⟩

/-! ### laws_eqAttr: function 139 -/
def laws_eqAttr.f (a0_0 : ByteArray) (a0_1 : ByteArray) (a1_0 : ByteArray) (a1_1 : ByteArray) : Option (Bool) := if a0_0.toList = a1_0.toList then (if a0_1.toList = a1_1.toList then (some true) else (some false)) else (some false)
set_option maxHeartbeats 8000000 in
set_option maxRecDepth 100000 in
theorem laws_eqAttr.calls (a0_0 : ByteArray) (a0_1 : ByteArray) (a1_0 : ByteArray) (a1_1 : ByteArray) (r : Bool) (w : World) (h : laws_eqAttr.f a0_0 a0_1 a1_0 a1_1 = some r) :
  Calls Tryz.prog 139 #[.agg #[.string a0_0, .string a0_1], .agg #[.string a1_0, .string a1_1]] w fun e w' => e = .returned (.bool r) ∧ Below w.heap.size w w' := by
 have hu67 := Tryz.underlying67
 have HB := Aside0.mk (Below.refl w.heap.size w)
 have H : (if a0_0.toList = a1_0.toList then (if a0_1.toList = a1_1.toList then (some true) else (some false)) else (some false)) = some r := h
 clear h
 by_cases c3 : a0_0.toList = a1_0.toList
 rotate_left
 ·rw [if_neg c3] at H
  have c3b0 := beq_eq_false_iff_ne.mpr c3
  have c3b1 := bne_iff_ne.mpr c3
  obtain rfl := Option.some.inj H
  go_enter Tryz.func139, Tryz.ntmps139
  go_wp2_with (first | ((with_reducible refine gate_dst (N := 2) rfl ?_); refine box_event ?hg (N := 2) ?hd (cs := #[.string a0_0, .string a0_1]) (t := 67) ?hr ?_; (case hd => rfl); (case hg => rfl); (case hr => exact dq0); intro gb458 hg w15 hbox hb; have n0_ := Aside0.mk (below_step dq9 hb); have n1_ := Aside0.mk (hbox); have n2_ := Aside0.mk ((dq8 : w.heap.size ≤ gb458)); have n3_ := Aside0.mk ((dq8 : w.heap.size ≤ gb458)); clear HB; have HB := n0_; have BK458 := n1_; have GW458 := n2_; have GE458 := n3_; clear n0_ n1_ n2_ n3_; clear hb hbox hg) | ((with_reducible refine gate_dst (N := 3) rfl ?_); refine box_event ?hg (N := 3) ?hd (cs := #[.string a1_0, .string a1_1]) (t := 67) ?hr ?_; (case hd => rfl); (case hg => rfl); (case hr => exact dq0); intro gb459 hg w16 hbox hb; have n0_ := Aside0.mk (blk_below (g := gb458) (o := .cells #[.string a0_0, .string a0_1] 67 (0, 0)) dq112 hb); have n1_ := Aside0.mk (below_step dq111 hb); have n2_ := Aside0.mk (hbox); have n3_ := Aside0.mk ((dq110 : w.heap.size ≤ gb459)); have n4_ := Aside0.mk ((dq110 : w.heap.size ≤ gb459)); have n5_ := Aside0.mk ((dq109 : gb458 ≠ gb459)); have n6_ := Aside0.mk ((dq108 : gb459 ≠ gb458)); clear BK458; clear HB; have BK458 := n0_; have HB := n1_; have BK459 := n2_; have GW459 := n3_; have GE459 := n4_; have NB458_459 := n5_; have NB459_458 := n6_; clear n0_ n1_ n2_ n3_ n4_ n5_ n6_; clear hb hbox hg; have hnb17 := NB458_459.out; have hnc17 := NB459_458.out; obtain ⟨⟨hcz18_0, hcz18_1⟩, hfz18_0, hfz18_1⟩ := blkC2 BK458.out; obtain ⟨⟨hcz19_0, hcz19_1⟩, hfz19_0, hfz19_1⟩ := blkC2 BK459.out))
  go_ret
  exact ⟨dq11, dq113⟩
 rw [if_pos c3] at H
 have c3b0 := beq_iff_eq.mpr c3
 have c3b1 := bne_eq_false_iff_eq.mpr c3
 clear c3
 by_cases c4 : a0_1.toList = a1_1.toList
 ·rw [if_pos c4] at H
  have c4b0 := beq_iff_eq.mpr c4
  have c4b1 := bne_eq_false_iff_eq.mpr c4
  clear c4
  obtain rfl := Option.some.inj H
  go_enter Tryz.func139, Tryz.ntmps139
  go_wp2_with (first | ((with_reducible refine gate_dst (N := 2) rfl ?_); refine box_event ?hg (N := 2) ?hd (cs := #[.string a0_0, .string a0_1]) (t := 67) ?hr ?_; (case hd => rfl); (case hg => rfl); (case hr => exact dq0); intro gb458 hg w5 hbox hb; have n0_ := Aside0.mk (below_step dq9 hb); have n1_ := Aside0.mk (hbox); have n2_ := Aside0.mk ((dq8 : w.heap.size ≤ gb458)); have n3_ := Aside0.mk ((dq8 : w.heap.size ≤ gb458)); clear HB; have HB := n0_; have BK458 := n1_; have GW458 := n2_; have GE458 := n3_; clear n0_ n1_ n2_ n3_; clear hb hbox hg) | ((with_reducible refine gate_dst (N := 3) rfl ?_); refine box_event ?hg (N := 3) ?hd (cs := #[.string a1_0, .string a1_1]) (t := 67) ?hr ?_; (case hd => rfl); (case hg => rfl); (case hr => exact dq0); intro gb459 hg w6 hbox hb; have n0_ := Aside0.mk (blk_below (g := gb458) (o := .cells #[.string a0_0, .string a0_1] 67 (0, 0)) dq112 hb); have n1_ := Aside0.mk (below_step dq111 hb); have n2_ := Aside0.mk (hbox); have n3_ := Aside0.mk ((dq110 : w.heap.size ≤ gb459)); have n4_ := Aside0.mk ((dq110 : w.heap.size ≤ gb459)); have n5_ := Aside0.mk ((dq109 : gb458 ≠ gb459)); have n6_ := Aside0.mk ((dq108 : gb459 ≠ gb458)); clear BK458; clear HB; have BK458 := n0_; have HB := n1_; have BK459 := n2_; have GW459 := n3_; have GE459 := n4_; have NB458_459 := n5_; have NB459_458 := n6_; clear n0_ n1_ n2_ n3_ n4_ n5_ n6_; clear hb hbox hg; have hnb7 := NB458_459.out; have hnc7 := NB459_458.out; obtain ⟨⟨hcz8_0, hcz8_1⟩, hfz8_0, hfz8_1⟩ := blkC2 BK458.out; obtain ⟨⟨hcz9_0, hcz9_1⟩, hfz9_0, hfz9_1⟩ := blkC2 BK459.out))
  go_ret
  exact ⟨dq11, dq113⟩
 rw [if_neg c4] at H
 have c4b0 := beq_eq_false_iff_ne.mpr c4
 have c4b1 := bne_iff_ne.mpr c4
 obtain rfl := Option.some.inj H
 go_enter Tryz.func139, Tryz.ntmps139
 go_wp2_with (first | ((with_reducible refine gate_dst (N := 2) rfl ?_); refine box_event ?hg (N := 2) ?hd (cs := #[.string a0_0, .string a0_1]) (t := 67) ?hr ?_; (case hd => rfl); (case hg => rfl); (case hr => exact dq0); intro gb458 hg w10 hbox hb; have n0_ := Aside0.mk (below_step dq9 hb); have n1_ := Aside0.mk (hbox); have n2_ := Aside0.mk ((dq8 : w.heap.size ≤ gb458)); have n3_ := Aside0.mk ((dq8 : w.heap.size ≤ gb458)); clear HB; have HB := n0_; have BK458 := n1_; have GW458 := n2_; have GE458 := n3_; clear n0_ n1_ n2_ n3_; clear hb hbox hg) | ((with_reducible refine gate_dst (N := 3) rfl ?_); refine box_event ?hg (N := 3) ?hd (cs := #[.string a1_0, .string a1_1]) (t := 67) ?hr ?_; (case hd => rfl); (case hg => rfl); (case hr => exact dq0); intro gb459 hg w11 hbox hb; have n0_ := Aside0.mk (blk_below (g := gb458) (o := .cells #[.string a0_0, .string a0_1] 67 (0, 0)) dq112 hb); have n1_ := Aside0.mk (below_step dq111 hb); have n2_ := Aside0.mk (hbox); have n3_ := Aside0.mk ((dq110 : w.heap.size ≤ gb459)); have n4_ := Aside0.mk ((dq110 : w.heap.size ≤ gb459)); have n5_ := Aside0.mk ((dq109 : gb458 ≠ gb459)); have n6_ := Aside0.mk ((dq108 : gb459 ≠ gb458)); clear BK458; clear HB; have BK458 := n0_; have HB := n1_; have BK459 := n2_; have GW459 := n3_; have GE459 := n4_; have NB458_459 := n5_; have NB459_458 := n6_; clear n0_ n1_ n2_ n3_ n4_ n5_ n6_; clear hb hbox hg; have hnb12 := NB458_459.out; have hnc12 := NB459_458.out; obtain ⟨⟨hcz13_0, hcz13_1⟩, hfz13_0, hfz13_1⟩ := blkC2 BK458.out; obtain ⟨⟨hcz14_0, hcz14_1⟩, hfz14_0, hfz14_1⟩ := blkC2 BK459.out))
 go_ret
 exact ⟨dq11, dq113⟩

end Go.Proofs.YtpmjpbaeecnpiaaGreatDoor.L
