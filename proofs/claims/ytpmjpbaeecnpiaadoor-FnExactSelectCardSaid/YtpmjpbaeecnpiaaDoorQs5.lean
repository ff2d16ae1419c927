/- Words and contracts for the row RowFnExactSelect: what the Go functions answer that it calls; printed by programs of the kit and of this session, and merged. -/
import Derived.Test.YtpmjpbaeecnpiaaDoorQs4
import Derived.Lib.Hide
import Derived.Outline
import Derived.Sort.Walk0
import Derived.Lib.SplitLaws
import Derived.Lib.IndexBytes
import Derived.Lib.ValidLaws
import Derived.Lib.DecodeN
import Derived.Lib.MapLaws
import Derived.Lib.TrimUEq
import Derived.ChangeArms
import Derived.ChangeSlices
import Derived.DataElems
namespace Go.Proofs.YtpmjpbaeecnpiaaDoor.L
open Go.RowKit Go.Proofs.YtpmjpbaeecnpiaaDoorW.PrintWords Go.Proofs.YtpmjpbaeecnpiaaDoorW.PrintLast Go.Proofs.YtpmjpbaeecnpiaaDoorW.PrintMore
attribute [local go_sem] max2_int min2_int max_two min_two max_three min_three max_four min_four
set_option linter.unusedVariables false
set_option linter.unusedSimpArgs false

/-! ### laws_markText: function 48 -/
def laws_markText.l0 : Nat → Int → ByteArray → Option (ByteArray)
 | 0, _, _ => none
 | k + 1, x0, x3 => if x0 > 0 then ((some (([(wrap64 (48 + (Int.tmod x0 10))) % 256] : List Int) : List Int)).bind fun y414 => (if (strOfNums y414).size + x3.size ≤ 9223372036854775807 then (laws_markText.l0 k (wrap64 (Int.tdiv x0 10)) ((strOfNums y414) ++ x3)) else (none))) else (if 1 + x3.size ≤ 9223372036854775807 then (some ((⟨#[109]⟩ : ByteArray) ++ x3)) else (none))
def laws_markText.f (k : Nat) (a0 : Int) : Option (ByteArray) := if a0 ≤ 0 then (some (⟨#[109, 48]⟩ : ByteArray)) else (laws_markText.l0 k a0 (⟨#[]⟩ : ByteArray))
set_option maxHeartbeats 8000000 in
set_option maxRecDepth 100000 in
theorem laws_markText.calls (k : Nat) (a0 : Int) (r : ByteArray) (w : World) (h : laws_markText.f k a0 = some r) :
  Calls Tryd.prog 48 #[.int .i64 a0] w fun e w' => e = .returned (.string r) ∧ Below w.heap.size w w' := by
 have HB := Aside0.mk (Below.refl w.heap.size w)
 have H : (if a0 ≤ 0 then (some (⟨#[109, 48]⟩ : ByteArray)) else (laws_markText.l0 k a0 (⟨#[]⟩ : ByteArray))) = some r := h
 clear h
 by_cases c2 : a0 ≤ 0
 ·rw [if_pos c2] at H
  have c2b0 := decide_eq_true c2
  clear c2
  obtain rfl := Option.some.inj H
  go_enter Tryd.func48, Tryd.ntmps48
  go_wp2
  go_ret
  exact ⟨dq25, dq23⟩
 ·rw [if_neg c2] at H
  have c2b0 := decide_eq_false c2
  clear c2
  have H' := Aside0.mk H
  clear H
  go_enter Tryd.func48, Tryd.ntmps48
  go_wp2
  go_loopg [0, 3] k (fun kq v0 v3 w' => ∃ (x0_1 : Int) (x3_1 : ByteArray), v0 = .int .i64 x0_1 ∧ v3 = .string x3_1 ∧ Aside0 (laws_markText.l0 kq x0_1 x3_1 = some r) ∧ Aside0 (kq ≤ k) ∧ Aside0 (Below w.heap.size w w'))
  case atStart => exact ⟨(a0), ((⟨#[]⟩ : ByteArray)), dq26, dq26, H', ⟨Nat.le_refl _⟩, ⟨dq23⟩⟩
  case round =>
   clear H'
   try clear c2
   try clear c2b0
   try clear p2
   obtain ⟨x0_1, x3_1, rfl, rfl, HA, HK1, HB⟩ := hrel
   cases gk with
   | zero => exact absurd HA.out (by simp [laws_markText.l0])
   | succ k1 =>
    have H := HA.out
    clear HA
    simp only [laws_markText.l0] at H
    by_cases c3 : x0_1 > 0
    ·rw [if_pos c3] at H
     have c3b0 : decide (0 < x0_1) = true := decide_eq_true c3
     clear c3
     obtain ⟨y414, hy414⟩ : ∃ y_ : List Int, y_ = (([(wrap64 (48 + (Int.tmod x0_1 10))) % 256] : List Int)) := ⟨_, rfl⟩
     replace H : (if (strOfNums y414).size + x3_1.size ≤ 9223372036854775807 then (laws_markText.l0 k1 (wrap64 (Int.tdiv x0_1 10)) ((strOfNums y414) ++ x3_1)) else (none)) = some r := by first | (rw [hy414]; with_reducible exact H) | (have H2_ := (Option.bind_some _ _).symm.trans H; rw [hy414]; with_reducible exact H2_) | (have H2_ := (Option.bind_some _ _).symm.trans H; with_reducible exact H2_) | with_reducible exact H | (rw [hy414]; exact H) | exact H
     have Ny414 := Aside0.mk hy414
     clear hy414
     by_cases c4 : (strOfNums y414).size + x3_1.size ≤ 9223372036854775807
     ·rw [if_pos c4] at H
      have c4b0 := eq_true c4
      have c4b1 := decide_eq_true c4
      try have c4b2 : (9223372036854775807 < (strOfNums y414).size + x3_1.size) = False := eq_false (Nat.not_lt.2 c4)
      have H' := Aside0.mk H
      clear H
      go_wp2_with (first | ((with_reducible refine gate_dst (N := 12) rfl ?_); refine Kd.R_lit (Kd.int .u8) _ 5 ?hg (N := 12) ?hd (xs := ([(wrap64 (48 + (Int.tmod x0_1 10))) % 256] : List Int)) (inner := [.int .u8 ((wrap64 (48 + (Int.tmod x0_1 10))) % 256)]) (ok := fun _ => True) (okp := fun _ => True) ?hr ?hp (fun _ hk => hk) trivial (Below.refl _ _) (Nat.le_refl _) dq31 ?_; (case hd => rfl); (case hg => rfl); (case hr => exact dq0); (case hp => exact (Reps.one (show Kd.M (Kd.int .u8) _ _ _ ((wrap64 (48 + (Int.tmod x0_1 10))) % 256) [.int .u8 ((wrap64 (48 + (Int.tmod x0_1 10))) % 256)] from rfl) (Reps.none _ _))); intro v415 w5 ho6 hb hg_ hnew_; clear hg_ hnew_; (first | rw [← Ny414.out] at ho6 | (simp only [Int.reduceToNat] at ho6; rw [← Ny414.out] at ho6)); have n0_ := Aside0.mk (Kd.R_lower ho6 (below_size dq23)); have n1_ := Aside0.mk (below_step dq23 hb); clear HB; have HO416 := n0_; have HB := n1_; clear n0_ n1_; clear hb ho6; have hcv7 := own_string (P := Tryd.prog) Tryd.underlying33 Tryd.underlying5 Tryd.underlying9 (Kd.own_of_R HO416.out)))
      go_roundg k1
      case measure => have := HK1.out; omega
      case rel => exact ⟨(wrap64 (Int.tdiv x0_1 10)), ((strOfNums y414) ++ x3_1), dq26, dq26, H', ⟨dq30⟩, ⟨dq23⟩⟩
     ·rw [if_neg c4] at H
      exact absurd H dq31
    ·rw [if_neg c3] at H
     have c3b0 : decide (0 < x0_1) = false := decide_eq_false c3
     clear c3
     by_cases c8 : 1 + x3_1.size ≤ 9223372036854775807
     ·rw [if_pos c8] at H
      have c8b0 := eq_true c8
      have c8b1 := decide_eq_true c8
      try have c8b2 : (9223372036854775807 < 1 + x3_1.size) = False := eq_false (Nat.not_lt.2 c8)
      obtain rfl := Option.some.inj H
      go_wp2
      go_ret
      exact ⟨dq25, dq23⟩
     ·rw [if_neg c8] at H
      exact absurd H dq31

/-! ### laws_markAttrS: function 49 -/
def laws_markAttrS.l0 : Nat → List (S46) → Int → Int → Option (Int × (List (S46)))
 | 0, _, _, _ => none
 | k + 1, x0, x1, x5 => if x5 < (x0.length : Int) then ((laws_markText.f k x1).bind fun t417 => (if 0 ≤ x5 then ((some (x0.set (x5 : Int).toNat (⟨t417, (rd_T46 x0 x5).f1⟩ : S46) : List (S46))).bind fun y418 => ((laws_markText.f k (wrap64 (x1 + 1))).bind fun t419 => (laws_markAttrS.l0 k (y418.set (x5 : Int).toNat (⟨(rd_T46 y418 x5).f0, t419⟩ : S46)) (wrap64 ((wrap64 (x1 + 1)) + 1)) (wrap64 (x5 + 1))))) else (none))) else (some (x1, x0))
def laws_markAttrS.f (k : Nat) (l0 : List (S46)) (a1 : Int) : Option (Int × (List (S46))) := laws_markAttrS.l0 k l0 a1 0
set_option maxHeartbeats 8000000 in
set_option maxRecDepth 100000 in
theorem laws_markAttrS.calls (k : Nat) (P0_ : Nat → Prop) (u9000_ : Value) (l0 : List (S46)) (a1 : Int) (r1 : Int) (r2 : List (S46)) (w0 w : World) (hB : Below w0.heap.size w0 w) (ho0 : Kd.R k46 46 w w0.heap.size P0_ u9000_ l0) (h : laws_markAttrS.f k l0 a1 = some (r1, r2)) :
  Calls Tryd.prog 49 #[u9000_, .int .i64 a1] w fun e w' => e = .returned (.int .i64 r1) ∧ Kd.R k46 46 w' w0.heap.size (fun k_ => (P0_ k_ ∨ w.heap.size ≤ k_)) u9000_ r2 ∧ Below w0.heap.size w0 w' ∧ Kept w w' (fun k_ => P0_ k_) := by
 have HO0 := Aside0.mk (show Kd.R k46 46 w w0.heap.size (fun k_ => (P0_ k_ ∨ w.heap.size ≤ k_)) u9000_ l0 from Kd.R_mono ho0 (fun k_ hk => (.inl hk)))
 have HK := Aside0.mk (Kept.refl w (fun k_ => P0_ k_))
 have HW0 := Aside0.mk hB.size
 have HB := Aside0.mk hB
 clear hB
 have H : (laws_markAttrS.l0 k l0 a1 0) = some (r1, r2) := h
 clear h
 have H' := Aside0.mk H
 clear H
 go_enter Tryd.func49, Tryd.ntmps49
 go_wp2
 go_loopg [1, 5] k (fun kq v1 v5 w' => ∃ (x0_1 : List (S46)) (x1_1 : Int) (x5_1 : Int), v1 = .int .i64 x1_1 ∧ v5 = .int .i64 x5_1 ∧ Aside0 (laws_markAttrS.l0 kq x0_1 x1_1 x5_1 = some (r1, r2)) ∧ Aside0 (kq ≤ k) ∧ Aside0 (Kd.R k46 46 w' w0.heap.size (fun k_ => (P0_ k_ ∨ w.heap.size ≤ k_)) u9000_ x0_1) ∧ Aside0 (Kept w w' (fun k_ => P0_ k_)) ∧ Aside0 (Below w0.heap.size w0 w'))
 case atStart => exact ⟨(l0), (a1), (0), dq26, dq26, H', ⟨Nat.le_refl _⟩, ⟨by (with_reducible repeat (first | apply Kd.R_alloc | apply Kd.R_drewN | apply Kd.R_drew)); exact HO0.out⟩, ⟨dq143⟩, ⟨dq23⟩⟩
 case round =>
  clear H'
  try clear p2
  obtain ⟨x0_1, x1_1, x5_1, rfl, rfl, HA, HK1, HO_0, HK, HB⟩ := hrel
  cases gk with
  | zero => exact absurd HA.out (by simp [laws_markAttrS.l0])
  | succ k1 =>
   have H := HA.out
   clear HA
   simp only [laws_markAttrS.l0] at H
   by_cases c3 : x5_1 < (x0_1.length : Int)
   ·rw [if_pos c3] at H
    have c3b0 := decide_eq_true c3
    clear c3
    replace H := Option.bind_eq_some_iff.mp H
    obtain ⟨t417, A40, H⟩ := H
    replace H : (if 0 ≤ x5_1 then ((some (x0_1.set (x5_1 : Int).toNat (⟨t417, (rd_T46 x0_1 x5_1).f1⟩ : S46) : List (S46))).bind fun y418 => ((laws_markText.f k1 (wrap64 (x1_1 + 1))).bind fun t419 => (laws_markAttrS.l0 k1 (y418.set (x5_1 : Int).toNat (⟨(rd_T46 y418 x5_1).f0, t419⟩ : S46)) (wrap64 ((wrap64 (x1_1 + 1)) + 1)) (wrap64 (x5_1 + 1))))) else (none)) = some (r1, r2) := H
    have A4 := Aside0.mk A40
    clear A40
    by_cases c5 : 0 ≤ x5_1
    ·rw [if_pos c5] at H
     have c5b0 := decide_eq_true c5
     clear c5
     obtain ⟨y418, hy418⟩ : ∃ y_ : List (S46), y_ = (x0_1.set (x5_1 : Int).toNat (⟨t417, (rd_T46 x0_1 x5_1).f1⟩ : S46)) := ⟨_, rfl⟩
     replace H : ((laws_markText.f k1 (wrap64 (x1_1 + 1))).bind fun t419 => (laws_markAttrS.l0 k1 (y418.set (x5_1 : Int).toNat (⟨(rd_T46 y418 x5_1).f0, t419⟩ : S46)) (wrap64 ((wrap64 (x1_1 + 1)) + 1)) (wrap64 (x5_1 + 1)))) = some (r1, r2) := by first | (rw [hy418]; with_reducible exact H) | (have H2_ := (Option.bind_some _ _).symm.trans H; rw [hy418]; with_reducible exact H2_) | (have H2_ := (Option.bind_some _ _).symm.trans H; with_reducible exact H2_) | with_reducible exact H | (rw [hy418]; exact H) | exact H
     have Ny418 := Aside0.mk hy418
     clear hy418
     replace H := Option.bind_eq_some_iff.mp H
     obtain ⟨t419, A70, H⟩ := H
     replace H : (laws_markAttrS.l0 k1 (y418.set (x5_1 : Int).toNat (⟨(rd_T46 y418 x5_1).f0, t419⟩ : S46)) (wrap64 ((wrap64 (x1_1 + 1)) + 1)) (wrap64 (x5_1 + 1))) = some (r1, r2) := H
     have A7 := Aside0.mk A70
     clear A70
     obtain ⟨y420, hy420⟩ : ∃ y_ : List (S46), y_ = (y418.set (x5_1 : Int).toNat (⟨(rd_T46 y418 x5_1).f0, t419⟩ : S46)) := ⟨_, rfl⟩
     replace H : (laws_markAttrS.l0 k1 y420 (wrap64 ((wrap64 (x1_1 + 1)) + 1)) (wrap64 (x5_1 + 1))) = some (r1, r2) := by first | (rw [hy420]; with_reducible exact H) | (have H2_ := (Option.bind_some _ _).symm.trans H; rw [hy420]; with_reducible exact H2_) | (have H2_ := (Option.bind_some _ _).symm.trans H; with_reducible exact H2_) | with_reducible exact H | (rw [hy420]; exact H) | exact H
     have Ny420 := Aside0.mk hy420
     clear hy420
     have H' := Aside0.mk H
     clear H
     obtain ⟨Ao9, co9, eo9⟩ := Kd.R_slice HO_0.out
     subst eo9
     go_wp2_with (first | ((with_reducible refine gate_callee (f := 48) rfl ?_); refine goesL_ (some 15) rfl rfl Tryd.func48 dq29 rfl #[.int .i64 x1_1] rfl dq28 ?_; (with_reducible refine (laws_markText.calls k1 x1_1 t417 _ A4.out).mono ?_); rintro e w10 ⟨rfl, hb⟩; refine ⟨_, rfl, ?_⟩; have n0_ := Aside0.mk (Kd.R_below dq144 hb); have n1_ := Aside0.mk (Kept.below (S := (fun k_ => P0_ k_)) dq143 hb); have n2_ := Aside0.mk (below_step dq23 hb); clear HO_0; clear HK; clear HB; have HO_0 := n0_; have HK := n1_; have HB := n2_; clear n0_ n1_ n2_; (try clear hb); (try clear hb2); (try clear hk); (try clear hi); have p6 : 0 ≤ (x5_1 : Int) := of_decide_eq_true dq27; have q6 : (x5_1 : Int) < ((x0_1.length : Int) : Int) := of_decide_eq_true dq27; obtain ⟨go6, co6, eo6, gb6, gl6, cl6, HG6⟩ := Kd.R_form HO_0.out dq34; (first | cases eo6 | (injection eo6 with ea_ en_ ec_; (first | subst ea_ | (injection ea_ with ea_; subst ea_)); subst ec_; clear en_)); have GB6 := Aside0.mk gb6; have GG6 := Aside0.mk HG6; clear gb6 gl6 HG6; have HMgo6 := Aside0.mk (show (P0_ go6 ∨ w.heap.size ≤ go6) from (HO_0.out.1 _ rfl)); obtain ⟨ce6, hcl6, hM6, hcc6, hfr6⟩ := Kd.R_elem HO_0.out z46 (x5_1 : Int) p6 q6; obtain rfl := k46_openM hM6; have hx6_0 : w10.cell? ⟨go6, (x5_1 : Int).toNat * 2, none⟩ = some (.string ((rd_T46 x0_1 x5_1).f0)) := hcc6 0 _ rfl; have hx6_1 : w10.cell? ⟨go6, (x5_1 : Int).toNat * 2 + 1, none⟩ = some (.string ((rd_T46 x0_1 x5_1).f1)) := hcc6 1 _ rfl; have hf6_0 : w10.frozen? ⟨go6, (x5_1 : Int).toNat * 2, none⟩ = false := hfr6 0; have hf6_1 : w10.frozen? ⟨go6, (x5_1 : Int).toNat * 2 + 1, none⟩ = false := hfr6 1; clear hcl6 hcc6 hfr6 hM6; replace p6 := eq_true p6; replace q6 := eq_true q6; have HX11 := Aside0.mk (show Kd.R k46 46 w10 w0.heap.size (fun k_ => (P0_ k_ ∨ w.heap.size ≤ k_)) (.slice (some ⟨go6, 0, none⟩) x0_1.length co9) x0_1 from dq144); obtain ⟨ce11, hcl11, hM11, hcc11, hfr11⟩ := Kd.R_elem HX11.out z46 (x5_1 : Int) (of_decide_eq_true dq27) (by have h_ : (x5_1 : Int) < ((x0_1.length : Int) : Int) := of_decide_eq_true dq27; first | exact h_ | (have e_ := (Kd.R_reads' HO_0.out).1; omega) | simpa using h_); obtain rfl := k46_openM hM11; have HP11 := Kd.R_seg HX11.out (x5_1 : Int) (of_decide_eq_true dq27) (by have h_ : (x5_1 : Int) < ((x0_1.length : Int) : Int) := of_decide_eq_true dq27; first | exact h_ | (have e_ := (Kd.R_reads' HO_0.out).1; omega) | simpa using h_) (seg := [.string t417]) (j := 0) hcl11 hcc11 (show 1 ≤ 2 from by decide) (x' := (⟨t417, (rd_T46 x0_1 x5_1).f1⟩ : S46)) (k46_mkM _ _ _ (⟨t417, (rd_T46 x0_1 x5_1).f1⟩ : S46) ) (fun _ hk => hk); have hx11_0 := hcc11 0 _ rfl; (try simp only [show (k46).sz = 2 from rfl, Nat.mul_one, Nat.add_zero] at hx11_0); have hf11_0 := hfr11 0; (try simp only [show (k46).sz = 2 from rfl, Nat.mul_one, Nat.add_zero] at hf11_0); clear hcl11 hcc11 hfr11 hM11) | ((with_reducible refine gate_store (t := 9) (p := 17) rfl ?_); refine store_event (t := 9) (p := 17) (v := ?vo_w12) (w1 := (w10.setCell ⟨go6, (x5_1 : Int).toNat * 2, none⟩ (.string t417))) ?hg ?ho ?hn ?hr ?_; (case ho => rfl); (case hg => rfl); (case hn => rfl); (case hr => exact dq0); intro w12 hw; have hg : w10.grownBy w12 (some go6) := (by rw [hw]; exact HP11.2); have hp_ : Kd.R k46 46 w12 w0.heap.size (fun k_ => (P0_ k_ ∨ w.heap.size ≤ k_)) (.slice (some ⟨go6, 0, none⟩) x0_1.length co9) y418 := (by rw [hw, Ny418.out]; exact HP11.1); clear HP11; have n0_ := Aside0.mk (hp_); have n1_ := Aside0.mk ((by rw [hw]; exact below_set (HB.out) GB6.out : Below w0.heap.size w0 w12)); have n2_ := Aside0.mk (Kept.of_grown (S := (fun k_ => P0_ k_)) hg dq143 (fun k_ e_ => (HO_0.out.1 k_ e_))); clear HO_0; clear HB; clear HK; have HO_0 := n0_; have HB := n1_; have HK := n2_; clear n0_ n1_ n2_; clear hg hw hp_) | ((with_reducible refine gate_callee (f := 48) rfl ?_); refine goesL_ (some 23) rfl rfl Tryd.func48 dq29 rfl #[.int .i64 (wrap64 (x1_1 + 1))] rfl dq28 ?_; (with_reducible refine (laws_markText.calls k1 (wrap64 (x1_1 + 1)) t419 _ A7.out).mono ?_); rintro e w13 ⟨rfl, hb⟩; refine ⟨_, rfl, ?_⟩; have n0_ := Aside0.mk (Kd.R_below dq144 hb); have n1_ := Aside0.mk (Kept.below (S := (fun k_ => P0_ k_)) dq143 hb); have n2_ := Aside0.mk (below_step dq23 hb); clear HO_0; clear HK; clear HB; have HO_0 := n0_; have HK := n1_; have HB := n2_; clear n0_ n1_ n2_; (try clear hb); (try clear hb2); (try clear hk); (try clear hi); have p8 : 0 ≤ (x5_1 : Int) := of_decide_eq_true dq27; have q8 : (x5_1 : Int) < ((x0_1.length : Int) : Int) := of_decide_eq_true dq27; obtain ⟨ce8, hcl8, hM8, hcc8, hfr8⟩ := Kd.R_elem HO_0.out z46 (x5_1 : Int) p8 q8; obtain rfl := k46_openM hM8; have hx8_0 : w13.cell? ⟨go6, (x5_1 : Int).toNat * 2, none⟩ = some (.string ((rd_T46 y418 x5_1).f0)) := hcc8 0 _ rfl; have hx8_1 : w13.cell? ⟨go6, (x5_1 : Int).toNat * 2 + 1, none⟩ = some (.string ((rd_T46 y418 x5_1).f1)) := hcc8 1 _ rfl; have hf8_0 : w13.frozen? ⟨go6, (x5_1 : Int).toNat * 2, none⟩ = false := hfr8 0; have hf8_1 : w13.frozen? ⟨go6, (x5_1 : Int).toNat * 2 + 1, none⟩ = false := hfr8 1; clear hcl8 hcc8 hfr8 hM8; replace p8 := eq_true p8; replace q8 := eq_true q8; have HX14 := Aside0.mk (show Kd.R k46 46 w13 w0.heap.size (fun k_ => (P0_ k_ ∨ w.heap.size ≤ k_)) (.slice (some ⟨go6, 0, none⟩) x0_1.length co9) y418 from dq144); obtain ⟨ce14, hcl14, hM14, hcc14, hfr14⟩ := Kd.R_elem HX14.out z46 (x5_1 : Int) (of_decide_eq_true dq27) (by have h_ : (x5_1 : Int) < ((x0_1.length : Int) : Int) := of_decide_eq_true dq27; first | exact h_ | (have e_ := (Kd.R_reads' HO_0.out).1; omega) | simpa using h_); obtain rfl := k46_openM hM14; have HP14 := Kd.R_seg HX14.out (x5_1 : Int) (of_decide_eq_true dq27) (by have h_ : (x5_1 : Int) < ((x0_1.length : Int) : Int) := of_decide_eq_true dq27; first | exact h_ | (have e_ := (Kd.R_reads' HO_0.out).1; omega) | simpa using h_) (seg := [.string t419]) (j := 1) hcl14 hcc14 (show 2 ≤ 2 from by decide) (x' := (⟨(rd_T46 y418 x5_1).f0, t419⟩ : S46)) (k46_mkM _ _ _ (⟨(rd_T46 y418 x5_1).f0, t419⟩ : S46) ) (fun _ hk => hk); have hx14_1 := hcc14 1 _ rfl; (try simp only [show (k46).sz = 2 from rfl, Nat.mul_one, Nat.add_zero] at hx14_1); have hf14_1 := hfr14 1; (try simp only [show (k46).sz = 2 from rfl, Nat.mul_one, Nat.add_zero] at hf14_1); clear hcl14 hcc14 hfr14 hM14) | ((with_reducible refine gate_store (t := 9) (p := 25) rfl ?_); refine store_event (t := 9) (p := 25) (v := ?vo_w15) (w1 := (w13.setCell ⟨go6, (x5_1 : Int).toNat * 2 + 1, none⟩ (.string t419))) ?hg ?ho ?hn ?hr ?_; (case ho => rfl); (case hg => rfl); (case hn => rfl); (case hr => exact dq0); intro w15 hw; have hg : w13.grownBy w15 (some go6) := (by rw [hw]; exact HP14.2); have hp_ : Kd.R k46 46 w15 w0.heap.size (fun k_ => (P0_ k_ ∨ w.heap.size ≤ k_)) (.slice (some ⟨go6, 0, none⟩) x0_1.length co9) y420 := (by rw [hw, Ny420.out]; exact HP14.1); clear HP14; have n0_ := Aside0.mk (hp_); have n1_ := Aside0.mk ((by rw [hw]; exact below_set (HB.out) GB6.out : Below w0.heap.size w0 w15)); have n2_ := Aside0.mk (Kept.of_grown (S := (fun k_ => P0_ k_)) hg dq143 (fun k_ e_ => (HO_0.out.1 k_ e_))); clear HO_0; clear HB; clear HK; have HO_0 := n0_; have HB := n1_; have HK := n2_; clear n0_ n1_ n2_; clear hg hw hp_))
     go_roundg k1
     case measure => have := HK1.out; omega
     case rel => exact ⟨(y420), (wrap64 ((wrap64 (x1_1 + 1)) + 1)), (wrap64 (x5_1 + 1)), dq26, dq26, H', ⟨dq30⟩, ⟨dq144⟩, ⟨dq143⟩, ⟨dq23⟩⟩
    ·rw [if_neg c5] at H
     exact absurd H dq31
   ·rw [if_neg c3] at H
    have c3b0 := decide_eq_false c3
    clear c3
    simp only [Option.some.injEq, Prod.mk.injEq] at H
    obtain ⟨rfl, rfl⟩ := H
    obtain ⟨Ao16, co16, eo16⟩ := Kd.R_slice HO_0.out
    subst eo16
    go_wp2
    go_ret
    exact ⟨dq25, dq144, dq23, dq143⟩

end Go.Proofs.YtpmjpbaeecnpiaaDoor.L

namespace Go.Proofs.YtpmjpbaeecnpiaaDoor.L
open Go.RowKit Go.Proofs.YtpmjpbaeecnpiaaDoorW.PrintWords Go.Proofs.YtpmjpbaeecnpiaaDoorW.PrintLast Go.Proofs.YtpmjpbaeecnpiaaDoorW.PrintMore
set_option linter.unusedVariables false
set_option linter.unusedSimpArgs false

abbrev SIt : Type := S39
def laws_markItemS.go (k : Nat) : List SIt → Int → Option Int
  | [], a => some a
  | x :: l, a => (laws_markText.f k (wrap64 (a + 1))).bind fun _ => (laws_markText.f k (wrap64 (wrap64 (a + 1) + 1))).bind fun _ => (laws_markAttrS.f k x.f3 (wrap64 (wrap64 (wrap64 (a + 1) + 1) + 1))).bind fun p => laws_markItemS.go k l p.1
def laws_markItemS.f (k : Nat) (l0 : List SIt) (a1 : Int) : Option Int := laws_markItemS.go k l0 a1
theorem kept_set {w W : World} {S : Nat → Prop} {g j : Nat} {v : Value} (h : Kept w W S) (hg : S g ∨ w.heap.size ≤ g) : Kept w (W.setCell ⟨g, j, none⟩ v) S :=
  ⟨by have := h.1; simpa [World.setCell] using this, fun i hi hS => (Below.heap_setCell W ⟨g, j, none⟩ v i (fun e => by
    have e : i = g := e
    subst e
    exact hg.elim hS (fun h => by omega))).trans (h.2 i hi hS)⟩
theorem drop_set {α : Type} (l : List α) (i : Nat) (x : α) : (l.set i x).drop (i + 1) = l.drop (i + 1) := by
  rw [List.drop_set, if_pos (by omega)]
/-- One item of a row of one's own: its cells, and what a store into one of them leaves. -/
theorem item_at {W : World} {base g n cap : Nat} {ok : Nat → Prop} {cur : List SIt} (HS : Kd.S k39 39 W base ok (.slice (some ⟨g, 0, none⟩) n cap) cur) (i : Nat) (hi : i < n) (hc : i < cur.length) :
    ∃ v3, W.cell? ⟨g, i * 4, none⟩ = some (.int .i64 cur[i].f0) ∧ W.cell? ⟨g, i * 4 + 1, none⟩ = some (.string cur[i].f1) ∧ W.cell? ⟨g, i * 4 + 2, none⟩ = some (.string cur[i].f2) ∧ W.cell? ⟨g, i * 4 + 3, none⟩ = some v3 ∧ (∀ j, W.frozen? ⟨g, i * 4 + j, none⟩ = false) ∧
      (∀ z, Kd.S k39 39 (W.setCell ⟨g, i * 4, none⟩ (.int .i64 z)) base ok (.slice (some ⟨g, 0, none⟩) n cap) (cur.set i ⟨z, cur[i].f1, cur[i].f2, cur[i].f3⟩)) ∧
      (∀ z, Kd.S k39 39 (W.setCell ⟨g, i * 4 + 1, none⟩ (.string z)) base ok (.slice (some ⟨g, 0, none⟩) n cap) (cur.set i ⟨cur[i].f0, z, cur[i].f2, cur[i].f3⟩)) ∧
      (∀ z, Kd.S k39 39 (W.setCell ⟨g, i * 4 + 2, none⟩ (.string z)) base ok (.slice (some ⟨g, 0, none⟩) n cap) (cur.set i ⟨cur[i].f0, cur[i].f1, z, cur[i].f3⟩)) ∧
      ∃ oki, (∀ j, oki j → ok j) ∧ k46.R 46 W base oki v3 cur[i].f3 ∧ (∀ (w1 : World) (r : List S46), (∀ j, ok j → ¬ oki j → j < W.heap.size → w1.heap[j]? = W.heap[j]?) → k46.R 46 w1 base (fun j => oki j ∨ W.heap.size ≤ j) v3 r → (∀ j, W.heap.size ≤ j → ok j) → Kd.S k39 39 w1 base ok (.slice (some ⟨g, 0, none⟩) n cap) (cur.set i ⟨cur[i].f0, cur[i].f1, cur[i].f2, r⟩)) := by
  have h0 : (0 : Int) ≤ (i : Int) := by omega
  have h1 : (i : Int) < n := by omega
  have ex : cur.getD (i : Int).toNat z39 = cur[i] := by rw [Int.toNat_natCast, List.getD_eq_getElem?_getD, List.getElem?_eq_getElem hc]; rfl
  obtain ⟨oki, ce, hcl, hM, hcc, hfr, hok, hH⟩ := Kd.S_elem HS z39 (i : Int) h0 h1
  rw [ex] at hM
  simp only [Int.toNat_natCast] at hcc hfr
  obtain ⟨v3, rfl, hR⟩ := k39_openM hM
  have S0 := fun (seg : Value) (j : Nat) (x' : SIt) (hj : j + [seg].length ≤ (k39).sz) (hM' : (k39).M W base oki x' (([.int .i64 cur[i].f0, .string cur[i].f1, .string cur[i].f2, v3] : List Value).take j ++ [seg] ++ ([.int .i64 cur[i].f0, .string cur[i].f1, .string cur[i].f2, v3] : List Value).drop (j + [seg].length))) => (Kd.S_seg0 hH h0 h1 (seg := [seg]) (j := j) hj (x' := x') hM' (fun _ hk => hk)).1
  refine ⟨v3, hcc 0 _ rfl, hcc 1 _ rfl, hcc 2 _ rfl, hcc 3 _ rfl, hfr, fun z => ?_, fun z => ?_, fun z => ?_, oki, fun j hj => (hok j hj).1, hR, fun w1 r hw hr hn => ?_⟩
  · have := S0 (.int .i64 z) 0 ⟨z, cur[i].f1, cur[i].f2, cur[i].f3⟩ (show 0 + 1 ≤ 4 by decide) (k39_mkM _ _ _ (⟨z, cur[i].f1, cur[i].f2, cur[i].f3⟩ : SIt) hR)
    simp only [Int.toNat_natCast] at this
    exact this
  · have := S0 (.string z) 1 ⟨cur[i].f0, z, cur[i].f2, cur[i].f3⟩ (show 1 + 1 ≤ 4 by decide) (k39_mkM _ _ _ (⟨cur[i].f0, z, cur[i].f2, cur[i].f3⟩ : SIt) hR)
    simp only [Int.toNat_natCast] at this
    exact this
  · have := S0 (.string z) 2 ⟨cur[i].f0, cur[i].f1, z, cur[i].f3⟩ (show 2 + 1 ≤ 4 by decide) (k39_mkM _ _ _ (⟨cur[i].f0, cur[i].f1, z, cur[i].f3⟩ : SIt) hR)
    simp only [Int.toNat_natCast] at this
    exact this
  · have hH2 := Kd.H_step (Kd.H_widen hH) (w1 := w1) (fun j hj hnj hlt => hw j hj (fun h => hnj (.inl h)) hlt)
    have := Kd.H_back hH2 (x' := ⟨cur[i].f0, cur[i].f1, cur[i].f2, r⟩) (k39_mkM _ _ _ (⟨cur[i].f0, cur[i].f1, cur[i].f2, r⟩ : SIt) hr) (fun j hj => hj.elim .inl (fun h => .inr ⟨hn j h, h⟩))
    simp only [Int.toNat_natCast] at this
    exact this
/-- The row in the midst of a round: item i's attributes, and what stands behind it, are as they were. -/
structure Mid (W : World) (base g n cap : Nat) (ok : Nat → Prop) (i : Nat) (a : List S46) (d cur : List SIt) : Prop where
  s : Kd.S k39 39 W base ok (.slice (some ⟨g, 0, none⟩) n cap) cur
  len : cur.length = n
  at_ : ∀ h : i < cur.length, cur[i].f3 = a
  rest : cur.drop (i + 1) = d
theorem Mid.below {W w1 : World} {base g n cap i : Nat} {ok : Nat → Prop} {a : List S46} {d cur : List SIt} (h : Mid W base g n cap ok i a d cur) (hb : Below W.heap.size W w1) : Mid w1 base g n cap ok i a d cur := ⟨Kd.S_below h.s hb, h.len, h.at_, h.rest⟩
theorem mid_set {W : World} {base g n cap i : Nat} {ok : Nat → Prop} {a : List S46} {d cur : List SIt} {x : SIt} (hx : x.f3 = a) (len : cur.length = n) (rest : cur.drop (i + 1) = d) (s : Kd.S k39 39 W base ok (.slice (some ⟨g, 0, none⟩) n cap) (cur.set i x)) : Mid W base g n cap ok i a d (cur.set i x) :=
  ⟨s, by rw [List.length_set, len], fun h => by rw [List.getElem_set_self]; exact hx, by rw [drop_set, rest]⟩
/-- Its cells; a store into one of the first three; its attributes lent. -/
theorem Mid.open_ {W : World} {base g n cap i : Nat} {ok : Nat → Prop} {a : List S46} {d cur : List SIt} (h : Mid W base g n cap ok i a d cur) (hi : i < n) :
    ∃ (z : Int) (s1 s2 : ByteArray) (v3 : Value), W.cell? ⟨g, i * 4, none⟩ = some (.int .i64 z) ∧ W.cell? ⟨g, i * 4 + 1, none⟩ = some (.string s1) ∧ W.cell? ⟨g, i * 4 + 2, none⟩ = some (.string s2) ∧ W.cell? ⟨g, i * 4 + 3, none⟩ = some v3 ∧ (∀ j, W.frozen? ⟨g, i * 4 + j, none⟩ = false) ∧
      (∀ z, ∃ c2, Mid (W.setCell ⟨g, i * 4, none⟩ (.int .i64 z)) base g n cap ok i a d c2) ∧ (∀ z, ∃ c2, Mid (W.setCell ⟨g, i * 4 + 1, none⟩ (.string z)) base g n cap ok i a d c2) ∧ (∀ z, ∃ c2, Mid (W.setCell ⟨g, i * 4 + 2, none⟩ (.string z)) base g n cap ok i a d c2) ∧
      ∃ oki, (∀ j, oki j → ok j) ∧ k46.R 46 W base oki v3 a ∧ (∀ (w1 : World) (r : List S46), (∀ j, ok j → ¬ oki j → j < W.heap.size → w1.heap[j]? = W.heap[j]?) → k46.R 46 w1 base (fun j => oki j ∨ W.heap.size ≤ j) v3 r → (∀ j, W.heap.size ≤ j → ok j) → ∃ c2 : List SIt, c2.length = n ∧ c2.drop (i + 1) = d ∧ Kd.S k39 39 w1 base ok (.slice (some ⟨g, 0, none⟩) n cap) c2) := by
  have hc : i < cur.length := by rw [h.len]; exact hi
  have ea := h.at_ hc
  obtain ⟨v3, q0, q1, q2, q3, qf, S0, S1, S2, oki, ho1, hR, hback⟩ := item_at h.s i hi hc
  rw [ea] at hR
  refine ⟨_, _, _, v3, q0, q1, q2, q3, qf, fun z => ⟨_, mid_set (x := ⟨z, cur[i].f1, cur[i].f2, cur[i].f3⟩) ea h.len h.rest (S0 z)⟩, fun z => ⟨_, mid_set (x := ⟨cur[i].f0, z, cur[i].f2, cur[i].f3⟩) ea h.len h.rest (S1 z)⟩, fun z => ⟨_, mid_set (x := ⟨cur[i].f0, cur[i].f1, z, cur[i].f3⟩) ea h.len h.rest (S2 z)⟩, oki, ho1, hR, fun w1 r h1 h2 h3 => ⟨_, ?_, ?_, hback w1 r h1 h2 h3⟩⟩
  · rw [List.length_set, h.len]
  · rw [drop_set, h.rest]
set_option maxHeartbeats 4000000 in
set_option maxRecDepth 100000 in
theorem laws_markItemS.marks (k : Nat) (P0 : Nat → Prop) (u : Value) (l0 : List SIt) (a1 r : Int) (w0 w : World) (hB : Below w0.heap.size w0 w) (ho : Kd.S k39 39 w w0.heap.size P0 u l0) (h : laws_markItemS.f k l0 a1 = some r) :
    Calls Tryd.prog 15 #[u, .int .i64 a1] w fun e w' => e = .returned (.int .i64 r) ∧ (∃ l1, Kd.S k39 39 w' w0.heap.size (fun j => P0 j ∨ w.heap.size ≤ j) u l1) ∧ Below w0.heap.size w0 w' ∧ Kept w w' (fun j => P0 j) := by
  obtain ⟨A, c, rfl⟩ := Kd.S_slice ho
  have HO0 := Aside0.mk (Kd.S_mono (ok' := fun j => P0 j ∨ w.heap.size ≤ j) ho (fun _ hk => .inl hk))
  have HK0 := Aside0.mk (Kept.refl w (fun j => P0 j))
  have HB0 := Aside0.mk hB
  have HA0 := Aside0.mk h
  clear hB h ho
  obtain ⟨n, hn⟩ : ∃ n, l0.length = n := ⟨_, rfl⟩
  have HN := Lib.hid hn
  rw [hn]
  rw [hn] at HO0
  clear hn
  have hnm : n ≤ 9223372036854775807 := by have := (Kd.S_reads' HO0.out).2.2.2.1; have e := HN.out; omega
  go_enter Tryd.func15, Tryd.ntmps15
  go_wp2
  go_loopg [1, 5] n (fun gg s1 s5 wr => ∃ (i : Nat) (x1 : Int) (cur : List SIt), i ≤ n ∧ n - i ≤ gg ∧ s1 = .int .i64 x1 ∧ s5 = .int .i64 i ∧ Aside0 (cur.length = n) ∧ Aside0 (cur.drop i = l0.drop i) ∧ Aside0 (laws_markItemS.go k (l0.drop i) x1 = some r) ∧ Aside0 (Kd.S k39 39 wr w0.heap.size (fun j => P0 j ∨ w.heap.size ≤ j) (.slice A n c) cur) ∧ Aside0 (Kept w wr (fun j => P0 j)) ∧ Aside0 (Below w0.heap.size w0 wr))
  case atStart => exact ⟨0, a1, l0, Nat.zero_le _, by omega, rfl, rfl, ⟨HN.out⟩, ⟨rfl⟩, ⟨HA0.out⟩, HO0, HK0, HB0⟩
  case round =>
    obtain ⟨i, x1, cur, hi, hg, rfl, rfl, HL, HD, HA, HO, HK, HB⟩ := hrel
    clear HO0 HK0 HB0 HA0
    by_cases hlt : i < n
    · have hlz : (i : Int) < (n : Int) := by omega
      have hl : i < l0.length := by have := HN.out; omega
      have hc : i < cur.length := by have := HL.out; omega
      have hdd : cur.drop i = cur[i] :: cur.drop (i + 1) := List.drop_eq_getElem_cons hc
      have hdl : l0.drop i = l0[i] :: l0.drop (i + 1) := List.drop_eq_getElem_cons hl
      have hd := HD.out
      rw [hdd, hdl] at hd
      injection hd with hxe hde
      have ha := HA.out
      rw [hdl] at ha
      clear hdd hdl HA HD
      simp only [laws_markItemS.go, Option.bind_eq_some_iff] at ha
      obtain ⟨t1, ht1, t2, ht2, ⟨p1, p2⟩, ht3, ha⟩ := ha
      obtain ⟨aa, haa⟩ : ∃ aa, l0[i].f3 = aa := ⟨_, rfl⟩
      rw [haa] at ht3
      have hAA := Aside0.mk ((congrArg (fun x : SIt => x.f3) hxe).trans haa)
      clear haa
      obtain ⟨g, cap, e, gb, gl, _⟩ := Kd.S_form HO.out (by omega)
      injection e with e1 e2 e3
      subst e1
      subst e3
      clear e2
      have hX := Aside0.mk hxe
      have hE := Aside0.mk hde
      have hT1 := Aside0.mk ht1
      have hT2 := Aside0.mk ht2
      have hT3 := Aside0.mk ht3
      have hA := Aside0.mk ha
      have hGB := Aside0.mk gb
      clear hxe hde ht1 ht2 ht3 ha gb gl
      have M0 : Mid wr w0.heap.size g n c (fun j => P0 j ∨ w.heap.size ≤ j) i aa (l0.drop (i + 1)) cur := ⟨HO.out, HL.out, fun _ => hAA.out, hE.out⟩
      obtain ⟨z0, s1, s2, v3, q0, q1, q2, q3, qf, P0', P1', P2', _⟩ := M0.open_ hlt
      have f0 : wr.frozen? ⟨g, i * 4, none⟩ = false := qf 0
      obtain ⟨c2, M1⟩ := P0' x1
      have M1 := Aside0.mk M1
      have hG0 : Aside0 (P0 g ∨ w.heap.size ≤ g) := ⟨(Kd.S_R HO.out).1 g rfl⟩
      have HK' := Aside0.mk (kept_set (g := g) (j := i * 4) (v := .int .i64 x1) HK.out hG0.out)
      have HB' := Aside0.mk (below_set (g := g) (j := i * 4) (v := .int .i64 x1) HB.out hGB.out)
      clear HK HB
      have HK := HK'
      have HB := HB'
      clear HK' HB' qf P0' P1' P2' M0 q1 q2 q3 HO HL hX hE hAA hl hc
      go_wp2_with (first | ((with_reducible refine gate_callee (f := 48) rfl ?_); refine goesL_ (some 22) rfl rfl Tryd.func48 (by kernel_rfl) rfl #[.int .i64 (wrap64 (x1 + 1))] rfl (by (try simp only [List.map_toArray, List.map_cons, List.map_nil]); first | done | rfl) ?_; (with_reducible refine (laws_markText.calls k (wrap64 (x1 + 1)) t1 _ hT1.out).mono ?_); rintro e w2 ⟨rfl, hb⟩; refine ⟨_, rfl, ?_⟩; obtain ⟨z0, s1, s2, v3, q0, q1, q2, q3, qf, P0', P1', P2', _⟩ := (M1.out.below hb).open_ hlt; clear M1; obtain ⟨c2, M2⟩ := P1' t1; have M1 := Aside0.mk M2; clear M2; have f0 : w2.frozen? ⟨g, i * 4 + 1, none⟩ = false := qf 1; have HK' := Aside0.mk (kept_set (g := g) (j := i * 4 + 1) (v := .string t1) (Kept.below HK.out hb) hG0.out); have HB' := Aside0.mk (below_set (g := g) (j := i * 4 + 1) (v := .string t1) (below_step HB.out hb) hGB.out); clear HK HB; have HK := HK'; have HB := HB'; clear HK' HB'; clear qf P0' P1' P2' hb) | ((with_reducible refine gate_callee (f := 48) rfl ?_); refine goesL_ (some 30) rfl rfl Tryd.func48 (by kernel_rfl) rfl #[.int .i64 (wrap64 (wrap64 (x1 + 1) + 1))] rfl (by (try simp only [List.map_toArray, List.map_cons, List.map_nil]); first | done | rfl) ?_; (with_reducible refine (laws_markText.calls k (wrap64 (wrap64 (x1 + 1) + 1)) t2 _ hT2.out).mono ?_); rintro e w2 ⟨rfl, hb⟩; refine ⟨_, rfl, ?_⟩; obtain ⟨z0, s1, s2, v3, q0, q1, q2, q3, qf, P0', P1', P2', _⟩ := (M1.out.below hb).open_ hlt; clear M1; obtain ⟨c2, M2⟩ := P2' t2; have M1 := Aside0.mk M2; clear M2; have f0 : w2.frozen? ⟨g, i * 4 + 2, none⟩ = false := qf 2; have HK' := Aside0.mk (kept_set (g := g) (j := i * 4 + 2) (v := .string t2) (Kept.below HK.out hb) hG0.out); have HB' := Aside0.mk (below_set (g := g) (j := i * 4 + 2) (v := .string t2) (below_step HB.out hb) hGB.out); clear HK HB; have HK := HK'; have HB := HB'; clear HK' HB'; have q3a := Aside0.mk q3; clear q3; obtain ⟨_, _, _, v3b, _, _, _, q3b, _, _, _, _, oki, ho1, hR, hback⟩ := M1.out.open_ hlt; have e3_ : (w2.setCell ⟨g, i * 4 + 2, none⟩ (.string t2)).cell? ⟨g, i * 4 + 3, none⟩ = w2.cell? ⟨g, i * 4 + 3, none⟩ := (by apply World.cell?_setCell_other; intro h_; injection h_ with _ h2_ _; omega); obtain rfl : v3b = v3 := Option.some.inj (q3b.symm.trans (e3_.trans q3a.out)); clear e3_; have q3 := q3a.out; have q3c := Aside0.mk q3b; clear q3b q3a; have hok1 := Aside0.mk ho1; have hR1 := Aside0.mk hR; have hbk := Aside0.mk hback; clear ho1 hR hback M1; clear qf P0' P1' P2' hb) | ((with_reducible refine gate_callee (f := 49) rfl ?_); refine goesL_ (some 41) rfl rfl Tryd.func49 (by kernel_rfl) rfl #[v3b, .int .i64 (wrap64 (wrap64 (wrap64 (x1 + 1) + 1) + 1))] rfl (by (try simp only [List.map_toArray, List.map_cons, List.map_nil]); first | done | rfl) ?_; (with_reducible refine (laws_markAttrS.calls k oki v3b aa _ p1 p2 w0 _ HB.out hR1.out hT3.out).mono ?_); rintro e w3 ⟨rfl, hr3, hb3, hk3⟩; refine ⟨_, rfl, ?_⟩; have hr3' := Aside0.mk hr3; have hb3' := Aside0.mk hb3; have hk3' := Aside0.mk hk3; clear hr3 hb3 hk3))
      obtain ⟨c3, hc3, hd3, hs3⟩ := hbk.out w3 p2 (fun j _ hnj hlt => hk3'.out.2 j hlt hnj) hr3'.out (fun j hj => .inr (Nat.le_trans HK.out.1 hj))
      have hk4 := HK.out.then_ hk3'.out (fun j hj => hok1.out j hj)
      go_roundg (n - (i + 1))
      case measure => omega
      case rel => exact ⟨i + 1, p1, c3, by omega, by omega, rfl, by go_num, ⟨hc3⟩, ⟨hd3⟩, hA, ⟨hs3⟩, ⟨hk4⟩, hb3'⟩
    · have hz : l0.drop i = [] := List.drop_of_length_le (by have := HN.out; omega)
      have ha := HA.out
      rw [hz] at ha
      obtain rfl := Option.some.inj ha
      clear ha hz HA
      have hlt2 : ¬ ((i : Int) < (n : Int)) := by omega
      go_wp2
      go_ret
      exact ⟨rfl, ⟨cur, HO.out⟩, HB.out, HK.out⟩
end Go.Proofs.YtpmjpbaeecnpiaaDoor.L

namespace Go.Proofs.YtpmjpbaeecnpiaaDoor.L
open Go.RowKit Go.Proofs.YtpmjpbaeecnpiaaDoorW.PrintWords Go.Proofs.YtpmjpbaeecnpiaaDoorW.PrintLast Go.Proofs.YtpmjpbaeecnpiaaDoorW.PrintMore
attribute [local go_sem] max2_int min2_int max_two min_two max_three min_three max_four min_four
set_option linter.unusedVariables false
set_option linter.unusedSimpArgs false

/-! ### laws_FnExactSelect: function 3 -/
theorem R_marked {W w1 : World} {base : Nat} {ok okS : Nat → Prop} {v : Value} {xs : List Int} (h : Kd.R (Kd.int .i64) 2 W base ok v xs) (hk : Kept W w1 (fun j => okS j ∧ base ≤ j ∧ j < W.heap.size ∧ ∃ q, q ∈ 39 :: k39.E ∧ ∃ cells, W.heap[j]? = some (.cells cells q (0, 0)))) : Kd.R (Kd.int .i64) 2 w1 base ok v xs :=
 Kd.R_mono (Kd.R_step (Kd.R_bound h) (fun j hj hlt => hk.2 j hlt (fun hs => by
  obtain ⟨_, _, _, q, hq, cells, hc⟩ := hj
  obtain ⟨_, _, _, q', hq', cells', hc'⟩ := hs
  rw [hc] at hc'
  injection hc' with hc'
  injection hc' with _ hc'
  subst hc'
  have h1 : q = 2 := by simpa [Kd.int, Kd.scalar] using hq
  subst h1
  exact absurd hq' dq38))) (fun _ hj => hj.1)
def laws_FnExactSelect.j0 : Nat → List (S63) → Int → ByteArray → List Int → List Int → Bool → Option (Bool)
 | 0, _, _, _, _, _, _ => none
 | k + 1, x0, x1, x2, x8, x10, x53 => if x53 = true then (some false) else ((laws_markInt64S.f k x10 1).bind fun bt443 => ((laws_heldInt64S.f k bt443.2 1).bind fun t445 => (if t445 < 0 then (some false) else (if t445 = bt443.1 then ((laws_toItemS.f k x0).bind fun t446 => ((impl_Select.f k t446 x1 x2).bind fun t449 => ((laws_eqInt64S.f k t449 x8).bind fun t452 => (if t452 = true then ((laws_heldInt64S.f k bt443.2 1).bind fun t453 => (if t453 < 0 then (some false) else (if t453 = bt443.1 then (some true) else (some false)))) else (some false))))) else (some false)))))
def laws_FnExactSelect.f (k : Nat) (l0 : List (S63)) (a1 : Int) (a2 : ByteArray) : Option (Bool) := if (a2.size : Int) > 1048576 then (some true) else ((laws_szItemS.f k l0 1048576).bind fun t423 => (if t423 < 0 then (some true) else ((laws_toItemS.f k l0).bind fun t424 => ((spec_Select.f k t424 a1 a2).bind fun t427 => ((laws_toItemS.f k l0).bind fun t430 => ((impl_Select.f k t430 a1 a2).bind fun t433 => ((laws_eqInt64S.f k t433 t427).bind fun t436 => (if t436 = true then ((laws_toItemS.f k l0).bind fun t437 => ((laws_eqItemS.f k t430 t437).bind fun t440 => (if t440 = true then ((laws_markItemS.f k t430 1).bind fun t441 => (if t441 < 0 then (laws_FnExactSelect.j0 k l0 a1 a2 t427 t433 true) else ((laws_eqInt64S.f k t433 t427).bind fun t442 => (laws_FnExactSelect.j0 k l0 a1 a2 t427 t433 (!t442))))) else (some false)))) else (some false)))))))))
set_option maxHeartbeats 8000000 in
set_option maxRecDepth 100000 in
theorem laws_FnExactSelect.calls (k : Nat) (A0 : Option Addr) (c0 : Nat) (l0 : List (S63)) (a1 : Int) (a2 : ByteArray) (r : Bool) (w : World) (hT : Gl w) (hr0 : Kd.C k63 w A0 l0.length l0) (hc0 : l0.length ≤ c0) (h : laws_FnExactSelect.f k l0 a1 a2 = some r) :
  Calls Tryd.prog 3 #[.slice A0 l0.length c0, .int .i64 a1, .string a2] w fun e w' => e = .returned (.bool r) ∧ Below w.heap.size w w' := by
 have HR0 := Aside0.mk hr0
 have HC0 := Aside0.mk hc0
 clear hr0 hc0
 have HT := Aside0.mk hT
 clear hT
 have HB := Aside0.mk (Below.refl w.heap.size w)
 have H : (if (a2.size : Int) > 1048576 then (some true) else ((laws_szItemS.f k l0 1048576).bind fun t423 => (if t423 < 0 then (some true) else ((laws_toItemS.f k l0).bind fun t424 => ((spec_Select.f k t424 a1 a2).bind fun t427 => ((laws_toItemS.f k l0).bind fun t430 => ((impl_Select.f k t430 a1 a2).bind fun t433 => ((laws_eqInt64S.f k t433 t427).bind fun t436 => (if t436 = true then ((laws_toItemS.f k l0).bind fun t437 => ((laws_eqItemS.f k t430 t437).bind fun t440 => (if t440 = true then ((laws_markItemS.f k t430 1).bind fun t441 => (if t441 < 0 then (laws_FnExactSelect.j0 k l0 a1 a2 t427 t433 true) else ((laws_eqInt64S.f k t433 t427).bind fun t442 => (laws_FnExactSelect.j0 k l0 a1 a2 t427 t433 (!t442))))) else (some false)))) else (some false)))))))))) = some r := h
 clear h
 by_cases c4 : (a2.size : Int) > 1048576
 ·rw [if_pos c4] at H
  have c4b0 : decide (1048576 < (a2.size : Int)) = true := decide_eq_true c4
  have c4b1 : decide (1048576 < a2.size) = true := decide_eq_true dq34
  clear c4
  obtain rfl := Option.some.inj H
  go_enter Tryd.func3, Tryd.ntmps3
  go_wp2
  go_ret
  exact ⟨dq25, dq23⟩
 ·rw [if_neg c4] at H
  have c4b0 : decide (1048576 < (a2.size : Int)) = false := decide_eq_false c4
  have c4b1 : decide (1048576 < a2.size) = false := decide_eq_false dq34
  clear c4
  replace H := Option.bind_eq_some_iff.mp H
  obtain ⟨t423, A50, H⟩ := H
  replace H : (if t423 < 0 then (some true) else ((laws_toItemS.f k l0).bind fun t424 => ((spec_Select.f k t424 a1 a2).bind fun t427 => ((laws_toItemS.f k l0).bind fun t430 => ((impl_Select.f k t430 a1 a2).bind fun t433 => ((laws_eqInt64S.f k t433 t427).bind fun t436 => (if t436 = true then ((laws_toItemS.f k l0).bind fun t437 => ((laws_eqItemS.f k t430 t437).bind fun t440 => (if t440 = true then ((laws_markItemS.f k t430 1).bind fun t441 => (if t441 < 0 then (laws_FnExactSelect.j0 k l0 a1 a2 t427 t433 true) else ((laws_eqInt64S.f k t433 t427).bind fun t442 => (laws_FnExactSelect.j0 k l0 a1 a2 t427 t433 (!t442))))) else (some false)))) else (some false)))))))) = some r := H
  have A5 := Aside0.mk A50
  clear A50
  by_cases c6 : t423 < 0
  ·rw [if_pos c6] at H
   have c6b0 := decide_eq_true c6
   clear c6
   obtain rfl := Option.some.inj H
   go_enter Tryd.func3, Tryd.ntmps3
   go_wp2_with (first | ((with_reducible refine gate_callee (f := 9) rfl ?_); refine goesL_ (some 20) rfl rfl Tryd.func9 dq29 rfl #[.slice A0 l0.length c0, .int .i64 1048576] rfl dq28 ?_; (with_reducible refine (laws_szItemS.calls k _ _ l0 1048576 t423 _ ?side1 ?side2 A5.out).mono ?_); (case side1 => exact dq7); (case side2 => exact dq4); rintro e w7 ⟨rfl, hb⟩; refine ⟨_, rfl, ?_⟩; have n0_ := Aside0.mk (below_step dq23 hb); clear HB; have HB := n0_; clear n0_; (try clear hb); (try clear hb2); (try clear hk); (try clear hi)))
   go_ret
   exact ⟨dq25, dq23⟩
  ·rw [if_neg c6] at H
   have c6b0 := decide_eq_false c6
   clear c6
   replace H := Option.bind_eq_some_iff.mp H
   obtain ⟨t424, A80, H⟩ := H
   replace H : ((spec_Select.f k t424 a1 a2).bind fun t427 => ((laws_toItemS.f k l0).bind fun t430 => ((impl_Select.f k t430 a1 a2).bind fun t433 => ((laws_eqInt64S.f k t433 t427).bind fun t436 => (if t436 = true then ((laws_toItemS.f k l0).bind fun t437 => ((laws_eqItemS.f k t430 t437).bind fun t440 => (if t440 = true then ((laws_markItemS.f k t430 1).bind fun t441 => (if t441 < 0 then (laws_FnExactSelect.j0 k l0 a1 a2 t427 t433 true) else ((laws_eqInt64S.f k t433 t427).bind fun t442 => (laws_FnExactSelect.j0 k l0 a1 a2 t427 t433 (!t442))))) else (some false)))) else (some false)))))) = some r := H
   have A8 := Aside0.mk A80
   clear A80
   replace H := Option.bind_eq_some_iff.mp H
   obtain ⟨t427, A90, H⟩ := H
   replace H : ((laws_toItemS.f k l0).bind fun t430 => ((impl_Select.f k t430 a1 a2).bind fun t433 => ((laws_eqInt64S.f k t433 t427).bind fun t436 => (if t436 = true then ((laws_toItemS.f k l0).bind fun t437 => ((laws_eqItemS.f k t430 t437).bind fun t440 => (if t440 = true then ((laws_markItemS.f k t430 1).bind fun t441 => (if t441 < 0 then (laws_FnExactSelect.j0 k l0 a1 a2 t427 t433 true) else ((laws_eqInt64S.f k t433 t427).bind fun t442 => (laws_FnExactSelect.j0 k l0 a1 a2 t427 t433 (!t442))))) else (some false)))) else (some false))))) = some r := H
   have A9 := Aside0.mk A90
   clear A90
   replace H := Option.bind_eq_some_iff.mp H
   obtain ⟨t430, A100, H⟩ := H
   replace H : ((impl_Select.f k t430 a1 a2).bind fun t433 => ((laws_eqInt64S.f k t433 t427).bind fun t436 => (if t436 = true then ((laws_toItemS.f k l0).bind fun t437 => ((laws_eqItemS.f k t430 t437).bind fun t440 => (if t440 = true then ((laws_markItemS.f k t430 1).bind fun t441 => (if t441 < 0 then (laws_FnExactSelect.j0 k l0 a1 a2 t427 t433 true) else ((laws_eqInt64S.f k t433 t427).bind fun t442 => (laws_FnExactSelect.j0 k l0 a1 a2 t427 t433 (!t442))))) else (some false)))) else (some false)))) = some r := H
   have A10 := Aside0.mk A100
   clear A100
   replace H := Option.bind_eq_some_iff.mp H
   obtain ⟨t433, A110, H⟩ := H
   replace H : ((laws_eqInt64S.f k t433 t427).bind fun t436 => (if t436 = true then ((laws_toItemS.f k l0).bind fun t437 => ((laws_eqItemS.f k t430 t437).bind fun t440 => (if t440 = true then ((laws_markItemS.f k t430 1).bind fun t441 => (if t441 < 0 then (laws_FnExactSelect.j0 k l0 a1 a2 t427 t433 true) else ((laws_eqInt64S.f k t433 t427).bind fun t442 => (laws_FnExactSelect.j0 k l0 a1 a2 t427 t433 (!t442))))) else (some false)))) else (some false))) = some r := H
   have A11 := Aside0.mk A110
   clear A110
   replace H := Option.bind_eq_some_iff.mp H
   obtain ⟨t436, A120, H⟩ := H
   replace H : (if t436 = true then ((laws_toItemS.f k l0).bind fun t437 => ((laws_eqItemS.f k t430 t437).bind fun t440 => (if t440 = true then ((laws_markItemS.f k t430 1).bind fun t441 => (if t441 < 0 then (laws_FnExactSelect.j0 k l0 a1 a2 t427 t433 true) else ((laws_eqInt64S.f k t433 t427).bind fun t442 => (laws_FnExactSelect.j0 k l0 a1 a2 t427 t433 (!t442))))) else (some false)))) else (some false)) = some r := H
   have A12 := Aside0.mk A120
   clear A120
   by_cases c13 : t436 = true
   ·subst c13
    have H1 : ((laws_toItemS.f k l0).bind fun t437 => ((laws_eqItemS.f k t430 t437).bind fun t440 => (if t440 = true then ((laws_markItemS.f k t430 1).bind fun t441 => (if t441 < 0 then (laws_FnExactSelect.j0 k l0 a1 a2 t427 t433 true) else ((laws_eqInt64S.f k t433 t427).bind fun t442 => (laws_FnExactSelect.j0 k l0 a1 a2 t427 t433 (!t442))))) else (some false)))) = some r := by rw [if_pos rfl] at H; exact H
    clear H
    have H := H1
    clear H1
    replace H := Option.bind_eq_some_iff.mp H
    obtain ⟨t437, A140, H⟩ := H
    replace H : ((laws_eqItemS.f k t430 t437).bind fun t440 => (if t440 = true then ((laws_markItemS.f k t430 1).bind fun t441 => (if t441 < 0 then (laws_FnExactSelect.j0 k l0 a1 a2 t427 t433 true) else ((laws_eqInt64S.f k t433 t427).bind fun t442 => (laws_FnExactSelect.j0 k l0 a1 a2 t427 t433 (!t442))))) else (some false))) = some r := H
    have A14 := Aside0.mk A140
    clear A140
    replace H := Option.bind_eq_some_iff.mp H
    obtain ⟨t440, A150, H⟩ := H
    replace H : (if t440 = true then ((laws_markItemS.f k t430 1).bind fun t441 => (if t441 < 0 then (laws_FnExactSelect.j0 k l0 a1 a2 t427 t433 true) else ((laws_eqInt64S.f k t433 t427).bind fun t442 => (laws_FnExactSelect.j0 k l0 a1 a2 t427 t433 (!t442))))) else (some false)) = some r := H
    have A15 := Aside0.mk A150
    clear A150
    by_cases c16 : t440 = true
    ·subst c16
     have H1 : ((laws_markItemS.f k t430 1).bind fun t441 => (if t441 < 0 then (laws_FnExactSelect.j0 k l0 a1 a2 t427 t433 true) else ((laws_eqInt64S.f k t433 t427).bind fun t442 => (laws_FnExactSelect.j0 k l0 a1 a2 t427 t433 (!t442))))) = some r := by rw [if_pos rfl] at H; exact H
     clear H
     have H := H1
     clear H1
     replace H := Option.bind_eq_some_iff.mp H
     obtain ⟨t441, A170, H⟩ := H
     replace H : (if t441 < 0 then (laws_FnExactSelect.j0 k l0 a1 a2 t427 t433 true) else ((laws_eqInt64S.f k t433 t427).bind fun t442 => (laws_FnExactSelect.j0 k l0 a1 a2 t427 t433 (!t442)))) = some r := H
     have A17 := Aside0.mk A170
     clear A170
     have HC18 := Aside0.mk H
     clear H
     go_enter Tryd.func3, Tryd.ntmps3
     go_upto_region 16 with (first | ((with_reducible refine gate_callee (f := 9) rfl ?_); refine goesL_ (some 20) rfl rfl Tryd.func9 dq29 rfl #[.slice A0 l0.length c0, .int .i64 1048576] rfl dq28 ?_; (with_reducible refine (laws_szItemS.calls k _ _ l0 1048576 t423 _ ?side1 ?side2 A5.out).mono ?_); (case side1 => exact dq7); (case side2 => exact dq4); rintro e w19 ⟨rfl, hb⟩; refine ⟨_, rfl, ?_⟩; have n0_ := Aside0.mk (below_step dq23 hb); clear HB; have HB := n0_; clear n0_; (try clear hb); (try clear hb2); (try clear hk); (try clear hi)) | ((with_reducible refine gate_callee (f := 11) rfl ?_); refine goesL_ (some 24) rfl rfl Tryd.func11 dq29 rfl #[.slice A0 l0.length c0] rfl dq28 ?_; (with_reducible refine (laws_toItemS.calls k _ _ l0 t424 _ ?side1 ?side2 A8.out).mono ?_); (case side1 => exact dq3); (case side2 => exact dq4); rintro e w20 ⟨v425, rfl, ho0, hb⟩; refine ⟨_, rfl, ?_⟩; have n0_ := Aside0.mk (Kd.S_lower ho0 (below_size dq23)); have n1_ := Aside0.mk (below_step dq23 hb); clear HB; have HO426 := n0_; have HB := n1_; clear n0_ n1_; (try clear hb); (try clear hb2); (try clear hk); (try clear hi); (try clear ho0); obtain ⟨Ao21, co21, eo21⟩ := Kd.S_slice HO426.out; subst eo21) | ((with_reducible refine gate_callee (f := 10) rfl ?_); refine goesL_ (some 27) rfl rfl Tryd.func10 dq29 rfl #[.slice Ao21 t424.length co21, .int .i64 a1, .string a2] rfl dq28 ?_; (with_reducible refine (spec_Select.calls k _ _ t424 a1 a2 t427 _ ?side1 ?side2 A9.out).mono ?_); (case side1 => exact dq13); (case side2 => exact (Kd.S_reads' HO426.out).2.1); rintro e w22 ⟨v428, rfl, ho0, hb⟩; refine ⟨_, rfl, ?_⟩; have n0_ := Aside0.mk (Kd.S_below dq148 hb); have n1_ := Aside0.mk (Kd.R_lower ho0 (below_size dq23)); have n2_ := Aside0.mk (below_step dq23 hb); clear HO426; clear HB; have HO426 := n0_; have HO429 := n1_; have HB := n2_; clear n0_ n1_ n2_; (try clear hb); (try clear hb2); (try clear hk); (try clear hi); (try clear ho0)) | ((with_reducible refine gate_callee (f := 11) rfl ?_); refine goesL_ (some 29) rfl rfl Tryd.func11 dq29 rfl #[.slice A0 l0.length c0] rfl dq28 ?_; (with_reducible refine (laws_toItemS.calls k _ _ l0 t430 _ ?side1 ?side2 A10.out).mono ?_); (case side1 => exact dq3); (case side2 => exact dq4); rintro e w23 ⟨v431, rfl, ho0, hb⟩; refine ⟨_, rfl, ?_⟩; have n0_ := Aside0.mk (Kd.S_elder' dq148 (Kd.S_base ho0) hb); have n1_ := Aside0.mk (Kd.R_below dq146 hb); have n2_ := Aside0.mk (Kd.S_lower (Kd.S_new' ho0 (Kd.S_lt dq148)) (below_size dq23)); have n3_ := Aside0.mk (below_step dq23 hb); clear HO426; clear HO429; clear HB; have HO426 := n0_; have HO429 := n1_; have HO432 := n2_; have HB := n3_; clear n0_ n1_ n2_ n3_; (try clear hb); (try clear hb2); (try clear hk); (try clear hi); (try clear ho0); obtain ⟨Ao24, co24, eo24⟩ := Kd.S_slice HO432.out; subst eo24) | ((with_reducible refine gate_callee (f := 12) rfl ?_); refine goesL_ (some 33) rfl rfl Tryd.func12 dq29 rfl #[.slice Ao24 t430.length co24, .int .i64 a1, .string a2] rfl dq28 ?_; (with_reducible refine (impl_Select.calls k _ _ t430 a1 a2 t433 _ ?side3 ?side1 ?side2 A11.out).mono ?_); (case side1 => exact dq14); (case side2 => exact (Kd.S_reads' HO432.out).2.1); (case side3 => exact dq8); rintro e w25 ⟨v434, rfl, ho0, hb⟩; refine ⟨_, rfl, ?_⟩; have n0_ := Aside0.mk (Kd.S_below dq148 hb); have n1_ := Aside0.mk (Kd.R_elder' dq146 (Kd.R_base ho0) hb); have n2_ := Aside0.mk (Kd.S_below dq147 hb); have n3_ := Aside0.mk (Kd.R_lower (Kd.R_new' ho0 (Kd.R_lt dq146)) (below_size dq23)); have n4_ := Aside0.mk (below_step dq23 hb); clear HO426; clear HO429; clear HO432; clear HB; have HO426 := n0_; have HO429 := n1_; have HO432 := n2_; have HO435 := n3_; have HB := n4_; clear n0_ n1_ n2_ n3_ n4_; (try clear hb); (try clear hb2); (try clear hk); (try clear hi); (try clear ho0); obtain ⟨Ao26, co26, eo26⟩ := Kd.R_slice HO435.out; subst eo26; obtain ⟨Ao27, co27, eo27⟩ := Kd.R_slice HO429.out; subst eo27) | ((with_reducible refine gate_callee (f := 13) rfl ?_); refine goesL_ (some 36) rfl rfl Tryd.func13 dq29 rfl #[.slice Ao26 t433.length co26, .slice Ao27 t427.length co27] rfl dq28 ?_; (with_reducible refine (laws_eqInt64S.calls k _ _ t433 _ _ t427 true _ ?side1 ?side2 ?side3 ?side4 A12.out).mono ?_); (case side1 => exact dq15); (case side2 => exact (Kd.R_reads' HO435.out).2.1); (case side3 => exact dq16); (case side4 => exact (Kd.R_reads' HO429.out).2.1); rintro e w' ⟨rfl, ⟨nd, rfl⟩⟩; refine ⟨_, rfl, ?_⟩) | ((with_reducible refine gate_callee (f := 11) rfl ?_); refine goesL_ (some 40) rfl rfl Tryd.func11 dq29 rfl #[.slice A0 l0.length c0] rfl dq28 ?_; (with_reducible refine (laws_toItemS.calls k _ _ l0 t437 _ ?side1 ?side2 A14.out).mono ?_); (case side1 => repeat (first | exact (Kd.C_below HR0.out dq23) | (with_reducible refine Kd.C_alloc ?_ _) | (with_reducible refine Kd.C_drewN ?_ _) | (with_reducible refine Kd.C_drew ?_))); (case side2 => exact dq4); rintro e w28 ⟨v438, rfl, ho0, hb⟩; refine ⟨_, rfl, ?_⟩; have n0_ := Aside0.mk (Kd.S_elder' dq148 (Kd.S_base ho0) hb); have n1_ := Aside0.mk (Kd.R_below dq146 hb); have n2_ := Aside0.mk (Kd.S_elder' dq147 (Kd.S_base ho0) hb); have n3_ := Aside0.mk (Kd.R_below dq145 hb); have n4_ := Aside0.mk (Kd.S_lower (Kd.S_new' (Kd.S_new' ho0 (Kd.S_lt dq148)) (Kd.S_lt dq147)) (below_size dq23)); have n5_ := Aside0.mk (below_step dq23 hb); clear HO426; clear HO429; clear HO432; clear HO435; clear HB; have HO426 := n0_; have HO429 := n1_; have HO432 := n2_; have HO435 := n3_; have HO439 := n4_; have HB := n5_; clear n0_ n1_ n2_ n3_ n4_ n5_; (try clear hb); (try clear hb2); (try clear hk); (try clear hi); (try clear ho0); obtain ⟨Ao29, co29, eo29⟩ := Kd.S_slice HO439.out; subst eo29) | ((with_reducible refine gate_callee (f := 14) rfl ?_); refine goesL_ (some 41) rfl rfl Tryd.func14 dq29 rfl #[.slice Ao24 t430.length co24, .slice Ao29 t437.length co29] rfl dq28 ?_; (with_reducible refine (laws_eqItemS.calls k _ _ t430 _ _ t437 true _ ?side1 ?side2 ?side3 ?side4 A15.out).mono ?_); (case side1 => exact dq14); (case side2 => exact (Kd.S_reads' HO432.out).2.1); (case side3 => repeat (first | exact (Kd.S_reads' HO439.out).2.2 | (with_reducible refine Kd.C_alloc ?_ _) | (with_reducible refine Kd.C_drewN ?_ _) | (with_reducible refine Kd.C_drew ?_))); (case side4 => exact (Kd.S_reads' HO439.out).2.1); rintro e w30 ⟨rfl, hb⟩; refine ⟨_, rfl, ?_⟩; have n0_ := Aside0.mk (Kd.S_below dq148 hb); have n1_ := Aside0.mk (Kd.R_below dq146 hb); have n2_ := Aside0.mk (Kd.S_below dq147 hb); have n3_ := Aside0.mk (Kd.R_below dq145 hb); have n4_ := Aside0.mk (Kd.S_below (by (with_reducible repeat (first | apply Kd.S_alloc | apply Kd.S_drewN | apply Kd.S_drew)); exact HO439.out) hb); have n5_ := Aside0.mk (below_step dq23 hb); clear HO426; clear HO429; clear HO432; clear HO435; clear HO439; clear HB; have HO426 := n0_; have HO429 := n1_; have HO432 := n2_; have HO435 := n3_; have HO439 := n4_; have HB := n5_; clear n0_ n1_ n2_ n3_ n4_ n5_; (try clear hb); (try clear hb2); (try clear hk); (try clear hi)) | ((with_reducible refine gate_callee (f := 15) rfl ?_); refine goesL_ (some 45) rfl rfl Tryd.func15 dq29 rfl #[.slice Ao24 t430.length co24, .int .i64 1] rfl dq28 ?_; (with_reducible refine (laws_markItemS.marks k _ _ t430 1 t441 w _ dq23 (Kd.S_bound dq147) A17.out).mono ?_); rintro e w31 ⟨rfl, hx_, hb, hk_⟩; refine ⟨_, rfl, ?_⟩; have n0_ := Aside0.mk (Kd.S_nil k39 39 w31 w.heap.size (fun _ => True)); have n1_ := Aside0.mk (R_marked dq146 hk_); have n2_ := Aside0.mk (Kd.S_nil k39 39 w31 w.heap.size (fun _ => True)); have n3_ := Aside0.mk (R_marked dq145 hk_); have n4_ := Aside0.mk (Kd.S_nil k39 39 w31 w.heap.size (fun _ => True)); have n5_ := Aside0.mk hb; clear hx_ hk_; clear HO426; clear HO429; clear HO432; clear HO435; clear HO439; clear HB; have HO426 := n0_; have HO429 := n1_; have HO432 := n2_; have HO435 := n3_; have HO439 := n4_; have HB := n5_; clear n0_ n1_ n2_ n3_ n4_ n5_; (try clear hb); (try clear hb2); (try clear hk); (try clear hi)))
     (try simp only [Act.put, List.setIfInBounds_toArray, List.set_cons_zero, List.set_cons_succ])
     go_cut [53] (fun v53 wc => ∃ (kq : Nat) (x53_17 : Bool), v53 = .bool x53_17 ∧ Aside0 (laws_FnExactSelect.j0 kq l0 a1 a2 t427 t433 x53_17 = some r) ∧ Aside0 (kq ≤ k) ∧ Aside0 (Kd.R (Kd.int .i64) 2 wc w.heap.size (fun k_ => some k_ ≠ ((.slice Ao26 t433.length co26) : Value).ownBlock) (.slice Ao27 t427.length co27) t427) ∧ Aside0 (Kd.R (Kd.int .i64) 2 wc w.heap.size (fun k_ => some k_ ≠ ((.slice Ao27 t427.length co27) : Value).ownBlock) (.slice Ao26 t433.length co26) t433) ∧ Aside0 (Below w.heap.size w wc))
     case first =>
      have H := HC18.out
      clear HC18
      by_cases c32 : t441 < 0
      ·rw [if_pos c32] at H
       have c32b0 := decide_eq_true c32
       clear c32
       (first | rw [c32b0] | (simp only [i64_w, i32_w]; rw [c32b0]) | skip)
       have H' := Aside0.mk H
       clear H
       go_wp2
       go_meet
       case rel => exact ⟨_, (true), dq26, H', ⟨dq35⟩, ⟨dq150⟩, ⟨dq149⟩, ⟨dq23⟩⟩
      ·rw [if_neg c32] at H
       have c32b0 := decide_eq_false c32
       clear c32
       (first | rw [c32b0] | (simp only [i64_w, i32_w]; rw [c32b0]) | skip)
       replace H := Option.bind_eq_some_iff.mp H
       obtain ⟨t442, A330, H⟩ := H
       replace H : (laws_FnExactSelect.j0 k l0 a1 a2 t427 t433 (!t442)) = some r := H
       have A33 := Aside0.mk A330
       clear A330
       have H' := Aside0.mk H
       clear H
       go_wp2_with (first | (go_at_call 13; (with_reducible refine (laws_eqInt64S.calls k _ _ t433 _ _ t427 t442 _ ?side1 ?side2 ?side3 ?side4 A33.out).mono ?_); (case side1 => exact dq15); (case side2 => exact (Kd.R_reads' HO435.out).2.1); (case side3 => exact dq16); (case side4 => exact (Kd.R_reads' HO429.out).2.1); rintro e w' ⟨rfl, ⟨nd, rfl⟩⟩))
       go_meet
       case rel => exact ⟨_, (!t442), dq26, H', ⟨dq35⟩, ⟨dq150⟩, ⟨dq149⟩, ⟨dq23⟩⟩
     case rest =>
      clear HC18
      try clear c1
      try clear p2
      try clear c3
      try clear c4
      try clear c4b0
      try clear c4b1
      try clear c6
      try clear c6b0
      try clear c9
      try clear c10
      try clear c11
      try clear c12
      try clear c13
      try clear c14
      try clear c15
      try clear c16
      try clear c32
      try clear c32b0
      obtain ⟨kq, x53_17, rfl, HA, HJ17, HO_8, HO_10, HB⟩ := hcut
      cases kq with
      | zero => exact absurd HA.out (by simp [laws_FnExactSelect.j0])
      | succ kj17 =>
       have H := HA.out
       clear HA
       simp only [laws_FnExactSelect.j0] at H
       by_cases c34 : x53_17 = true
       ·subst c34
        have H1 : (some false) = some r := by rw [if_pos rfl] at H; exact H
        clear H
        have H := H1
        clear H1
        obtain rfl := Option.some.inj H
        go_wp2
        go_ret
        exact ⟨dq25, dq23⟩
       ·replace c34 := Bool.eq_false_iff.mpr c34
        subst c34
        have H1 : ((laws_markInt64S.f kj17 t433 1).bind fun bt443 => ((laws_heldInt64S.f kj17 bt443.2 1).bind fun t445 => (if t445 < 0 then (some false) else (if t445 = bt443.1 then ((laws_toItemS.f kj17 l0).bind fun t446 => ((impl_Select.f kj17 t446 a1 a2).bind fun t449 => ((laws_eqInt64S.f kj17 t449 t427).bind fun t452 => (if t452 = true then ((laws_heldInt64S.f kj17 bt443.2 1).bind fun t453 => (if t453 < 0 then (some false) else (if t453 = bt443.1 then (some true) else (some false)))) else (some false))))) else (some false))))) = some r := by rw [if_neg (show ¬ (false = true) by decide)] at H; exact H
        clear H
        have H := H1
        clear H1
        replace H := Option.bind_eq_some_iff.mp H
        obtain ⟨⟨t443, t444⟩, A350, H⟩ := H
        replace H : ((laws_heldInt64S.f kj17 t444 1).bind fun t445 => (if t445 < 0 then (some false) else (if t445 = t443 then ((laws_toItemS.f kj17 l0).bind fun t446 => ((impl_Select.f kj17 t446 a1 a2).bind fun t449 => ((laws_eqInt64S.f kj17 t449 t427).bind fun t452 => (if t452 = true then ((laws_heldInt64S.f kj17 t444 1).bind fun t453 => (if t453 < 0 then (some false) else (if t453 = t443 then (some true) else (some false)))) else (some false))))) else (some false)))) = some r := H
        have A35 := Aside0.mk A350
        clear A350
        replace H := Option.bind_eq_some_iff.mp H
        obtain ⟨t445, A360, H⟩ := H
        replace H : (if t445 < 0 then (some false) else (if t445 = t443 then ((laws_toItemS.f kj17 l0).bind fun t446 => ((impl_Select.f kj17 t446 a1 a2).bind fun t449 => ((laws_eqInt64S.f kj17 t449 t427).bind fun t452 => (if t452 = true then ((laws_heldInt64S.f kj17 t444 1).bind fun t453 => (if t453 < 0 then (some false) else (if t453 = t443 then (some true) else (some false)))) else (some false))))) else (some false))) = some r := H
        have A36 := Aside0.mk A360
        clear A360
        by_cases c37 : t445 < 0
        ·rw [if_pos c37] at H
         have c37b0 := decide_eq_true c37
         clear c37
         obtain rfl := Option.some.inj H
         go_wp2_with (first | ((with_reducible refine gate_callee (f := 16) rfl ?_); refine goesL_ (some 56) rfl rfl Tryd.func16 dq29 rfl #[.slice Ao26 t433.length co26, .int .i64 1] rfl dq28 ?_; (with_reducible refine (laws_markInt64S.calls kj17 (fun k_ => some k_ = (.slice Ao26 t433.length co26 : Value).ownBlock) (.slice Ao26 t433.length co26) t433 1 t443 t444 w _ ?side1 ?side2 A35.out).mono ?_); (case side1 => exact dq17); (case side2 => exact Kd.R_tight rfl HO_10.out); rintro e w38 ⟨rfl, hy0, hb, hkp⟩; refine ⟨_, rfl, ?_⟩; have n0_ := Aside0.mk (Kd.R_mono (ok' := fun k_ => some k_ ≠ (.slice Ao26 t433.length co26 : Value).ownBlock) (Kd.R_keptB (HO_8.out) hkp (fun k_ hk_ hs_ => (hk_) hs_)) (fun k_ hk_ => hk_.1)); have n1_ := Aside0.mk (Kd.R_reok rfl hy0 (fun k_ e_ => HO_10.out.1 k_ e_)); have n2_ := Aside0.mk (hb); clear HO_8; clear HO_10; clear HB; have HO_8 := n0_; have HO_10 := n1_; have HB := n2_; clear n0_ n1_ n2_; (try clear hb); (try clear hkp); (try clear hy0)) | ((with_reducible refine gate_callee (f := 17) rfl ?_); refine goesL_ (some 59) rfl rfl Tryd.func17 dq29 rfl #[.slice Ao26 t444.length co26, .int .i64 1] rfl dq151 ?_; (with_reducible refine (laws_heldInt64S.calls kj17 _ _ t444 1 t445 _ ?side1 ?side2 A36.out).mono ?_); (case side1 => exact dq6); (case side2 => exact dq18); rintro e w' ⟨rfl, ⟨nd, rfl⟩⟩; refine ⟨_, rfl, ?_⟩))
         go_ret
         exact ⟨dq25, dq23⟩
        ·rw [if_neg c37] at H
         have c37b0 := decide_eq_false c37
         clear c37
         by_cases c39 : t445 = t443
         ·rw [if_pos c39] at H
          have c39b0 := beq_iff_eq.mpr c39
          have c39b1 := bne_eq_false_iff_eq.mpr c39
          clear c39
          replace H := Option.bind_eq_some_iff.mp H
          obtain ⟨t446, A400, H⟩ := H
          replace H : ((impl_Select.f kj17 t446 a1 a2).bind fun t449 => ((laws_eqInt64S.f kj17 t449 t427).bind fun t452 => (if t452 = true then ((laws_heldInt64S.f kj17 t444 1).bind fun t453 => (if t453 < 0 then (some false) else (if t453 = t443 then (some true) else (some false)))) else (some false)))) = some r := H
          have A40 := Aside0.mk A400
          clear A400
          replace H := Option.bind_eq_some_iff.mp H
          obtain ⟨t449, A410, H⟩ := H
          replace H : ((laws_eqInt64S.f kj17 t449 t427).bind fun t452 => (if t452 = true then ((laws_heldInt64S.f kj17 t444 1).bind fun t453 => (if t453 < 0 then (some false) else (if t453 = t443 then (some true) else (some false)))) else (some false))) = some r := H
          have A41 := Aside0.mk A410
          clear A410
          replace H := Option.bind_eq_some_iff.mp H
          obtain ⟨t452, A420, H⟩ := H
          replace H : (if t452 = true then ((laws_heldInt64S.f kj17 t444 1).bind fun t453 => (if t453 < 0 then (some false) else (if t453 = t443 then (some true) else (some false)))) else (some false)) = some r := H
          have A42 := Aside0.mk A420
          clear A420
          by_cases c43 : t452 = true
          ·subst c43
           have H1 : ((laws_heldInt64S.f kj17 t444 1).bind fun t453 => (if t453 < 0 then (some false) else (if t453 = t443 then (some true) else (some false)))) = some r := by rw [if_pos rfl] at H; exact H
           clear H
           have H := H1
           clear H1
           replace H := Option.bind_eq_some_iff.mp H
           obtain ⟨t453, A440, H⟩ := H
           replace H : (if t453 < 0 then (some false) else (if t453 = t443 then (some true) else (some false))) = some r := H
           have A44 := Aside0.mk A440
           clear A440
           by_cases c45 : t453 < 0
           ·rw [if_pos c45] at H
            have c45b0 := decide_eq_true c45
            clear c45
            obtain rfl := Option.some.inj H
            go_wp2_with (first | ((with_reducible refine gate_callee (f := 16) rfl ?_); refine goesL_ (some 56) rfl rfl Tryd.func16 dq29 rfl #[.slice Ao26 t433.length co26, .int .i64 1] rfl dq28 ?_; (with_reducible refine (laws_markInt64S.calls kj17 (fun k_ => some k_ = (.slice Ao26 t433.length co26 : Value).ownBlock) (.slice Ao26 t433.length co26) t433 1 t443 t444 w _ ?side1 ?side2 A35.out).mono ?_); (case side1 => exact dq17); (case side2 => exact Kd.R_tight rfl HO_10.out); rintro e w46 ⟨rfl, hy0, hb, hkp⟩; refine ⟨_, rfl, ?_⟩; have n0_ := Aside0.mk (Kd.R_mono (ok' := fun k_ => some k_ ≠ (.slice Ao26 t433.length co26 : Value).ownBlock) (Kd.R_keptB (HO_8.out) hkp (fun k_ hk_ hs_ => (hk_) hs_)) (fun k_ hk_ => hk_.1)); have n1_ := Aside0.mk (Kd.R_reok rfl hy0 (fun k_ e_ => HO_10.out.1 k_ e_)); have n2_ := Aside0.mk (hb); clear HO_8; clear HO_10; clear HB; have HO_8 := n0_; have HO_10 := n1_; have HB := n2_; clear n0_ n1_ n2_; (try clear hb); (try clear hkp); (try clear hy0)) | ((with_reducible refine gate_callee (f := 17) rfl ?_); refine goesL_ (some 59) rfl rfl Tryd.func17 dq29 rfl #[.slice Ao26 t444.length co26, .int .i64 1] rfl dq151 ?_; (with_reducible refine (laws_heldInt64S.calls kj17 _ _ t444 1 t445 _ ?side1 ?side2 A36.out).mono ?_); (case side1 => exact dq6); (case side2 => exact dq18); rintro e w' ⟨rfl, ⟨nd, rfl⟩⟩; refine ⟨_, rfl, ?_⟩) | ((with_reducible refine gate_callee (f := 11) rfl ?_); refine goesL_ (some 66) rfl rfl Tryd.func11 dq29 rfl #[.slice A0 l0.length c0] rfl dq28 ?_; (with_reducible refine (laws_toItemS.calls kj17 _ _ l0 t446 _ ?side1 ?side2 A40.out).mono ?_); (case side1 => repeat (first | exact (Kd.C_below HR0.out dq23) | (with_reducible refine Kd.C_alloc ?_ _) | (with_reducible refine Kd.C_drewN ?_ _) | (with_reducible refine Kd.C_drew ?_))); (case side2 => exact dq4); rintro e w47 ⟨v447, rfl, ho0, hb⟩; refine ⟨_, rfl, ?_⟩; have n0_ := Aside0.mk (Kd.R_below dq152 hb); have n1_ := Aside0.mk (Kd.R_below dq63 hb); have n2_ := Aside0.mk (Kd.S_lower ho0 (below_size dq23)); have n3_ := Aside0.mk (below_step dq23 hb); clear HO_8; clear HO_10; clear HB; have HO_8 := n0_; have HO_10 := n1_; have HO448 := n2_; have HB := n3_; clear n0_ n1_ n2_ n3_; (try clear hb); (try clear hb2); (try clear hk); (try clear hi); (try clear ho0); obtain ⟨Ao48, co48, eo48⟩ := Kd.S_slice HO448.out; subst eo48) | ((with_reducible refine gate_callee (f := 12) rfl ?_); refine goesL_ (some 69) rfl rfl Tryd.func12 dq29 rfl #[.slice Ao48 t446.length co48, .int .i64 a1, .string a2] rfl dq28 ?_; (with_reducible refine (impl_Select.calls kj17 _ _ t446 a1 a2 t449 _ ?side3 ?side1 ?side2 A41.out).mono ?_); (case side1 => exact dq19); (case side2 => exact (Kd.S_reads' HO448.out).2.1); (case side3 => exact dq8); rintro e w49 ⟨v450, rfl, ho0, hb⟩; refine ⟨_, rfl, ?_⟩; have n0_ := Aside0.mk (Kd.R_elder' dq152 (Kd.R_base ho0) hb); have n1_ := Aside0.mk (Kd.R_elder' dq63 (Kd.R_base ho0) hb); have n2_ := Aside0.mk (Kd.S_below dq153 hb); have n3_ := Aside0.mk (Kd.R_lower (Kd.R_new' (Kd.R_new' ho0 (Kd.R_lt dq152)) (Kd.R_lt dq63)) (below_size dq23)); have n4_ := Aside0.mk (below_step dq23 hb); clear HO_8; clear HO_10; clear HO448; clear HB; have HO_8 := n0_; have HO_10 := n1_; have HO448 := n2_; have HO451 := n3_; have HB := n4_; clear n0_ n1_ n2_ n3_ n4_; (try clear hb); (try clear hb2); (try clear hk); (try clear hi); (try clear ho0); obtain ⟨Ao50, co50, eo50⟩ := Kd.R_slice HO451.out; subst eo50) | ((with_reducible refine gate_callee (f := 13) rfl ?_); refine goesL_ (some 72) rfl rfl Tryd.func13 dq29 rfl #[.slice Ao50 t449.length co50, .slice Ao27 t427.length co27] rfl dq28 ?_; (with_reducible refine (laws_eqInt64S.calls kj17 _ _ t449 _ _ t427 true _ ?side1 ?side2 ?side3 ?side4 A42.out).mono ?_); (case side1 => exact dq20); (case side2 => exact (Kd.R_reads' HO451.out).2.1); (case side3 => exact dq21); (case side4 => exact (Kd.R_reads' HO_8.out).2.1); rintro e w' ⟨rfl, ⟨nd, rfl⟩⟩; refine ⟨_, rfl, ?_⟩) | ((with_reducible refine gate_callee (f := 17) rfl ?_); refine goesL_ (some 76) rfl rfl Tryd.func17 dq29 rfl #[.slice Ao26 t444.length co26, .int .i64 1] rfl dq151 ?_; (with_reducible refine (laws_heldInt64S.calls kj17 _ _ t444 1 t453 _ ?side1 ?side2 A44.out).mono ?_); (case side1 => exact dq6); (case side2 => exact dq18); rintro e w' ⟨rfl, ⟨nd, rfl⟩⟩; refine ⟨_, rfl, ?_⟩))
            go_ret
            exact ⟨dq25, dq23⟩
           ·rw [if_neg c45] at H
            have c45b0 := decide_eq_false c45
            clear c45
            by_cases c51 : t453 = t443
            ·rw [if_pos c51] at H
             have c51b0 := beq_iff_eq.mpr c51
             have c51b1 := bne_eq_false_iff_eq.mpr c51
             clear c51
             obtain rfl := Option.some.inj H
             go_wp2_with (first | ((with_reducible refine gate_callee (f := 16) rfl ?_); refine goesL_ (some 56) rfl rfl Tryd.func16 dq29 rfl #[.slice Ao26 t433.length co26, .int .i64 1] rfl dq28 ?_; (with_reducible refine (laws_markInt64S.calls kj17 (fun k_ => some k_ = (.slice Ao26 t433.length co26 : Value).ownBlock) (.slice Ao26 t433.length co26) t433 1 t443 t444 w _ ?side1 ?side2 A35.out).mono ?_); (case side1 => exact dq17); (case side2 => exact Kd.R_tight rfl HO_10.out); rintro e w52 ⟨rfl, hy0, hb, hkp⟩; refine ⟨_, rfl, ?_⟩; have n0_ := Aside0.mk (Kd.R_mono (ok' := fun k_ => some k_ ≠ (.slice Ao26 t433.length co26 : Value).ownBlock) (Kd.R_keptB (HO_8.out) hkp (fun k_ hk_ hs_ => (hk_) hs_)) (fun k_ hk_ => hk_.1)); have n1_ := Aside0.mk (Kd.R_reok rfl hy0 (fun k_ e_ => HO_10.out.1 k_ e_)); have n2_ := Aside0.mk (hb); clear HO_8; clear HO_10; clear HB; have HO_8 := n0_; have HO_10 := n1_; have HB := n2_; clear n0_ n1_ n2_; (try clear hb); (try clear hkp); (try clear hy0)) | ((with_reducible refine gate_callee (f := 17) rfl ?_); refine goesL_ (some 59) rfl rfl Tryd.func17 dq29 rfl #[.slice Ao26 t444.length co26, .int .i64 1] rfl dq151 ?_; (with_reducible refine (laws_heldInt64S.calls kj17 _ _ t444 1 t445 _ ?side1 ?side2 A36.out).mono ?_); (case side1 => exact dq6); (case side2 => exact dq18); rintro e w' ⟨rfl, ⟨nd, rfl⟩⟩; refine ⟨_, rfl, ?_⟩) | ((with_reducible refine gate_callee (f := 11) rfl ?_); refine goesL_ (some 66) rfl rfl Tryd.func11 dq29 rfl #[.slice A0 l0.length c0] rfl dq28 ?_; (with_reducible refine (laws_toItemS.calls kj17 _ _ l0 t446 _ ?side1 ?side2 A40.out).mono ?_); (case side1 => repeat (first | exact (Kd.C_below HR0.out dq23) | (with_reducible refine Kd.C_alloc ?_ _) | (with_reducible refine Kd.C_drewN ?_ _) | (with_reducible refine Kd.C_drew ?_))); (case side2 => exact dq4); rintro e w53 ⟨v447, rfl, ho0, hb⟩; refine ⟨_, rfl, ?_⟩; have n0_ := Aside0.mk (Kd.R_below dq152 hb); have n1_ := Aside0.mk (Kd.R_below dq63 hb); have n2_ := Aside0.mk (Kd.S_lower ho0 (below_size dq23)); have n3_ := Aside0.mk (below_step dq23 hb); clear HO_8; clear HO_10; clear HB; have HO_8 := n0_; have HO_10 := n1_; have HO448 := n2_; have HB := n3_; clear n0_ n1_ n2_ n3_; (try clear hb); (try clear hb2); (try clear hk); (try clear hi); (try clear ho0); obtain ⟨Ao54, co54, eo54⟩ := Kd.S_slice HO448.out; subst eo54) | ((with_reducible refine gate_callee (f := 12) rfl ?_); refine goesL_ (some 69) rfl rfl Tryd.func12 dq29 rfl #[.slice Ao54 t446.length co54, .int .i64 a1, .string a2] rfl dq28 ?_; (with_reducible refine (impl_Select.calls kj17 _ _ t446 a1 a2 t449 _ ?side3 ?side1 ?side2 A41.out).mono ?_); (case side1 => exact dq19); (case side2 => exact (Kd.S_reads' HO448.out).2.1); (case side3 => exact dq8); rintro e w55 ⟨v450, rfl, ho0, hb⟩; refine ⟨_, rfl, ?_⟩; have n0_ := Aside0.mk (Kd.R_elder' dq152 (Kd.R_base ho0) hb); have n1_ := Aside0.mk (Kd.R_elder' dq63 (Kd.R_base ho0) hb); have n2_ := Aside0.mk (Kd.S_below dq153 hb); have n3_ := Aside0.mk (Kd.R_lower (Kd.R_new' (Kd.R_new' ho0 (Kd.R_lt dq152)) (Kd.R_lt dq63)) (below_size dq23)); have n4_ := Aside0.mk (below_step dq23 hb); clear HO_8; clear HO_10; clear HO448; clear HB; have HO_8 := n0_; have HO_10 := n1_; have HO448 := n2_; have HO451 := n3_; have HB := n4_; clear n0_ n1_ n2_ n3_ n4_; (try clear hb); (try clear hb2); (try clear hk); (try clear hi); (try clear ho0); obtain ⟨Ao56, co56, eo56⟩ := Kd.R_slice HO451.out; subst eo56) | ((with_reducible refine gate_callee (f := 13) rfl ?_); refine goesL_ (some 72) rfl rfl Tryd.func13 dq29 rfl #[.slice Ao56 t449.length co56, .slice Ao27 t427.length co27] rfl dq28 ?_; (with_reducible refine (laws_eqInt64S.calls kj17 _ _ t449 _ _ t427 true _ ?side1 ?side2 ?side3 ?side4 A42.out).mono ?_); (case side1 => exact dq20); (case side2 => exact (Kd.R_reads' HO451.out).2.1); (case side3 => exact dq21); (case side4 => exact (Kd.R_reads' HO_8.out).2.1); rintro e w' ⟨rfl, ⟨nd, rfl⟩⟩; refine ⟨_, rfl, ?_⟩) | ((with_reducible refine gate_callee (f := 17) rfl ?_); refine goesL_ (some 76) rfl rfl Tryd.func17 dq29 rfl #[.slice Ao26 t444.length co26, .int .i64 1] rfl dq151 ?_; (with_reducible refine (laws_heldInt64S.calls kj17 _ _ t444 1 t453 _ ?side1 ?side2 A44.out).mono ?_); (case side1 => exact dq6); (case side2 => exact dq18); rintro e w' ⟨rfl, ⟨nd, rfl⟩⟩; refine ⟨_, rfl, ?_⟩))
             go_ret
             exact ⟨dq25, dq23⟩
            ·rw [if_neg c51] at H
             have c51b0 := beq_eq_false_iff_ne.mpr c51
             have c51b1 := bne_iff_ne.mpr c51
             obtain rfl := Option.some.inj H
             go_wp2_with (first | ((with_reducible refine gate_callee (f := 16) rfl ?_); refine goesL_ (some 56) rfl rfl Tryd.func16 dq29 rfl #[.slice Ao26 t433.length co26, .int .i64 1] rfl dq28 ?_; (with_reducible refine (laws_markInt64S.calls kj17 (fun k_ => some k_ = (.slice Ao26 t433.length co26 : Value).ownBlock) (.slice Ao26 t433.length co26) t433 1 t443 t444 w _ ?side1 ?side2 A35.out).mono ?_); (case side1 => exact dq17); (case side2 => exact Kd.R_tight rfl HO_10.out); rintro e w57 ⟨rfl, hy0, hb, hkp⟩; refine ⟨_, rfl, ?_⟩; have n0_ := Aside0.mk (Kd.R_mono (ok' := fun k_ => some k_ ≠ (.slice Ao26 t433.length co26 : Value).ownBlock) (Kd.R_keptB (HO_8.out) hkp (fun k_ hk_ hs_ => (hk_) hs_)) (fun k_ hk_ => hk_.1)); have n1_ := Aside0.mk (Kd.R_reok rfl hy0 (fun k_ e_ => HO_10.out.1 k_ e_)); have n2_ := Aside0.mk (hb); clear HO_8; clear HO_10; clear HB; have HO_8 := n0_; have HO_10 := n1_; have HB := n2_; clear n0_ n1_ n2_; (try clear hb); (try clear hkp); (try clear hy0)) | ((with_reducible refine gate_callee (f := 17) rfl ?_); refine goesL_ (some 59) rfl rfl Tryd.func17 dq29 rfl #[.slice Ao26 t444.length co26, .int .i64 1] rfl dq151 ?_; (with_reducible refine (laws_heldInt64S.calls kj17 _ _ t444 1 t445 _ ?side1 ?side2 A36.out).mono ?_); (case side1 => exact dq6); (case side2 => exact dq18); rintro e w' ⟨rfl, ⟨nd, rfl⟩⟩; refine ⟨_, rfl, ?_⟩) | ((with_reducible refine gate_callee (f := 11) rfl ?_); refine goesL_ (some 66) rfl rfl Tryd.func11 dq29 rfl #[.slice A0 l0.length c0] rfl dq28 ?_; (with_reducible refine (laws_toItemS.calls kj17 _ _ l0 t446 _ ?side1 ?side2 A40.out).mono ?_); (case side1 => repeat (first | exact (Kd.C_below HR0.out dq23) | (with_reducible refine Kd.C_alloc ?_ _) | (with_reducible refine Kd.C_drewN ?_ _) | (with_reducible refine Kd.C_drew ?_))); (case side2 => exact dq4); rintro e w58 ⟨v447, rfl, ho0, hb⟩; refine ⟨_, rfl, ?_⟩; have n0_ := Aside0.mk (Kd.R_below dq152 hb); have n1_ := Aside0.mk (Kd.R_below dq63 hb); have n2_ := Aside0.mk (Kd.S_lower ho0 (below_size dq23)); have n3_ := Aside0.mk (below_step dq23 hb); clear HO_8; clear HO_10; clear HB; have HO_8 := n0_; have HO_10 := n1_; have HO448 := n2_; have HB := n3_; clear n0_ n1_ n2_ n3_; (try clear hb); (try clear hb2); (try clear hk); (try clear hi); (try clear ho0); obtain ⟨Ao59, co59, eo59⟩ := Kd.S_slice HO448.out; subst eo59) | ((with_reducible refine gate_callee (f := 12) rfl ?_); refine goesL_ (some 69) rfl rfl Tryd.func12 dq29 rfl #[.slice Ao59 t446.length co59, .int .i64 a1, .string a2] rfl dq28 ?_; (with_reducible refine (impl_Select.calls kj17 _ _ t446 a1 a2 t449 _ ?side3 ?side1 ?side2 A41.out).mono ?_); (case side1 => exact dq19); (case side2 => exact (Kd.S_reads' HO448.out).2.1); (case side3 => exact dq8); rintro e w60 ⟨v450, rfl, ho0, hb⟩; refine ⟨_, rfl, ?_⟩; have n0_ := Aside0.mk (Kd.R_elder' dq152 (Kd.R_base ho0) hb); have n1_ := Aside0.mk (Kd.R_elder' dq63 (Kd.R_base ho0) hb); have n2_ := Aside0.mk (Kd.S_below dq153 hb); have n3_ := Aside0.mk (Kd.R_lower (Kd.R_new' (Kd.R_new' ho0 (Kd.R_lt dq152)) (Kd.R_lt dq63)) (below_size dq23)); have n4_ := Aside0.mk (below_step dq23 hb); clear HO_8; clear HO_10; clear HO448; clear HB; have HO_8 := n0_; have HO_10 := n1_; have HO448 := n2_; have HO451 := n3_; have HB := n4_; clear n0_ n1_ n2_ n3_ n4_; (try clear hb); (try clear hb2); (try clear hk); (try clear hi); (try clear ho0); obtain ⟨Ao61, co61, eo61⟩ := Kd.R_slice HO451.out; subst eo61) | ((with_reducible refine gate_callee (f := 13) rfl ?_); refine goesL_ (some 72) rfl rfl Tryd.func13 dq29 rfl #[.slice Ao61 t449.length co61, .slice Ao27 t427.length co27] rfl dq28 ?_; (with_reducible refine (laws_eqInt64S.calls kj17 _ _ t449 _ _ t427 true _ ?side1 ?side2 ?side3 ?side4 A42.out).mono ?_); (case side1 => exact dq20); (case side2 => exact (Kd.R_reads' HO451.out).2.1); (case side3 => exact dq21); (case side4 => exact (Kd.R_reads' HO_8.out).2.1); rintro e w' ⟨rfl, ⟨nd, rfl⟩⟩; refine ⟨_, rfl, ?_⟩) | ((with_reducible refine gate_callee (f := 17) rfl ?_); refine goesL_ (some 76) rfl rfl Tryd.func17 dq29 rfl #[.slice Ao26 t444.length co26, .int .i64 1] rfl dq151 ?_; (with_reducible refine (laws_heldInt64S.calls kj17 _ _ t444 1 t453 _ ?side1 ?side2 A44.out).mono ?_); (case side1 => exact dq6); (case side2 => exact dq18); rintro e w' ⟨rfl, ⟨nd, rfl⟩⟩; refine ⟨_, rfl, ?_⟩))
             go_ret
             exact ⟨dq25, dq23⟩
          ·replace c43 := Bool.eq_false_iff.mpr c43
           subst c43
           have H1 : (some false) = some r := by rw [if_neg (show ¬ (false = true) by decide)] at H; exact H
           clear H
           have H := H1
           clear H1
           obtain rfl := Option.some.inj H
           go_wp2_with (first | ((with_reducible refine gate_callee (f := 16) rfl ?_); refine goesL_ (some 56) rfl rfl Tryd.func16 dq29 rfl #[.slice Ao26 t433.length co26, .int .i64 1] rfl dq28 ?_; (with_reducible refine (laws_markInt64S.calls kj17 (fun k_ => some k_ = (.slice Ao26 t433.length co26 : Value).ownBlock) (.slice Ao26 t433.length co26) t433 1 t443 t444 w _ ?side1 ?side2 A35.out).mono ?_); (case side1 => exact dq17); (case side2 => exact Kd.R_tight rfl HO_10.out); rintro e w62 ⟨rfl, hy0, hb, hkp⟩; refine ⟨_, rfl, ?_⟩; have n0_ := Aside0.mk (Kd.R_mono (ok' := fun k_ => some k_ ≠ (.slice Ao26 t433.length co26 : Value).ownBlock) (Kd.R_keptB (HO_8.out) hkp (fun k_ hk_ hs_ => (hk_) hs_)) (fun k_ hk_ => hk_.1)); have n1_ := Aside0.mk (Kd.R_reok rfl hy0 (fun k_ e_ => HO_10.out.1 k_ e_)); have n2_ := Aside0.mk (hb); clear HO_8; clear HO_10; clear HB; have HO_8 := n0_; have HO_10 := n1_; have HB := n2_; clear n0_ n1_ n2_; (try clear hb); (try clear hkp); (try clear hy0)) | ((with_reducible refine gate_callee (f := 17) rfl ?_); refine goesL_ (some 59) rfl rfl Tryd.func17 dq29 rfl #[.slice Ao26 t444.length co26, .int .i64 1] rfl dq151 ?_; (with_reducible refine (laws_heldInt64S.calls kj17 _ _ t444 1 t445 _ ?side1 ?side2 A36.out).mono ?_); (case side1 => exact dq6); (case side2 => exact dq18); rintro e w' ⟨rfl, ⟨nd, rfl⟩⟩; refine ⟨_, rfl, ?_⟩) | ((with_reducible refine gate_callee (f := 11) rfl ?_); refine goesL_ (some 66) rfl rfl Tryd.func11 dq29 rfl #[.slice A0 l0.length c0] rfl dq28 ?_; (with_reducible refine (laws_toItemS.calls kj17 _ _ l0 t446 _ ?side1 ?side2 A40.out).mono ?_); (case side1 => repeat (first | exact (Kd.C_below HR0.out dq23) | (with_reducible refine Kd.C_alloc ?_ _) | (with_reducible refine Kd.C_drewN ?_ _) | (with_reducible refine Kd.C_drew ?_))); (case side2 => exact dq4); rintro e w63 ⟨v447, rfl, ho0, hb⟩; refine ⟨_, rfl, ?_⟩; have n0_ := Aside0.mk (Kd.R_below dq152 hb); have n1_ := Aside0.mk (Kd.R_below dq63 hb); have n2_ := Aside0.mk (Kd.S_lower ho0 (below_size dq23)); have n3_ := Aside0.mk (below_step dq23 hb); clear HO_8; clear HO_10; clear HB; have HO_8 := n0_; have HO_10 := n1_; have HO448 := n2_; have HB := n3_; clear n0_ n1_ n2_ n3_; (try clear hb); (try clear hb2); (try clear hk); (try clear hi); (try clear ho0); obtain ⟨Ao64, co64, eo64⟩ := Kd.S_slice HO448.out; subst eo64) | ((with_reducible refine gate_callee (f := 12) rfl ?_); refine goesL_ (some 69) rfl rfl Tryd.func12 dq29 rfl #[.slice Ao64 t446.length co64, .int .i64 a1, .string a2] rfl dq28 ?_; (with_reducible refine (impl_Select.calls kj17 _ _ t446 a1 a2 t449 _ ?side3 ?side1 ?side2 A41.out).mono ?_); (case side1 => exact dq19); (case side2 => exact (Kd.S_reads' HO448.out).2.1); (case side3 => exact dq8); rintro e w65 ⟨v450, rfl, ho0, hb⟩; refine ⟨_, rfl, ?_⟩; have n0_ := Aside0.mk (Kd.R_elder' dq152 (Kd.R_base ho0) hb); have n1_ := Aside0.mk (Kd.R_elder' dq63 (Kd.R_base ho0) hb); have n2_ := Aside0.mk (Kd.S_below dq153 hb); have n3_ := Aside0.mk (Kd.R_lower (Kd.R_new' (Kd.R_new' ho0 (Kd.R_lt dq152)) (Kd.R_lt dq63)) (below_size dq23)); have n4_ := Aside0.mk (below_step dq23 hb); clear HO_8; clear HO_10; clear HO448; clear HB; have HO_8 := n0_; have HO_10 := n1_; have HO448 := n2_; have HO451 := n3_; have HB := n4_; clear n0_ n1_ n2_ n3_ n4_; (try clear hb); (try clear hb2); (try clear hk); (try clear hi); (try clear ho0); obtain ⟨Ao66, co66, eo66⟩ := Kd.R_slice HO451.out; subst eo66) | ((with_reducible refine gate_callee (f := 13) rfl ?_); refine goesL_ (some 72) rfl rfl Tryd.func13 dq29 rfl #[.slice Ao66 t449.length co66, .slice Ao27 t427.length co27] rfl dq28 ?_; (with_reducible refine (laws_eqInt64S.calls kj17 _ _ t449 _ _ t427 false _ ?side1 ?side2 ?side3 ?side4 A42.out).mono ?_); (case side1 => exact dq20); (case side2 => exact (Kd.R_reads' HO451.out).2.1); (case side3 => exact dq21); (case side4 => exact (Kd.R_reads' HO_8.out).2.1); rintro e w' ⟨rfl, ⟨nd, rfl⟩⟩; refine ⟨_, rfl, ?_⟩))
           go_ret
           exact ⟨dq25, dq23⟩
         ·rw [if_neg c39] at H
          have c39b0 := beq_eq_false_iff_ne.mpr c39
          have c39b1 := bne_iff_ne.mpr c39
          obtain rfl := Option.some.inj H
          go_wp2_with (first | ((with_reducible refine gate_callee (f := 16) rfl ?_); refine goesL_ (some 56) rfl rfl Tryd.func16 dq29 rfl #[.slice Ao26 t433.length co26, .int .i64 1] rfl dq28 ?_; (with_reducible refine (laws_markInt64S.calls kj17 (fun k_ => some k_ = (.slice Ao26 t433.length co26 : Value).ownBlock) (.slice Ao26 t433.length co26) t433 1 t443 t444 w _ ?side1 ?side2 A35.out).mono ?_); (case side1 => exact dq17); (case side2 => exact Kd.R_tight rfl HO_10.out); rintro e w67 ⟨rfl, hy0, hb, hkp⟩; refine ⟨_, rfl, ?_⟩; have n0_ := Aside0.mk (Kd.R_mono (ok' := fun k_ => some k_ ≠ (.slice Ao26 t433.length co26 : Value).ownBlock) (Kd.R_keptB (HO_8.out) hkp (fun k_ hk_ hs_ => (hk_) hs_)) (fun k_ hk_ => hk_.1)); have n1_ := Aside0.mk (Kd.R_reok rfl hy0 (fun k_ e_ => HO_10.out.1 k_ e_)); have n2_ := Aside0.mk (hb); clear HO_8; clear HO_10; clear HB; have HO_8 := n0_; have HO_10 := n1_; have HB := n2_; clear n0_ n1_ n2_; (try clear hb); (try clear hkp); (try clear hy0)) | ((with_reducible refine gate_callee (f := 17) rfl ?_); refine goesL_ (some 59) rfl rfl Tryd.func17 dq29 rfl #[.slice Ao26 t444.length co26, .int .i64 1] rfl dq151 ?_; (with_reducible refine (laws_heldInt64S.calls kj17 _ _ t444 1 t445 _ ?side1 ?side2 A36.out).mono ?_); (case side1 => exact dq6); (case side2 => exact dq18); rintro e w' ⟨rfl, ⟨nd, rfl⟩⟩; refine ⟨_, rfl, ?_⟩))
          go_ret
          exact ⟨dq25, dq23⟩
    ·replace c16 := Bool.eq_false_iff.mpr c16
     subst c16
     have H1 : (some false) = some r := by rw [if_neg (show ¬ (false = true) by decide)] at H; exact H
     clear H
     have H := H1
     clear H1
     obtain rfl := Option.some.inj H
     go_enter Tryd.func3, Tryd.ntmps3
     go_wp2_with (first | ((with_reducible refine gate_callee (f := 9) rfl ?_); refine goesL_ (some 20) rfl rfl Tryd.func9 dq29 rfl #[.slice A0 l0.length c0, .int .i64 1048576] rfl dq28 ?_; (with_reducible refine (laws_szItemS.calls k _ _ l0 1048576 t423 _ ?side1 ?side2 A5.out).mono ?_); (case side1 => exact dq7); (case side2 => exact dq4); rintro e w68 ⟨rfl, hb⟩; refine ⟨_, rfl, ?_⟩; have n0_ := Aside0.mk (below_step dq23 hb); clear HB; have HB := n0_; clear n0_; (try clear hb); (try clear hb2); (try clear hk); (try clear hi)) | ((with_reducible refine gate_callee (f := 11) rfl ?_); refine goesL_ (some 24) rfl rfl Tryd.func11 dq29 rfl #[.slice A0 l0.length c0] rfl dq28 ?_; (with_reducible refine (laws_toItemS.calls k _ _ l0 t424 _ ?side1 ?side2 A8.out).mono ?_); (case side1 => exact dq3); (case side2 => exact dq4); rintro e w69 ⟨v425, rfl, ho0, hb⟩; refine ⟨_, rfl, ?_⟩; have n0_ := Aside0.mk (Kd.S_lower ho0 (below_size dq23)); have n1_ := Aside0.mk (below_step dq23 hb); clear HB; have HO426 := n0_; have HB := n1_; clear n0_ n1_; (try clear hb); (try clear hb2); (try clear hk); (try clear hi); (try clear ho0); obtain ⟨Ao70, co70, eo70⟩ := Kd.S_slice HO426.out; subst eo70) | ((with_reducible refine gate_callee (f := 10) rfl ?_); refine goesL_ (some 27) rfl rfl Tryd.func10 dq29 rfl #[.slice Ao70 t424.length co70, .int .i64 a1, .string a2] rfl dq28 ?_; (with_reducible refine (spec_Select.calls k _ _ t424 a1 a2 t427 _ ?side1 ?side2 A9.out).mono ?_); (case side1 => exact dq13); (case side2 => exact (Kd.S_reads' HO426.out).2.1); rintro e w71 ⟨v428, rfl, ho0, hb⟩; refine ⟨_, rfl, ?_⟩; have n0_ := Aside0.mk (Kd.S_below dq148 hb); have n1_ := Aside0.mk (Kd.R_lower ho0 (below_size dq23)); have n2_ := Aside0.mk (below_step dq23 hb); clear HO426; clear HB; have HO426 := n0_; have HO429 := n1_; have HB := n2_; clear n0_ n1_ n2_; (try clear hb); (try clear hb2); (try clear hk); (try clear hi); (try clear ho0)) | ((with_reducible refine gate_callee (f := 11) rfl ?_); refine goesL_ (some 29) rfl rfl Tryd.func11 dq29 rfl #[.slice A0 l0.length c0] rfl dq28 ?_; (with_reducible refine (laws_toItemS.calls k _ _ l0 t430 _ ?side1 ?side2 A10.out).mono ?_); (case side1 => exact dq3); (case side2 => exact dq4); rintro e w72 ⟨v431, rfl, ho0, hb⟩; refine ⟨_, rfl, ?_⟩; have n0_ := Aside0.mk (Kd.S_elder' dq148 (Kd.S_base ho0) hb); have n1_ := Aside0.mk (Kd.R_below dq146 hb); have n2_ := Aside0.mk (Kd.S_lower (Kd.S_new' ho0 (Kd.S_lt dq148)) (below_size dq23)); have n3_ := Aside0.mk (below_step dq23 hb); clear HO426; clear HO429; clear HB; have HO426 := n0_; have HO429 := n1_; have HO432 := n2_; have HB := n3_; clear n0_ n1_ n2_ n3_; (try clear hb); (try clear hb2); (try clear hk); (try clear hi); (try clear ho0); obtain ⟨Ao73, co73, eo73⟩ := Kd.S_slice HO432.out; subst eo73) | ((with_reducible refine gate_callee (f := 12) rfl ?_); refine goesL_ (some 33) rfl rfl Tryd.func12 dq29 rfl #[.slice Ao73 t430.length co73, .int .i64 a1, .string a2] rfl dq28 ?_; (with_reducible refine (impl_Select.calls k _ _ t430 a1 a2 t433 _ ?side3 ?side1 ?side2 A11.out).mono ?_); (case side1 => exact dq14); (case side2 => exact (Kd.S_reads' HO432.out).2.1); (case side3 => exact dq8); rintro e w74 ⟨v434, rfl, ho0, hb⟩; refine ⟨_, rfl, ?_⟩; have n0_ := Aside0.mk (Kd.S_below dq148 hb); have n1_ := Aside0.mk (Kd.R_elder' dq146 (Kd.R_base ho0) hb); have n2_ := Aside0.mk (Kd.S_below dq147 hb); have n3_ := Aside0.mk (Kd.R_lower (Kd.R_new' ho0 (Kd.R_lt dq146)) (below_size dq23)); have n4_ := Aside0.mk (below_step dq23 hb); clear HO426; clear HO429; clear HO432; clear HB; have HO426 := n0_; have HO429 := n1_; have HO432 := n2_; have HO435 := n3_; have HB := n4_; clear n0_ n1_ n2_ n3_ n4_; (try clear hb); (try clear hb2); (try clear hk); (try clear hi); (try clear ho0); obtain ⟨Ao75, co75, eo75⟩ := Kd.R_slice HO435.out; subst eo75; obtain ⟨Ao76, co76, eo76⟩ := Kd.R_slice HO429.out; subst eo76) | ((with_reducible refine gate_callee (f := 13) rfl ?_); refine goesL_ (some 36) rfl rfl Tryd.func13 dq29 rfl #[.slice Ao75 t433.length co75, .slice Ao76 t427.length co76] rfl dq28 ?_; (with_reducible refine (laws_eqInt64S.calls k _ _ t433 _ _ t427 true _ ?side1 ?side2 ?side3 ?side4 A12.out).mono ?_); (case side1 => exact dq15); (case side2 => exact (Kd.R_reads' HO435.out).2.1); (case side3 => exact dq16); (case side4 => exact (Kd.R_reads' HO429.out).2.1); rintro e w' ⟨rfl, ⟨nd, rfl⟩⟩; refine ⟨_, rfl, ?_⟩) | ((with_reducible refine gate_callee (f := 11) rfl ?_); refine goesL_ (some 40) rfl rfl Tryd.func11 dq29 rfl #[.slice A0 l0.length c0] rfl dq28 ?_; (with_reducible refine (laws_toItemS.calls k _ _ l0 t437 _ ?side1 ?side2 A14.out).mono ?_); (case side1 => repeat (first | exact (Kd.C_below HR0.out dq23) | (with_reducible refine Kd.C_alloc ?_ _) | (with_reducible refine Kd.C_drewN ?_ _) | (with_reducible refine Kd.C_drew ?_))); (case side2 => exact dq4); rintro e w77 ⟨v438, rfl, ho0, hb⟩; refine ⟨_, rfl, ?_⟩; have n0_ := Aside0.mk (Kd.S_elder' dq148 (Kd.S_base ho0) hb); have n1_ := Aside0.mk (Kd.R_below dq146 hb); have n2_ := Aside0.mk (Kd.S_elder' dq147 (Kd.S_base ho0) hb); have n3_ := Aside0.mk (Kd.R_below dq145 hb); have n4_ := Aside0.mk (Kd.S_lower (Kd.S_new' (Kd.S_new' ho0 (Kd.S_lt dq148)) (Kd.S_lt dq147)) (below_size dq23)); have n5_ := Aside0.mk (below_step dq23 hb); clear HO426; clear HO429; clear HO432; clear HO435; clear HB; have HO426 := n0_; have HO429 := n1_; have HO432 := n2_; have HO435 := n3_; have HO439 := n4_; have HB := n5_; clear n0_ n1_ n2_ n3_ n4_ n5_; (try clear hb); (try clear hb2); (try clear hk); (try clear hi); (try clear ho0); obtain ⟨Ao78, co78, eo78⟩ := Kd.S_slice HO439.out; subst eo78) | ((with_reducible refine gate_callee (f := 14) rfl ?_); refine goesL_ (some 41) rfl rfl Tryd.func14 dq29 rfl #[.slice Ao73 t430.length co73, .slice Ao78 t437.length co78] rfl dq28 ?_; (with_reducible refine (laws_eqItemS.calls k _ _ t430 _ _ t437 false _ ?side1 ?side2 ?side3 ?side4 A15.out).mono ?_); (case side1 => exact dq14); (case side2 => exact (Kd.S_reads' HO432.out).2.1); (case side3 => repeat (first | exact (Kd.S_reads' HO439.out).2.2 | (with_reducible refine Kd.C_alloc ?_ _) | (with_reducible refine Kd.C_drewN ?_ _) | (with_reducible refine Kd.C_drew ?_))); (case side4 => exact (Kd.S_reads' HO439.out).2.1); rintro e w79 ⟨rfl, hb⟩; refine ⟨_, rfl, ?_⟩; have n0_ := Aside0.mk (Kd.S_below dq148 hb); have n1_ := Aside0.mk (Kd.R_below dq146 hb); have n2_ := Aside0.mk (Kd.S_below dq147 hb); have n3_ := Aside0.mk (Kd.R_below dq145 hb); have n4_ := Aside0.mk (Kd.S_below (by (with_reducible repeat (first | apply Kd.S_alloc | apply Kd.S_drewN | apply Kd.S_drew)); exact HO439.out) hb); have n5_ := Aside0.mk (below_step dq23 hb); clear HO426; clear HO429; clear HO432; clear HO435; clear HO439; clear HB; have HO426 := n0_; have HO429 := n1_; have HO432 := n2_; have HO435 := n3_; have HO439 := n4_; have HB := n5_; clear n0_ n1_ n2_ n3_ n4_ n5_; (try clear hb); (try clear hb2); (try clear hk); (try clear hi)))
     go_ret
     exact ⟨dq25, dq23⟩
   ·replace c13 := Bool.eq_false_iff.mpr c13
    subst c13
    have H1 : (some false) = some r := by rw [if_neg (show ¬ (false = true) by decide)] at H; exact H
    clear H
    have H := H1
    clear H1
    obtain rfl := Option.some.inj H
    go_enter Tryd.func3, Tryd.ntmps3
    go_wp2_with (first | ((with_reducible refine gate_callee (f := 9) rfl ?_); refine goesL_ (some 20) rfl rfl Tryd.func9 dq29 rfl #[.slice A0 l0.length c0, .int .i64 1048576] rfl dq28 ?_; (with_reducible refine (laws_szItemS.calls k _ _ l0 1048576 t423 _ ?side1 ?side2 A5.out).mono ?_); (case side1 => exact dq7); (case side2 => exact dq4); rintro e w80 ⟨rfl, hb⟩; refine ⟨_, rfl, ?_⟩; have n0_ := Aside0.mk (below_step dq23 hb); clear HB; have HB := n0_; clear n0_; (try clear hb); (try clear hb2); (try clear hk); (try clear hi)) | ((with_reducible refine gate_callee (f := 11) rfl ?_); refine goesL_ (some 24) rfl rfl Tryd.func11 dq29 rfl #[.slice A0 l0.length c0] rfl dq28 ?_; (with_reducible refine (laws_toItemS.calls k _ _ l0 t424 _ ?side1 ?side2 A8.out).mono ?_); (case side1 => exact dq3); (case side2 => exact dq4); rintro e w81 ⟨v425, rfl, ho0, hb⟩; refine ⟨_, rfl, ?_⟩; have n0_ := Aside0.mk (Kd.S_lower ho0 (below_size dq23)); have n1_ := Aside0.mk (below_step dq23 hb); clear HB; have HO426 := n0_; have HB := n1_; clear n0_ n1_; (try clear hb); (try clear hb2); (try clear hk); (try clear hi); (try clear ho0); obtain ⟨Ao82, co82, eo82⟩ := Kd.S_slice HO426.out; subst eo82) | ((with_reducible refine gate_callee (f := 10) rfl ?_); refine goesL_ (some 27) rfl rfl Tryd.func10 dq29 rfl #[.slice Ao82 t424.length co82, .int .i64 a1, .string a2] rfl dq28 ?_; (with_reducible refine (spec_Select.calls k _ _ t424 a1 a2 t427 _ ?side1 ?side2 A9.out).mono ?_); (case side1 => exact dq13); (case side2 => exact (Kd.S_reads' HO426.out).2.1); rintro e w83 ⟨v428, rfl, ho0, hb⟩; refine ⟨_, rfl, ?_⟩; have n0_ := Aside0.mk (Kd.S_below dq148 hb); have n1_ := Aside0.mk (Kd.R_lower ho0 (below_size dq23)); have n2_ := Aside0.mk (below_step dq23 hb); clear HO426; clear HB; have HO426 := n0_; have HO429 := n1_; have HB := n2_; clear n0_ n1_ n2_; (try clear hb); (try clear hb2); (try clear hk); (try clear hi); (try clear ho0)) | ((with_reducible refine gate_callee (f := 11) rfl ?_); refine goesL_ (some 29) rfl rfl Tryd.func11 dq29 rfl #[.slice A0 l0.length c0] rfl dq28 ?_; (with_reducible refine (laws_toItemS.calls k _ _ l0 t430 _ ?side1 ?side2 A10.out).mono ?_); (case side1 => exact dq3); (case side2 => exact dq4); rintro e w84 ⟨v431, rfl, ho0, hb⟩; refine ⟨_, rfl, ?_⟩; have n0_ := Aside0.mk (Kd.S_elder' dq148 (Kd.S_base ho0) hb); have n1_ := Aside0.mk (Kd.R_below dq146 hb); have n2_ := Aside0.mk (Kd.S_lower (Kd.S_new' ho0 (Kd.S_lt dq148)) (below_size dq23)); have n3_ := Aside0.mk (below_step dq23 hb); clear HO426; clear HO429; clear HB; have HO426 := n0_; have HO429 := n1_; have HO432 := n2_; have HB := n3_; clear n0_ n1_ n2_ n3_; (try clear hb); (try clear hb2); (try clear hk); (try clear hi); (try clear ho0); obtain ⟨Ao85, co85, eo85⟩ := Kd.S_slice HO432.out; subst eo85) | ((with_reducible refine gate_callee (f := 12) rfl ?_); refine goesL_ (some 33) rfl rfl Tryd.func12 dq29 rfl #[.slice Ao85 t430.length co85, .int .i64 a1, .string a2] rfl dq28 ?_; (with_reducible refine (impl_Select.calls k _ _ t430 a1 a2 t433 _ ?side3 ?side1 ?side2 A11.out).mono ?_); (case side1 => exact dq14); (case side2 => exact (Kd.S_reads' HO432.out).2.1); (case side3 => exact dq8); rintro e w86 ⟨v434, rfl, ho0, hb⟩; refine ⟨_, rfl, ?_⟩; have n0_ := Aside0.mk (Kd.S_below dq148 hb); have n1_ := Aside0.mk (Kd.R_elder' dq146 (Kd.R_base ho0) hb); have n2_ := Aside0.mk (Kd.S_below dq147 hb); have n3_ := Aside0.mk (Kd.R_lower (Kd.R_new' ho0 (Kd.R_lt dq146)) (below_size dq23)); have n4_ := Aside0.mk (below_step dq23 hb); clear HO426; clear HO429; clear HO432; clear HB; have HO426 := n0_; have HO429 := n1_; have HO432 := n2_; have HO435 := n3_; have HB := n4_; clear n0_ n1_ n2_ n3_ n4_; (try clear hb); (try clear hb2); (try clear hk); (try clear hi); (try clear ho0); obtain ⟨Ao87, co87, eo87⟩ := Kd.R_slice HO435.out; subst eo87; obtain ⟨Ao88, co88, eo88⟩ := Kd.R_slice HO429.out; subst eo88) | ((with_reducible refine gate_callee (f := 13) rfl ?_); refine goesL_ (some 36) rfl rfl Tryd.func13 dq29 rfl #[.slice Ao87 t433.length co87, .slice Ao88 t427.length co88] rfl dq28 ?_; (with_reducible refine (laws_eqInt64S.calls k _ _ t433 _ _ t427 false _ ?side1 ?side2 ?side3 ?side4 A12.out).mono ?_); (case side1 => exact dq15); (case side2 => exact (Kd.R_reads' HO435.out).2.1); (case side3 => exact dq16); (case side4 => exact (Kd.R_reads' HO429.out).2.1); rintro e w' ⟨rfl, ⟨nd, rfl⟩⟩; refine ⟨_, rfl, ?_⟩))
    go_ret
    exact ⟨dq25, dq23⟩

end Go.Proofs.YtpmjpbaeecnpiaaDoor.L

namespace Go.Proofs.YtpmjpbaeecnpiaaDoor.Pure
open Go.RowKit Go.Proofs.YtpmjpbaeecnpiaaDoor.L Go.Proofs.YtpmjpbaeecnpiaaDoorW.PrintWords Go.Proofs.YtpmjpbaeecnpiaaDoorW.PrintLast Go.Proofs.YtpmjpbaeecnpiaaDoorW.PrintMore
set_option linter.unusedVariables false
set_option linter.unusedSimpArgs false

theorem ba_ext {a b : ByteArray} (h : a.data.toList = b.data.toList) : a = b := by
  cases a; cases b; simp only [ByteArray.mk.injEq]; exact Array.toList_inj.mp h
theorem ba_app (a b : ByteArray) : (a ++ b).data.toList = a.data.toList ++ b.data.toList := by
  rw [ByteArray.data_append, Array.toList_append]
theorem sz (a : ByteArray) : a.size = a.data.toList.length := (data_length a).symm
theorem w64 {n : Int} (h : -9223372036854775808 ≤ n) (h' : n ≤ 9223372036854775807) : wrap64 n = n := by unfold wrap64; omega
theorem bt_nat (s : ByteArray) (i : Nat) (h : i < s.data.toList.length) : bt s (i : Int) = ((s.data.toList[i]).toNat : Int) := by
  have h' : i < s.size := by rw [sz]; exact h
  unfold bt
  rw [dif_pos (by simpa using h')]
  simp only [Int.toNat_natCast]
  rfl
theorem first_bt (s : ByteArray) (b : UInt8) (l : List UInt8) (h : s.data.toList = b :: l) : bt s 0 = (b.toNat : Int) := by
  have := bt_nat s 0 (by rw [h]; simp)
  simp only [h, Int.ofNat_zero, List.getElem_cons_zero] at this
  simpa using this
def mkB (l : List UInt8) : ByteArray := ⟨l.toArray⟩
theorem mkB_list (l : List UInt8) : (mkB l).data.toList = l := by simp [mkB]
theorem mkB_of (s : ByteArray) : mkB s.data.toList = s := ba_ext (mkB_list _)
theorem byte_is (b : UInt8) (n : Nat) (hn : n < 256) : ((b.toNat : Int) = (n : Int)) ↔ b = UInt8.ofNat n := by
  constructor
  · intro h
    apply UInt8.toNat.inj
    rw [UInt8.toNat_ofNat']
    omega
  · intro h; subst h; rw [UInt8.toNat_ofNat']; omega
/-- The pieces of a row of bytes between strokes, the first one behind what was gathered. -/
def segs : List UInt8 → List UInt8 → List (List UInt8)
  | acc, [] => [acc]
  | acc, b :: t => if b = 47 then acc :: segs [] t else segs (acc ++ [b]) t
theorem segs_miss : ∀ (l acc : List UInt8), (∀ k : Nat, l[k]? ≠ some 47) → segs acc l = [acc ++ l]
  | [], acc, _ => by simp [segs]
  | b :: t, acc, h => by
    have hb : b ≠ 47 := fun e => h 0 (by simp [e])
    have ht : ∀ k : Nat, t[k]? ≠ some 47 := fun k => by simpa using h (k + 1)
    unfold segs
    rw [if_neg hb, segs_miss t (acc ++ [b]) ht]
    simp
theorem segs_hit : ∀ (i : Nat) (l acc : List UInt8), l[i]? = some 47 → (∀ k : Nat, k < i → l[k]? ≠ some 47) → segs acc l = (acc ++ l.take i) :: segs [] (l.drop (i + 1))
  | i, [], acc, h, _ => by simp at h
  | 0, b :: t, acc, h, _ => by
    have hb : b = 47 := by simpa using h
    rw [segs, if_pos hb]
    simp
  | i + 1, b :: t, acc, h, h2 => by
    have hb : b ≠ 47 := fun e => h2 0 (by omega) (by simp [e])
    have h' : t[i]? = some 47 := by simpa using h
    have h2' : ∀ k : Nat, k < i → t[k]? ≠ some 47 := fun k hk => by simpa using h2 (k + 1) (by omega)
    rw [segs, if_neg hb, segs_hit i t (acc ++ [b]) h' h2']
    simp
theorem slash_size : slash.size = 1 := rfl
theorem slash_index (s : ByteArray) : Lib.indexB s slash = Lib.indexByte s.data.toList 47 := by
  rw [Lib.one s slash slash_size]
  rfl
theorem names_of_aux : ∀ (n : Nat) (s : ByteArray), s.size ≤ n → (namesOf s).map (fun x => x.data.toList) = segs [] s.data.toList := by
  intro n
  induction n with
  | zero =>
    intro s hs
    rcases Lib.indexB_cases s slash with hix | ⟨i, _, hroom⟩
    · unfold namesOf
      rw [Lib.splitB_miss slash 0 _ s hix]
      rw [slash_index] at hix
      rw [segs_miss _ _ (Lib.indexByte_none hix)]
      simp
    · rw [slash_size] at hroom; omega
  | succ n ih =>
    intro s hs
    rcases Lib.indexB_cases s slash with hix | ⟨i, hix, hroom⟩
    · unfold namesOf
      rw [Lib.splitB_miss slash 0 _ s hix]
      rw [slash_index] at hix
      rw [segs_miss _ _ (Lib.indexByte_none hix)]
      simp
    · rw [slash_size] at hroom
      have e2 : (s.extract (i + 1) s.size).size = s.size - (i + 1) := by rw [ByteArray.size_extract]; omega
      have := ih (s.extract (i + 1) s.size) (by omega)
      unfold namesOf at this ⊢
      rw [Lib.countB_hit s slash i (by decide) hix, Nat.add_comm, Lib.splitB_hit slash 0 _ s i hix]
      rw [slash_size, List.map_cons, this]
      rw [slash_index] at hix
      obtain ⟨h1, h2⟩ := Lib.indexByte_some hix
      rw [segs_hit i _ [] h1 h2]
      congr 1
      · simp
      · rw [Lib.extract_to_end]
theorem names_of (s : ByteArray) : (namesOf s).map (fun x => x.data.toList) = segs [] s.data.toList := names_of_aux s.size s (Nat.le_refl _)
theorem names_len (s : ByteArray) : (namesOf s).length = Lib.countB s slash + 1 := Lib.splitB_all slash (by decide) 0 _ s rfl
theorem names_most (s : ByteArray) : (namesOf s).length ≤ s.size + 1 := by
  rw [names_len]
  have := Lib.countB_le slash (by decide) s.size s (Nat.le_refl _)
  omega

/-- A row of bytes that is a name. -/
def fstB (b : UInt8) : Bool := decide (97 ≤ b.toNat ∧ b.toNat ≤ 122) || decide (65 ≤ b.toNat ∧ b.toNat ≤ 90) || decide (b.toNat = 95)
def moreB (b : UInt8) : Bool := fstB b || decide (48 ≤ b.toNat ∧ b.toNat ≤ 57) || decide (b.toNat = 46) || decide (b.toNat = 45)
def nameB : List UInt8 → Bool
  | [] => false
  | b :: t => fstB b && t.all moreB && decide (t.length + 1 ≤ 40)
theorem u8_all {p : UInt8 → Prop} (h : ∀ n : Fin 256, p (UInt8.ofNat n.val)) (b : UInt8) : p b := by
  have := h ⟨b.toNat, b.toNat_lt⟩
  simpa using this
theorem first_f (b : UInt8) : spec_l1First.f (b.toNat : Int) = some (fstB b) := by
  revert b
  refine u8_all ?_
  decide +kernel
theorem more_f (b : UInt8) : spec_l1More.f (b.toNat : Int) = some (moreB b) := by
  revert b
  refine u8_all ?_
  decide +kernel
theorem spec_name_l0 (s : ByteArray) (hs : s.data.toList.length ≤ 9223372036854775806) : ∀ (n i : Nat), i + n = s.data.toList.length →
    Ev (fun k => spec_NameOk.l0 k s (i : Int)) ((s.data.toList.drop i).all moreB) := by
  intro n
  induction n with
  | zero =>
    intro i hi
    refine Ev.step (f := fun _ => some true) (fun k => ?_) ?_
    · unfold spec_NameOk.l0
      rw [if_neg (by rw [sz]; omega)]
    · rw [List.drop_of_length_le (by omega)]; exact Ev.now _
  | succ n ih =>
    intro i hi
    have hlt : i < s.data.toList.length := by omega
    have e : spec_l1More.f (bt s (i : Int)) = some (moreB (s.data.toList[i])) := by rw [bt_nat s i hlt]; exact more_f _
    have hd : s.data.toList.drop i = s.data.toList[i] :: s.data.toList.drop (i + 1) := List.drop_eq_getElem_cons hlt
    have w : wrap64 ((i : Int) + 1) = ((i + 1 : Nat) : Int) := by rw [w64] <;> omega
    by_cases c : moreB (s.data.toList[i]) = true
    · refine Ev.step (f := fun k => spec_NameOk.l0 k s ((i + 1 : Nat) : Int)) (fun k => ?_) ?_
      · conv => lhs; unfold spec_NameOk.l0
        rw [if_pos (by rw [sz]; omega), if_pos (by omega), e]
        simp only [Option.bind_some, if_pos c, w]
      · rw [hd, List.all_cons, c, Bool.true_and]; exact ih (i + 1) (by omega)
    · refine Ev.step (f := fun _ => some false) (fun k => ?_) ?_
      · conv => lhs; unfold spec_NameOk.l0
        rw [if_pos (by rw [sz]; omega), if_pos (by omega), e]
        simp only [Option.bind_some, if_neg c]
      · rw [hd, List.all_cons]
        rw [Bool.not_eq_true] at c
        rw [c, Bool.false_and]; exact Ev.now _
theorem spec_name (s : ByteArray) : Ev (fun k => spec_NameOk.f k s) (nameB s.data.toList) := by
  cases hl : s.data.toList with
  | nil =>
    refine Ev.congr (f := fun k => spec_NameOk.j0 k s true) (fun k => ?_) ?_
    · unfold spec_NameOk.f
      rw [if_pos (by rw [sz, hl]; decide)]
    · refine Ev.step (f := fun _ => some false) (fun k => ?_) (Ev.now _)
      rfl
  | cons b t =>
    have hz : (s.size : Int) = (t.length : Int) + 1 := by rw [sz, hl]; simp
    by_cases c : t.length + 1 ≤ 40
    · refine Ev.congr (f := fun k => spec_NameOk.j0 k s (!fstB b)) (fun k => ?_) ?_
      · unfold spec_NameOk.f
        rw [if_neg (by omega), if_neg (by omega), if_pos (by omega), first_bt s b t hl, first_f]
        rfl
      · by_cases d : fstB b = true
        · refine Ev.step (f := fun k => spec_NameOk.l0 k s ((1 : Nat) : Int)) (fun k => ?_) ?_
          · rw [d]; rfl
          · have := spec_name_l0 s (by rw [hl]; simp; omega) t.length 1 (by rw [hl]; simp; omega)
            rw [hl] at this
            have e : nameB (b :: t) = ((b :: t).drop 1).all moreB := by simp [nameB, d, c]
            rw [e]; exact this
        · rw [Bool.not_eq_true] at d
          have e : nameB (b :: t) = false := by simp [nameB, d]
          rw [e]
          refine Ev.step (f := fun _ => some false) (fun k => ?_) (Ev.now _)
          rw [d]; rfl
    · have e : nameB (b :: t) = false := by simp [nameB, c]
      rw [e]
      refine Ev.congr (f := fun k => spec_NameOk.j0 k s true) (fun k => ?_) ?_
      · unfold spec_NameOk.f
        rw [if_neg (by omega), if_pos (by omega)]
      · refine Ev.step (f := fun _ => some false) (fun k => ?_) (Ev.now _)
        rfl

def lenB (n : Nat) : Bool := decide (1 ≤ n) && decide (n ≤ 40)
theorem in_len (n : Nat) : impl_in.f (n : Int) 1 40 = some (lenB n) := by
  unfold impl_in.f lenB
  by_cases h : 1 ≤ n
  · rw [if_pos (by omega)]; simp [h]; omega
  · rw [if_neg (by omega)]; simp [h]
theorem fst_iff (b : UInt8) : fstB b = true ↔ ((97 ≤ (b.toNat : Int) ∧ (b.toNat : Int) ≤ 122) ∨ (65 ≤ (b.toNat : Int) ∧ (b.toNat : Int) ≤ 90) ∨ (b.toNat : Int) = 95) := by
  unfold fstB
  simp only [Bool.or_eq_true, decide_eq_true_eq]
  omega
theorem more_iff (b : UInt8) : moreB b = true ↔ (((97 ≤ (b.toNat : Int) ∧ (b.toNat : Int) ≤ 122) ∨ (65 ≤ (b.toNat : Int) ∧ (b.toNat : Int) ≤ 90) ∨ (b.toNat : Int) = 95) ∨ (48 ≤ (b.toNat : Int) ∧ (b.toNat : Int) ≤ 57) ∨ (b.toNat : Int) = 46 ∨ (b.toNat : Int) = 45) := by
  unfold moreB
  simp only [Bool.or_eq_true, decide_eq_true_eq, fst_iff]
  omega
theorem impl_name_l0 (s : ByteArray) (hs : s.data.toList.length ≤ 9223372036854775806) : ∀ (n i : Nat), 1 ≤ i → i + n = s.data.toList.length →
    Ev (fun k => impl_NameOk.l0 k s (s.size : Int) (i : Int)) ((s.data.toList.drop i).all moreB && lenB s.data.toList.length) := by
  intro n
  induction n with
  | zero =>
    intro i h1 hi
    refine Ev.step (f := fun _ => some (lenB s.data.toList.length)) (fun k => ?_) ?_
    · unfold impl_NameOk.l0
      rw [if_neg (by rw [sz]; omega), sz, in_len]
      rfl
    · rw [List.drop_of_length_le (by omega)]; exact Ev.now _
  | succ n ih =>
    intro i h1 hi
    have hlt : i < s.data.toList.length := by omega
    have hd : s.data.toList.drop i = s.data.toList[i] :: s.data.toList.drop (i + 1) := List.drop_eq_getElem_cons hlt
    have w : wrap64 ((i : Int) + 1) = ((i + 1 : Nat) : Int) := by rw [w64] <;> omega
    have hm := more_iff (s.data.toList[i])
    by_cases c : moreB (s.data.toList[i]) = true
    · have hv := hm.1 c
      refine Ev.step (f := fun k => impl_NameOk.l0 k s (s.size : Int) ((i + 1 : Nat) : Int)) (fun k => ?_) ?_
      · conv => lhs; unfold impl_NameOk.l0
        rw [if_pos (by rw [sz]; omega), if_pos (by omega), if_pos (by rw [sz]; omega), bt_nat s i hlt, w]
        generalize impl_NameOk.l0 k s (s.size : Int) ((i + 1 : Nat) : Int) = X
        generalize ((s.data.toList[i]).toNat : Int) = v at hv
        clear hm ih c hd w hs hi hlt
        have hi0 : ¬ (i : Int) = 0 := by omega
        simp only [if_neg hi0]
        clear hi0 h1
        repeat' split
        all_goals first | rfl | (exfalso; omega)
      · rw [hd, List.all_cons, c, Bool.true_and]; exact ih (i + 1) (by omega) (by omega)
    · have hv := mt hm.2 c
      refine Ev.step (f := fun _ => some false) (fun k => ?_) ?_
      · conv => lhs; unfold impl_NameOk.l0
        rw [if_pos (by rw [sz]; omega), if_pos (by omega), if_pos (by rw [sz]; omega), bt_nat s i hlt, w]
        generalize impl_NameOk.l0 k s (s.size : Int) ((i + 1 : Nat) : Int) = X
        generalize ((s.data.toList[i]).toNat : Int) = v at hv
        clear hm ih c hd w hs hi hlt
        have hi0 : ¬ (i : Int) = 0 := by omega
        simp only [if_neg hi0]
        clear hi0 h1
        repeat' split
        all_goals first | rfl | (exfalso; omega)
      · rw [hd, List.all_cons]
        rw [Bool.not_eq_true] at c
        rw [c, Bool.false_and, Bool.false_and]; exact Ev.now _
theorem impl_name (s : ByteArray) (hs : s.data.toList.length ≤ 9223372036854775806) : Ev (fun k => impl_NameOk.f k s) (nameB s.data.toList) := by
  cases hl : s.data.toList with
  | nil =>
    unfold impl_NameOk.f
    refine Ev.step (f := fun _ => some false) (fun k => ?_) (Ev.now _)
    unfold impl_NameOk.l0
    have hz : s.size = 0 := by rw [sz, hl]; rfl
    rw [if_neg (by omega), hz]
    rfl
  | cons b t =>
    have hlt : 0 < s.data.toList.length := by rw [hl]; simp
    have hlen : s.data.toList.length = t.length + 1 := by rw [hl]; simp
    have w : wrap64 ((0 : Int) + 1) = ((1 : Nat) : Int) := by rw [w64 (by omega) (by omega)]; rfl
    have hm := fst_iff b
    have eb : bt s 0 = (b.toNat : Int) := first_bt s b t hl
    unfold impl_NameOk.f
    by_cases c : fstB b = true
    · have hv := hm.1 c
      refine Ev.step (f := fun k => impl_NameOk.l0 k s (s.size : Int) ((1 : Nat) : Int)) (fun k => ?_) ?_
      · conv => lhs; unfold impl_NameOk.l0
        rw [if_pos (by rw [sz]; omega), if_pos (by omega), if_pos (by rw [sz]; omega), eb, w]
        generalize impl_NameOk.l0 k s (s.size : Int) ((1 : Nat) : Int) = X
        generalize (b.toNat : Int) = v at hv
        clear hm c eb w hs hlt hlen hl
        simp only [if_true]
        repeat' split
        all_goals first | rfl | (exfalso; omega)
      · have := impl_name_l0 s hs t.length 1 (by omega) (by omega)
        rw [hl] at this
        have e : nameB (b :: t) = (((b :: t).drop 1).all moreB && lenB (b :: t).length) := by
          simp [nameB, lenB, c]
        rw [e]; exact this
    · have hv := mt hm.2 c
      refine Ev.step (f := fun _ => some false) (fun k => ?_) ?_
      · conv => lhs; unfold impl_NameOk.l0
        rw [if_pos (by rw [sz]; omega), if_pos (by omega), if_pos (by rw [sz]; omega), eb, w]
        generalize impl_NameOk.l0 k s (s.size : Int) ((1 : Nat) : Int) = X
        generalize (b.toNat : Int) = v at hv
        clear hm c eb w hs hlt hlen hl
        simp only [if_true]
        repeat' split
        all_goals first | rfl | (exfalso; omega)
      · rw [Bool.not_eq_true] at c
        have e : nameB (b :: t) = false := by simp [nameB, c]
        rw [e]; exact Ev.now _
def B (s : ByteArray) (i : Nat) : Nat := (s.get! i).toNat
theorem B_lt (s : ByteArray) (i : Nat) : B s i < 256 := (s.get! i).toNat_lt
theorem bt_B (s : ByteArray) (i : Nat) (h : i < s.size) : bt s (i : Int) = (B s i : Int) := by
  have hl : i < s.data.toList.length := by rw [← sz]; exact h
  rw [bt_nat s i hl]
  have h2 : i < s.data.size := by simpa using hl
  have e : s.get! i = s.data[i] := by unfold ByteArray.get!; exact getElem!_pos s.data i h2
  unfold B
  rw [e]
  simp
theorem tm (b m : Nat) : Int.tmod (b : Int) (m : Int) = ((b % m : Nat) : Int) := (Int.ofNat_tmod b m).symm
def charB (x : Nat) : Bool := decide (x ≤ 55295) || (decide (57344 ≤ x) && decide (x ≤ 1114111))
theorem char_f (x : Nat) : spec_l1Char.f (x : Int) = some (charB x) := by
  unfold spec_l1Char.f spec_l1In.f charB
  by_cases h1 : x ≤ 55295
  · rw [if_pos (by omega)]
    have : decide ((x : Int) ≤ 55295) = true := decide_eq_true (by omega)
    rw [this]
    simp [h1]
  · rw [if_pos (by omega)]
    have : decide ((x : Int) ≤ 55295) = false := decide_eq_false (by omega)
    rw [this]
    simp only [Option.bind_some, Bool.false_eq_true, if_false]
    by_cases h2 : 57344 ≤ x
    · rw [if_pos (by omega)]
      have e : decide ((x : Int) ≤ 1114111) = decide (x ≤ 1114111) := by simp only [decide_eq_decide]; omega
      simp [h1, h2, e]
    · rw [if_neg (by omega)]
      simp [h1, h2]
def finV (x n low : Nat) : Int × Int := if x < low then (0, 0) else if charB x = true then ((x : Int), (n : Int)) else (0, 0)
theorem l0_end (s : ByteArray) (x n low : Nat) : Ev (fun k => spec_l1Rune.l0 k s (x : Int) (n : Int) (low : Int) (n : Int)) (finV x n low) := by
  refine Ev.step (f := fun _ => some (finV x n low)) (fun k => ?_) (Ev.now _)
  conv => lhs; unfold spec_l1Rune.l0
  rw [if_neg (by omega), char_f]
  unfold finV
  by_cases h : x < low
  · rw [if_pos (by omega), if_pos h]
  · rw [if_neg (by omega), if_neg h]
    simp only [Option.bind_some]
    cases charB x <;> rfl
theorem l0_go (s : ByteArray) (x n low i : Nat) (hi : i < n) (hs : i < s.size) (hn : n ≤ 4) (hx : x < 4194304) (hc : B s i / 64 = 2) (r : Int × Int)
    (h : Ev (fun k => spec_l1Rune.l0 k s ((64 * x + B s i % 64 : Nat) : Int) (n : Int) (low : Int) ((i + 1 : Nat) : Int)) r) : Ev (fun k => spec_l1Rune.l0 k s (x : Int) (n : Int) (low : Int) (i : Int)) r := by
  have hb := B_lt s i
  refine Ev.step (fun k => ?_) h
  conv => lhs; unfold spec_l1Rune.l0
  have e1 : wrap64 (64 * (x : Int)) = ((64 * x : Nat) : Int) := by rw [w64] <;> omega
  have e2 : wrap64 (Int.tmod (B s i : Int) 64) = ((B s i % 64 : Nat) : Int) := by
    have := tm (B s i) 64
    rw [show ((64 : Nat) : Int) = 64 from rfl] at this
    rw [this, w64] <;> omega
  have e3 : wrap64 (((64 * x : Nat) : Int) + ((B s i % 64 : Nat) : Int)) = ((64 * x + B s i % 64 : Nat) : Int) := by rw [w64] <;> omega
  have e4 : wrap64 ((i : Int) + 1) = ((i + 1 : Nat) : Int) := by rw [w64] <;> omega
  rw [if_pos (by omega), if_pos (by omega), if_pos (by omega), bt_B s i hs, if_neg (by omega), if_neg (by omega), e1, e2, e3, e4]
theorem l0_no (s : ByteArray) (x n low i : Nat) (hi : i < n) (hs : i < s.size) (hc : ¬ B s i / 64 = 2) : Ev (fun k => spec_l1Rune.l0 k s (x : Int) (n : Int) (low : Int) (i : Int)) (0, 0) := by
  have hb := B_lt s i
  refine Ev.step (f := fun _ => some (0, 0)) (fun k => ?_) (Ev.now _)
  conv => lhs; unfold spec_l1Rune.l0
  rw [if_pos (by omega), if_pos (by omega), if_pos (by omega), bt_B s i hs]
  by_cases h : B s i < 128
  · rw [if_pos (by omega)]
  · rw [if_neg (by omega), if_pos (by omega)]
/-- What the reference says of the first character: the model's decoding, 0 bytes where that fails. -/
def runeV (s : ByteArray) : Int × Int := if (Utf8.decode s 0).1 = 65533 ∧ (Utf8.decode s 0).2 = 1 then (0, 0) else (((Utf8.decode s 0).1 : Int), ((Utf8.decode s 0).2 : Int))
def runeN (n b0 b1 b2 b3 : Nat) : Int × Int := if (Lib.decodeN n b0 b1 b2 b3).1 = 65533 ∧ (Lib.decodeN n b0 b1 b2 b3).2 = 1 then (0, 0) else (((Lib.decodeN n b0 b1 b2 b3).1 : Int), ((Lib.decodeN n b0 b1 b2 b3).2 : Int))
theorem runeV_N (s : ByteArray) : runeV s = runeN s.size (B s 0) (B s 1) (B s 2) (B s 3) := by
  unfold runeV runeN B
  rw [Lib.decode_at s 0]
  simp only [Nat.sub_zero, Nat.zero_add]
theorem j2_few (s : ByteArray) (x n low : Nat) (h : s.size < n) : Ev (fun k => spec_l1Rune.j2 k s (x : Int) (n : Int) (low : Int)) (0, 0) := by
  refine Ev.step (f := fun _ => some (0, 0)) (fun k => ?_) (Ev.now _)
  have e : spec_l1Rune.j2 (k + 1) s (x : Int) (n : Int) (low : Int) = (if (s.size : Int) < (n : Int) then some (0, 0) else spec_l1Rune.l0 k s (x : Int) (n : Int) (low : Int) 1) := rfl
  rw [e, if_pos (by omega)]
theorem j2_go (s : ByteArray) (x n low : Nat) (h : n ≤ s.size) (r : Int × Int) (hr : Ev (fun k => spec_l1Rune.l0 k s (x : Int) (n : Int) (low : Int) ((1 : Nat) : Int)) r) : Ev (fun k => spec_l1Rune.j2 k s (x : Int) (n : Int) (low : Int)) r := by
  refine Ev.step (f := fun k => spec_l1Rune.l0 k s (x : Int) (n : Int) (low : Int) ((1 : Nat) : Int)) (fun k => ?_) hr
  have e : spec_l1Rune.j2 (k + 1) s (x : Int) (n : Int) (low : Int) = (if (s.size : Int) < (n : Int) then some (0, 0) else spec_l1Rune.l0 k s (x : Int) (n : Int) (low : Int) 1) := rfl
  rw [e, if_neg (by omega)]
  rfl
theorem bad_N {n b0 b1 b2 b3 : Nat} (h : Lib.decodeN n b0 b1 b2 b3 = (65533, 1)) : runeN n b0 b1 b2 b3 = (0, 0) := by
  unfold runeN; rw [h]; rfl
theorem two_rune (s : ByteArray) (h0 : B s 0 / 32 = 6) : Ev (fun k => spec_l1Rune.j2 k s ((B s 0 % 32 : Nat) : Int) ((2 : Nat) : Int) ((128 : Nat) : Int)) (runeN s.size (B s 0) (B s 1) (B s 2) (B s 3)) := by
  have hb := B_lt s 0
  by_cases hz : s.size < 2
  · rw [bad_N]
    · exact j2_few s _ 2 128 hz
    · unfold Lib.decodeN
      rw [if_neg (by omega), if_neg (by omega), if_neg (by omega), if_neg (by omega)]
  · refine j2_go s _ 2 128 (by omega) _ ?_
    by_cases c1 : B s 1 / 64 = 2
    · refine l0_go s _ 2 128 1 (by omega) (by omega) (by omega) (by omega) c1 _ ?_
      have e : runeN s.size (B s 0) (B s 1) (B s 2) (B s 3) = finV (64 * (B s 0 % 32) + B s 1 % 64) 2 128 := by
        unfold runeN Lib.decodeN finV charB
        rw [if_neg (show ¬ B s 0 < 128 by omega), if_pos (show B s 0 / 32 = 6 ∧ (1 < s.size ∧ B s 1 / 64 = 2) from ⟨h0, by omega, c1⟩)]
        by_cases c : B s 0 % 32 * 64 + B s 1 % 64 ≥ 128
        · rw [if_pos c, if_neg (show ¬ (64 * (B s 0 % 32) + B s 1 % 64) < 128 by omega)]
          rw [decide_eq_true (show 64 * (B s 0 % 32) + B s 1 % 64 ≤ 55295 by omega)]
          simp only [Bool.true_or, if_true]
          rw [if_neg (show ¬ (B s 0 % 32 * 64 + B s 1 % 64 = 65533 ∧ (2 : Nat) = 1) by omega)]
          congr 1
          omega
        · rw [if_neg c, if_pos (show (64 * (B s 0 % 32) + B s 1 % 64) < 128 by omega)]
          rfl
      rw [e]
      exact l0_end s _ 2 128
    · rw [bad_N]
      · exact l0_no s _ 2 128 1 (by omega) (by omega) c1
      · unfold Lib.decodeN
        rw [if_neg (by omega), if_neg (by omega), if_neg (by omega), if_neg (by omega)]
theorem three_rune (s : ByteArray) (h0 : B s 0 / 16 = 14) : Ev (fun k => spec_l1Rune.j2 k s ((B s 0 % 16 : Nat) : Int) ((3 : Nat) : Int) ((2048 : Nat) : Int)) (runeN s.size (B s 0) (B s 1) (B s 2) (B s 3)) := by
  have hb := B_lt s 0
  by_cases hz : s.size < 3
  · rw [bad_N]
    · exact j2_few s _ 3 2048 hz
    · unfold Lib.decodeN
      rw [if_neg (by omega), if_neg (by omega), if_neg (by omega), if_neg (by omega)]
  · refine j2_go s _ 3 2048 (by omega) _ ?_
    by_cases c1 : B s 1 / 64 = 2
    · refine l0_go s _ 3 2048 1 (by omega) (by omega) (by omega) (by omega) c1 _ ?_
      by_cases c2 : B s 2 / 64 = 2
      · refine l0_go s _ 3 2048 2 (by omega) (by omega) (by omega) (by omega) c2 _ ?_
        have e : runeN s.size (B s 0) (B s 1) (B s 2) (B s 3) = finV (64 * (64 * (B s 0 % 16) + B s 1 % 64) + B s 2 % 64) 3 2048 := by
          obtain ⟨y, hy⟩ : ∃ y, 64 * (64 * (B s 0 % 16) + B s 1 % 64) + B s 2 % 64 = y := ⟨_, rfl⟩
          have hy2 : B s 0 % 16 * 4096 + B s 1 % 64 * 64 + B s 2 % 64 = y := by omega
          unfold runeN Lib.decodeN
          rw [hy, hy2, if_neg (show ¬ B s 0 < 128 by omega), if_neg (show ¬ (B s 0 / 32 = 6 ∧ (1 < s.size ∧ B s 1 / 64 = 2)) by omega), if_pos (show B s 0 / 16 = 14 ∧ (1 < s.size ∧ B s 1 / 64 = 2) ∧ (2 < s.size ∧ B s 2 / 64 = 2) from ⟨h0, ⟨by omega, c1⟩, by omega, c2⟩)]
          clear hy hy2
          unfold finV charB
          by_cases d : y < 2048
          · rw [if_neg (show ¬ (y ≥ 2048 ∧ (y < 55296 ∨ (57344 ≤ y ∧ y ≤ 1114111))) by omega), if_pos d]; rfl
          · by_cases d2 : y < 55296 ∨ (57344 ≤ y ∧ y ≤ 1114111)
            · rw [if_pos (show y ≥ 2048 ∧ (y < 55296 ∨ (57344 ≤ y ∧ y ≤ 1114111)) from ⟨by omega, d2⟩), if_neg (show ¬ (((y, 3) : Nat × Nat).1 = 65533 ∧ ((y, 3) : Nat × Nat).2 = 1) from fun h => by cases h.2), if_neg d, if_pos (show (decide (y ≤ 55295) || (decide (57344 ≤ y) && decide (y ≤ 1114111))) = true by simp only [Bool.or_eq_true, Bool.and_eq_true, decide_eq_true_eq]; omega)]
            · rw [if_neg (show ¬ (y ≥ 2048 ∧ (y < 55296 ∨ (57344 ≤ y ∧ y ≤ 1114111))) by omega), if_neg d, if_neg (show ¬ ((decide (y ≤ 55295) || (decide (57344 ≤ y) && decide (y ≤ 1114111))) = true) by simp only [Bool.or_eq_true, Bool.and_eq_true, decide_eq_true_eq]; omega)]; rfl
        rw [e]
        exact l0_end s _ 3 2048
      · rw [bad_N]
        · exact l0_no s _ 3 2048 2 (by omega) (by omega) c2
        · unfold Lib.decodeN
          rw [if_neg (by omega), if_neg (by omega), if_neg (by omega), if_neg (by omega)]
    · rw [bad_N]
      · exact l0_no s _ 3 2048 1 (by omega) (by omega) c1
      · unfold Lib.decodeN
        rw [if_neg (by omega), if_neg (by omega), if_neg (by omega), if_neg (by omega)]
theorem four_rune (s : ByteArray) (h0 : B s 0 / 8 = 30) : Ev (fun k => spec_l1Rune.j2 k s ((B s 0 % 8 : Nat) : Int) ((4 : Nat) : Int) ((65536 : Nat) : Int)) (runeN s.size (B s 0) (B s 1) (B s 2) (B s 3)) := by
  have hb := B_lt s 0
  by_cases hz : s.size < 4
  · rw [bad_N]
    · exact j2_few s _ 4 65536 hz
    · unfold Lib.decodeN
      rw [if_neg (by omega), if_neg (by omega), if_neg (by omega), if_neg (by omega)]
  · refine j2_go s _ 4 65536 (by omega) _ ?_
    by_cases c1 : B s 1 / 64 = 2
    · refine l0_go s _ 4 65536 1 (by omega) (by omega) (by omega) (by omega) c1 _ ?_
      by_cases c2 : B s 2 / 64 = 2
      · refine l0_go s _ 4 65536 2 (by omega) (by omega) (by omega) (by omega) c2 _ ?_
        by_cases c3 : B s 3 / 64 = 2
        · refine l0_go s _ 4 65536 3 (by omega) (by omega) (by omega) (by omega) c3 _ ?_
          have e : runeN s.size (B s 0) (B s 1) (B s 2) (B s 3) = finV (64 * (64 * (64 * (B s 0 % 8) + B s 1 % 64) + B s 2 % 64) + B s 3 % 64) 4 65536 := by
            obtain ⟨y, hy⟩ : ∃ y, 64 * (64 * (64 * (B s 0 % 8) + B s 1 % 64) + B s 2 % 64) + B s 3 % 64 = y := ⟨_, rfl⟩
            have hy2 : B s 0 % 8 * 262144 + B s 1 % 64 * 4096 + B s 2 % 64 * 64 + B s 3 % 64 = y := by omega
            unfold runeN Lib.decodeN
            rw [hy, hy2, if_neg (show ¬ B s 0 < 128 by omega), if_neg (show ¬ (B s 0 / 32 = 6 ∧ (1 < s.size ∧ B s 1 / 64 = 2)) by omega), if_neg (show ¬ (B s 0 / 16 = 14 ∧ (1 < s.size ∧ B s 1 / 64 = 2) ∧ (2 < s.size ∧ B s 2 / 64 = 2)) by omega), if_pos (show B s 0 / 8 = 30 ∧ (1 < s.size ∧ B s 1 / 64 = 2) ∧ (2 < s.size ∧ B s 2 / 64 = 2) ∧ (3 < s.size ∧ B s 3 / 64 = 2) from ⟨h0, ⟨by omega, c1⟩, ⟨by omega, c2⟩, by omega, c3⟩)]
            clear hy hy2
            unfold finV charB
            by_cases d : y < 65536
            · rw [if_neg (show ¬ (y ≥ 65536 ∧ (y < 55296 ∨ (57344 ≤ y ∧ y ≤ 1114111))) by omega), if_pos d]; rfl
            · by_cases d2 : y < 55296 ∨ (57344 ≤ y ∧ y ≤ 1114111)
              · rw [if_pos (show y ≥ 65536 ∧ (y < 55296 ∨ (57344 ≤ y ∧ y ≤ 1114111)) from ⟨by omega, d2⟩), if_neg (show ¬ (((y, 4) : Nat × Nat).1 = 65533 ∧ ((y, 4) : Nat × Nat).2 = 1) from fun h => by cases h.2), if_neg d, if_pos (show (decide (y ≤ 55295) || (decide (57344 ≤ y) && decide (y ≤ 1114111))) = true by simp only [Bool.or_eq_true, Bool.and_eq_true, decide_eq_true_eq]; omega)]
              · rw [if_neg (show ¬ (y ≥ 65536 ∧ (y < 55296 ∨ (57344 ≤ y ∧ y ≤ 1114111))) by omega), if_neg d, if_neg (show ¬ ((decide (y ≤ 55295) || (decide (57344 ≤ y) && decide (y ≤ 1114111))) = true) by simp only [Bool.or_eq_true, Bool.and_eq_true, decide_eq_true_eq]; omega)]; rfl
          rw [e]
          exact l0_end s _ 4 65536
        · rw [bad_N]
          · exact l0_no s _ 4 65536 3 (by omega) (by omega) c3
          · unfold Lib.decodeN
            rw [if_neg (by omega), if_neg (by omega), if_neg (by omega), if_neg (by omega)]
      · rw [bad_N]
        · exact l0_no s _ 4 65536 2 (by omega) (by omega) c2
        · unfold Lib.decodeN
          rw [if_neg (by omega), if_neg (by omega), if_neg (by omega), if_neg (by omega)]
    · rw [bad_N]
      · exact l0_no s _ 4 65536 1 (by omega) (by omega) c1
      · unfold Lib.decodeN
        rw [if_neg (by omega), if_neg (by omega), if_neg (by omega), if_neg (by omega)]
theorem tmod_of (b m : Nat) : Int.tmod (b : Int) (m : Int) = ((b % m : Nat) : Int) := tm b m
theorem j0_true (k : Nat) (s : ByteArray) (x : Int) : spec_l1Rune.j0 (k + 1) s x true = spec_l1Rune.j2 k s (Int.tmod x 32) 2 128 := rfl
theorem j0_false (k : Nat) (s : ByteArray) (x : Int) : spec_l1Rune.j0 (k + 1) s x false = (if x ≥ 224 then (spec_l1Rune.j1 k s x (decide (x < 240))) else (spec_l1Rune.j1 k s x false)) := rfl
theorem j1_true (k : Nat) (s : ByteArray) (x : Int) : spec_l1Rune.j1 (k + 1) s x true = spec_l1Rune.j2 k s (Int.tmod x 16) 3 2048 := rfl
theorem j1_false (k : Nat) (s : ByteArray) (x : Int) : spec_l1Rune.j1 (k + 1) s x false = (if x ≥ 240 then (if x < 248 then (spec_l1Rune.j2 k s (Int.tmod x 8) 4 65536) else (some (0, 0))) else (some (0, 0))) := rfl
theorem rune_f (s : ByteArray) (hne : 0 < s.size) : Ev (fun k => spec_l1Rune.f k s) (runeV s) := by
  rw [runeV_N]
  have hb := B_lt s 0
  have hnil : ¬ s.toList = ([] : List UInt8) := by
    rw [Lib.toList_data]
    intro e
    rw [sz, e] at hne
    simp at hne
  have hw : wrap64 (bt s 0) = (B s 0 : Int) := by
    have := bt_B s 0 hne
    rw [show ((0 : Nat) : Int) = 0 from rfl] at this
    rw [this, w64] <;> omega
  by_cases a : B s 0 < 128
  · refine Ev.congr (f := fun _ => some ((B s 0 : Int), 1)) (fun k => ?_) ?_
    · unfold spec_l1Rune.f
      rw [if_neg hnil, if_pos (by omega), hw, if_pos (by omega)]
    · have : runeN s.size (B s 0) (B s 1) (B s 2) (B s 3) = ((B s 0 : Int), 1) := by
        unfold runeN Lib.decodeN
        rw [if_pos a, if_neg (show ¬ (B s 0 = 65533 ∧ (1 : Nat) = 1) by omega)]
        rfl
      rw [this]
      exact Ev.now _
  · have hf : ∀ k, spec_l1Rune.f k s = if (B s 0 : Int) ≥ 192 then (spec_l1Rune.j0 k s (B s 0 : Int) (decide ((B s 0 : Int) < 224))) else (spec_l1Rune.j0 k s (B s 0 : Int) false) := by
      intro k
      unfold spec_l1Rune.f
      rw [if_neg hnil, if_pos (by omega), hw, if_neg (by omega)]
    by_cases c2 : B s 0 / 32 = 6
    · refine Ev.congr (f := fun k => spec_l1Rune.j0 k s (B s 0 : Int) true) (fun k => ?_) ?_
      · rw [hf, if_pos (by omega), decide_eq_true (by omega)]
      · refine Ev.step (f := fun k => spec_l1Rune.j2 k s ((B s 0 % 32 : Nat) : Int) ((2 : Nat) : Int) ((128 : Nat) : Int)) (fun k => ?_) (two_rune s c2)
        rw [j0_true, ← tmod_of]
        rfl
    · have hj1 : ∀ r, Ev (fun k => if (B s 0 : Int) ≥ 224 then (spec_l1Rune.j1 k s (B s 0 : Int) (decide ((B s 0 : Int) < 240))) else (spec_l1Rune.j1 k s (B s 0 : Int) false)) r → Ev (fun k => spec_l1Rune.f k s) r := by
        intro r hr
        refine Ev.congr (f := fun k => spec_l1Rune.j0 k s (B s 0 : Int) false) (fun k => ?_) ?_
        · rw [hf]
          by_cases d : (B s 0 : Int) ≥ 192
          · rw [if_pos d, decide_eq_false (by omega)]
          · rw [if_neg d]
        · exact Ev.step (fun k => j0_false k s _) hr
      by_cases c3 : B s 0 / 16 = 14
      · refine hj1 _ ?_
        refine Ev.congr (f := fun k => spec_l1Rune.j1 k s (B s 0 : Int) true) (fun k => ?_) ?_
        · rw [if_pos (by omega), decide_eq_true (by omega)]
        · refine Ev.step (f := fun k => spec_l1Rune.j2 k s ((B s 0 % 16 : Nat) : Int) ((3 : Nat) : Int) ((2048 : Nat) : Int)) (fun k => ?_) (three_rune s c3)
          rw [j1_true, ← tmod_of]
          rfl
      · have hj1f : ∀ r, Ev (fun k => if (B s 0 : Int) ≥ 240 then (if (B s 0 : Int) < 248 then (spec_l1Rune.j2 k s (Int.tmod (B s 0 : Int) 8) 4 65536) else (some (0, 0))) else (some (0, 0))) r → Ev (fun k => spec_l1Rune.f k s) r := by
          intro r hr
          refine hj1 _ ?_
          refine Ev.congr (f := fun k => spec_l1Rune.j1 k s (B s 0 : Int) false) (fun k => ?_) ?_
          · by_cases d : (B s 0 : Int) ≥ 224
            · rw [if_pos d, decide_eq_false (by omega)]
            · rw [if_neg d]
          · exact Ev.step (fun k => j1_false k s _) hr
        refine hj1f _ ?_
        by_cases c4 : B s 0 / 8 = 30
        · refine Ev.congr (f := fun k => spec_l1Rune.j2 k s ((B s 0 % 8 : Nat) : Int) ((4 : Nat) : Int) ((65536 : Nat) : Int)) (fun k => ?_) (four_rune s c4)
          rw [if_pos (by omega), if_pos (by omega), ← tmod_of]
          rfl
        · rw [bad_N]
          · refine Ev.congr (f := fun _ => some (0, 0)) (fun k => ?_) (Ev.now _)
            by_cases d : (B s 0 : Int) ≥ 240
            · rw [if_pos d, if_neg (by omega)]
            · rw [if_neg d]
          · unfold Lib.decodeN
            rw [if_neg (by omega), if_neg (by omega), if_neg (by omega), if_neg (by omega)]
def runesV (s : ByteArray) : List Int × Bool := if 20000 < s.size then ([], false) else if Lib.validD s.data.toList = true then (runesOf s, true) else ([], false)
theorem impl_runes (s : ByteArray) (hs : s.size ≤ 9223372036854775807) : impl_Runes.f s = some (runesV s) := by
  unfold impl_Runes.f runesV
  rw [if_pos hs]
  split
  · rfl
  · split <;> rfl
theorem spec_runes_l0 (s : ByteArray) (hs : s.size ≤ 20000) : ∀ (fuel pos : Nat) (acc : List Int), s.size ≤ pos + fuel → pos ≤ s.size → acc.length ≤ pos →
    Ev (fun k => spec_Runes.l0 k (s.extract pos s.size) acc) (if Lib.validD (s.data.toList.drop pos) = true then (acc ++ runesFrom s fuel pos, true) else ([], false)) := by
  intro fuel
  have hend : ∀ (fuel pos : Nat) (acc : List Int), pos = s.size → Ev (fun k => spec_Runes.l0 k (s.extract pos s.size) acc) (if Lib.validD (s.data.toList.drop pos) = true then (acc ++ runesFrom s fuel pos, true) else ([], false)) := by
    intro fuel pos acc e
    have hd : s.data.toList.drop pos = [] := List.drop_of_length_le (by rw [← sz]; omega)
    rw [runesFrom_end s fuel pos (by omega), hd, Lib.validD_nil, if_pos rfl, List.append_nil]
    refine Ev.step (f := fun _ => some (acc, true)) (fun k => ?_) (Ev.now _)
    conv => lhs; unfold spec_Runes.l0
    rw [if_pos (by rw [Lib.toList_data, Lib.extract_to_end, hd])]
  induction fuel with
  | zero =>
    intro pos acc h1 h2 h3
    exact hend 0 pos acc (by omega)
  | succ f ih =>
    intro pos acc h1 h2 h3
    by_cases he : pos = s.size
    · exact hend (f + 1) pos acc he
    · obtain ⟨t, ht⟩ : ∃ t, s.extract pos s.size = t := ⟨_, rfl⟩
      have htl : t.data.toList = s.data.toList.drop pos := by rw [← ht]; exact Lib.extract_to_end s pos
      have htz : t.size = s.size - pos := by rw [sz t, htl, List.length_drop, ← sz]
      have hne : s.data.toList.drop pos ≠ [] := by
        intro e
        have := congrArg List.length e
        rw [List.length_drop, ← sz] at this
        simp at this
        omega
      have hdec : Utf8.decode t 0 = Utf8.decode s pos := by
        have e1 := Lib.decodeL_drop t 0
        have e2 := Lib.decodeL_drop s pos
        rw [List.drop_zero, htl] at e1
        rw [← e1, e2]
      have hdl := Lib.decodeL_drop s pos
      have hstep := Lib.validD_step (s.data.toList.drop pos) hne
      have hle := Lib.decodeL_le (s.data.toList.drop pos) hne
      rw [hdl] at hstep hle
      rw [List.length_drop, ← sz] at hle
      have hw := rune_width s pos (by omega)
      have hr := rune_f t (by omega)
      have hV : runeV t = if (Utf8.decode s pos).1 = 65533 ∧ (Utf8.decode s pos).2 = 1 then (0, 0) else (((Utf8.decode s pos).1 : Int), ((Utf8.decode s pos).2 : Int)) := by
        unfold runeV
        rw [hdec]
      have hnil : ¬ t.toList = ([] : List UInt8) := by rw [Lib.toList_data, htl]; exact hne
      rw [ht]
      have hf : ∀ k, spec_Runes.l0 (k + 1) t acc = (spec_l1Rune.f k t).bind fun bt111 => (if bt111.2 = 0 then (some (([] : List Int), false)) else (if acc.length < 17592186044416 then (if 0 ≤ bt111.2 then (if bt111.2 ≤ (t.size : Int) then (spec_Runes.l0 k (t.extract (bt111.2 : Int).toNat t.size) (acc ++ [bt111.1])) else (none)) else (none)) else (none))) := by
        intro k
        conv => lhs; unfold spec_Runes.l0
        rw [if_neg hnil]
      refine Ev.step hf (Ev.bind hr ?_)
      rw [hV, hstep]
      by_cases hb : (Utf8.decode s pos).1 = 65533 ∧ (Utf8.decode s pos).2 = 1
      · rw [if_pos hb, if_pos hb, if_neg (by decide)]
        simp only [if_true]
        exact Ev.now _
      · rw [if_neg hb, if_neg hb]
        have hx : t.extract (Utf8.decode s pos).2 t.size = s.extract (pos + (Utf8.decode s pos).2) s.size := by
          apply ba_ext
          rw [Lib.extract_to_end, htl, Lib.extract_to_end, List.drop_drop]
        have hih := ih (pos + (Utf8.decode s pos).2) (acc ++ [((Utf8.decode s pos).1 : Int)]) (by omega) (by omega) (by simp; omega)
        rw [List.drop_drop]
        have hrf : runesFrom s (f + 1) pos = ((Utf8.decode s pos).1 : Int) :: runesFrom s f (pos + (Utf8.decode s pos).2) := by
          simp [runesFrom, show pos < s.size by omega]
        rw [hrf, ← hx] at *
        simp only [if_neg (show ¬ ((Utf8.decode s pos).2 : Int) = 0 by omega), if_pos (show acc.length < 17592186044416 by omega), if_pos (show (0 : Int) ≤ ((Utf8.decode s pos).2 : Int) by omega), if_pos (show ((Utf8.decode s pos).2 : Int) ≤ (t.size : Int) by omega), Int.toNat_natCast]
        simpa using hih
theorem spec_runes (s : ByteArray) : Ev (fun k => spec_Runes.f k s) (runesV s) := by
  unfold runesV
  by_cases c : 20000 < s.size
  · rw [if_pos c]
    refine Ev.congr (f := fun _ => some (([] : List Int), false)) (fun k => ?_) (Ev.now _)
    unfold spec_Runes.f
    rw [if_pos (by omega)]
  · rw [if_neg c]
    have h := spec_runes_l0 s (by omega) s.size 0 [] (by omega) (by omega) (by simp)
    have e : s.extract 0 s.size = s := by apply ba_ext; rw [Lib.extract_to_end, List.drop_zero]
    rw [e, List.drop_zero, List.nil_append] at h
    refine Ev.congr (f := fun k => spec_Runes.l0 k s []) (fun k => ?_) h
    unfold spec_Runes.f
    rw [if_neg (by omega)]
theorem Ev.step2' {α : Type} {g f : Nat → Option α} {r : α} (h : ∀ k, g (k + 1 + 1) = f k) (k : Ev f r) : Ev g r := Ev.step (f := fun k => g (k + 1)) (fun _ => rfl) (Ev.step h k)
theorem w1n {i m : Nat} (h : i < m) (hm : m ≤ 9223372036854775807) : wrap64 ((i : Int) + 1) = ((i + 1 : Nat) : Int) := by rw [w64] <;> omega
theorem idx_is {l : List UInt8} {c : UInt8} {i : Nat} (h1 : l[i]? = some c) (h2 : ∀ k : Nat, k < i → l[k]? ≠ some c) : Lib.indexByte l c = (i : Int) := by
  have hge := Lib.indexByte_ge l c
  by_cases e : Lib.indexByte l c = -1
  · exact absurd h1 (Lib.indexByte_none e i)
  · obtain ⟨o, ho⟩ := Int.eq_ofNat_of_zero_le (show 0 ≤ Lib.indexByte l c by omega)
    obtain ⟨h3, h4⟩ := Lib.indexByte_some ho
    rw [ho]
    rcases Nat.lt_trichotomy o i with h | h | h
    · exact absurd h3 (h2 o h)
    · rw [h]
    · exact absurd h1 (h4 i h)
theorem idx_no {l : List UInt8} {c : UInt8} (h : ∀ k : Nat, l[k]? ≠ some c) : Lib.indexByte l c = -1 := by
  have hge := Lib.indexByte_ge l c
  by_cases e : Lib.indexByte l c = -1
  · exact e
  · obtain ⟨o, ho⟩ := Int.eq_ofNat_of_zero_le (show 0 ≤ Lib.indexByte l c by omega)
    exact absurd (Lib.indexByte_some ho).1 (h o)
def noB : ByteArray := ⟨#[]⟩
/-- A name: its prefix, and what stands behind it. -/
def splitV (s : ByteArray) : ByteArray × ByteArray × Bool :=
  if 0 ≤ Lib.indexByte s.data.toList 58 then (if nameB (s.data.toList.take (Lib.indexByte s.data.toList 58).toNat) = true then (if nameB (s.data.toList.drop ((Lib.indexByte s.data.toList 58).toNat + 1)) = true then (s.extract 0 (Lib.indexByte s.data.toList 58).toNat, s.extract ((Lib.indexByte s.data.toList 58).toNat + 1) s.size, true) else (noB, noB, false)) else (noB, noB, false))
  else if nameB s.data.toList = true then (noB, s, true) else (noB, noB, false)
theorem ex_to (s : ByteArray) (n : Nat) : (s.extract 0 n).data.toList = s.data.toList.take n := by
  simp [ByteArray.data_extract]
theorem ex_from (s : ByteArray) (n : Nat) : (s.extract n s.size).data.toList = s.data.toList.drop n := Lib.extract_to_end s n
theorem impl_split (s : ByteArray) (hs : s.data.toList.length ≤ 9223372036854775806) : Ev (fun k => impl_Split.f k s) (splitV s) := by
  have hc : strings_Cut.f s ⟨#[58]⟩ = some (if 0 ≤ Lib.indexByte s.data.toList 58 then (s.extract 0 (Lib.indexByte s.data.toList 58).toNat, s.extract ((Lib.indexByte s.data.toList 58).toNat + 1) s.size, true) else (s, ⟨#[]⟩, false)) := by
    unfold strings_Cut.f
    simp only
    rw [if_pos (by rw [sz]; omega)]
    split <;> rfl
  unfold splitV
  by_cases h : 0 ≤ Lib.indexByte s.data.toList 58
  · rw [if_pos h] at hc ⊢
    have n1 := impl_name (s.extract 0 (Lib.indexByte s.data.toList 58).toNat) (by rw [ex_to, List.length_take]; omega)
    have n2 := impl_name (s.extract ((Lib.indexByte s.data.toList 58).toNat + 1) s.size) (by rw [ex_from, List.length_drop]; omega)
    rw [ex_to] at n1
    rw [ex_from] at n2
    generalize Lib.indexByte s.data.toList 58 = i at *
    refine Ev.congr (f := fun k => impl_Split.j0 k s (s.extract 0 i.toNat) (s.extract (i.toNat + 1) s.size) true false) (fun k => ?_) ?_
    · unfold impl_Split.f
      rw [hc, Option.bind_some]
      simp only [if_true]
    · refine Ev.step (f := fun k => (impl_NameOk.f k (s.extract 0 i.toNat)).bind fun t320 => (if t320 = true then ((impl_NameOk.f k (s.extract (i.toNat + 1) s.size)).bind fun t321 => (if t321 = true then (some (s.extract 0 i.toNat, s.extract (i.toNat + 1) s.size, true)) else (some (noB, noB, false)))) else (some (noB, noB, false)))) (fun k => ?_) (Ev.bind n1 ?_)
      · conv => lhs; unfold impl_Split.j0
        simp only [Bool.false_eq_true, if_false, if_true]
        rfl
      · cases nameB (s.data.toList.take i.toNat) with
        | false => exact Ev.now _
        | true =>
          simp only [if_true]
          refine Ev.bind n2 ?_
          cases nameB (s.data.toList.drop (i.toNat + 1)) <;> exact Ev.now _
  · rw [if_neg h] at hc ⊢
    have n1 := impl_name s hs
    refine Ev.congr (f := fun k => (impl_NameOk.f k s).bind fun t319 => impl_Split.j0 k s s ⟨#[]⟩ false t319) (fun k => ?_) (Ev.bind n1 ?_)
    · unfold impl_Split.f
      rw [hc, Option.bind_some]
      simp only [Bool.false_eq_true, if_false]
    · cases nameB s.data.toList with
      | false =>
        refine Ev.step (f := fun _ => some (noB, noB, false)) (fun k => ?_) (Ev.now _)
        conv => lhs; unfold impl_Split.j0
        simp only [Bool.false_eq_true, if_false]
        rfl
      | true =>
        refine Ev.step (f := fun _ => some (noB, s, true)) (fun k => ?_) (Ev.now _)
        conv => lhs; unfold impl_Split.j0
        simp only [if_true]
        rfl
theorem spec_split_l0 (s : ByteArray) (hs : s.data.toList.length ≤ 9223372036854775806) : ∀ (n i : Nat), i + n = s.data.toList.length → (∀ k : Nat, k < i → s.data.toList[k]? ≠ some 58) →
    Ev (fun k => spec_Split.l0 k s (-1) (i : Int)) (splitV s) := by
  intro n
  induction n with
  | zero =>
    intro i hi hno
    have hidx : Lib.indexByte s.data.toList 58 = -1 := idx_no (fun k => by
      by_cases hk : k < i
      · exact hno k hk
      · rw [List.getElem?_eq_none (by omega)]; simp)
    unfold splitV
    rw [if_neg (by rw [hidx]; decide)]
    refine Ev.step2' (f := fun k => (spec_NameOk.f k s).bind fun t134 => (if t134 = true then (some (noB, s, true)) else (some (noB, noB, false)))) (fun k => ?_) (Ev.bind (spec_name s) ?_)
    · conv => lhs; unfold spec_Split.l0
      rw [if_neg (by rw [sz]; omega)]
      conv => lhs; unfold spec_Split.j1
      rw [if_neg (by decide), if_pos (by decide)]
      rfl
    · cases nameB s.data.toList <;> exact Ev.now _
  | succ n ih =>
    intro i hi hno
    have hlt : i < s.data.toList.length := by omega
    have hw : wrap64 ((i : Int) + 1) = ((i + 1 : Nat) : Int) := w1n hlt (by omega)
    by_cases c : s.data.toList[i] = 58
    · have h58 : s.data.toList[i]? = some 58 := by rw [List.getElem?_eq_getElem hlt, c]
      have hidx := idx_is h58 hno
      have hb : bt s (i : Int) = 58 := by rw [bt_nat s i hlt, c]; rfl
      unfold splitV
      rw [hidx, if_pos (by omega), Int.toNat_natCast]
      have n1 := spec_name (s.extract 0 i)
      have n2 := spec_name (s.extract (i + 1) s.size)
      rw [ex_to] at n1
      rw [ex_from] at n2
      have hw2 : 0 ≤ ((i + 1 : Nat) : Int) := by omega
      have goal : Ev (fun k => spec_Split.j1 k s (i : Int) ((i + 1 : Nat) : Int) false) (if nameB (s.data.toList.take i) = true then (if nameB (s.data.toList.drop (i + 1)) = true then (s.extract 0 i, s.extract (i + 1) s.size, true) else (noB, noB, false)) else (noB, noB, false)) := by
        refine Ev.step (f := fun k => (spec_NameOk.f k (s.extract 0 i)).bind fun t135 => (if t135 = true then ((spec_NameOk.f k (s.extract (i + 1) s.size)).bind fun t136 => (if t136 = true then (some (s.extract 0 i, s.extract (i + 1) s.size, true)) else (some (noB, noB, false)))) else (some (noB, noB, false)))) (fun k => ?_) (Ev.bind n1 ?_)
        · conv => lhs; unfold spec_Split.j1
          rw [if_neg (by decide), if_neg (by omega), if_pos (by omega), if_pos (by rw [sz]; omega), hw]
          simp only [Int.toNat_natCast, if_pos hw2, if_pos (show ((i + 1 : Nat) : Int) ≤ (s.size : Int) by rw [sz]; omega)]
          rfl
        · cases nameB (s.data.toList.take i) with
          | false => exact Ev.now _
          | true =>
            simp only [if_true]
            refine Ev.bind n2 ?_
            cases nameB (s.data.toList.drop (i + 1)) <;> exact Ev.now _
      have step2 : Ev (fun k => spec_Split.l0 k s (i : Int) ((i + 1 : Nat) : Int)) (if nameB (s.data.toList.take i) = true then (if nameB (s.data.toList.drop (i + 1)) = true then (s.extract 0 i, s.extract (i + 1) s.size, true) else (noB, noB, false)) else (noB, noB, false)) := by
        refine Ev.step (fun k => ?_) goal
        conv => lhs; unfold spec_Split.l0
        split
        · rw [decide_eq_false (by omega)]
        · rfl
      refine Ev.step2' (fun k => ?_) step2
      conv => lhs; unfold spec_Split.l0
      rw [if_pos (by rw [sz]; omega), decide_eq_true (by omega)]
      conv => lhs; unfold spec_Split.j1
      rw [if_pos rfl, if_pos (by omega), if_pos (by rw [sz]; omega), if_pos hb, hw]
    · have hb : ¬ bt s (i : Int) = 58 := by
        rw [bt_nat s i hlt]
        exact fun h => c ((byte_is s.data.toList[i] 58 (by decide)).1 h)
      refine Ev.step2' (fun k => ?_) (ih (i + 1) (by omega) (fun k hk => ?_))
      · conv => lhs; unfold spec_Split.l0
        rw [if_pos (by rw [sz]; omega), decide_eq_true (by omega)]
        conv => lhs; unfold spec_Split.j1
        rw [if_pos rfl, if_pos (by omega), if_pos (by rw [sz]; omega), if_neg hb, hw]
      · by_cases e : k = i
        · subst e
          rw [List.getElem?_eq_getElem hlt]
          simpa using c
        · exact hno k (by omega)
theorem spec_split (s : ByteArray) (hs : s.data.toList.length ≤ 9223372036854775806) : Ev (fun k => spec_Split.f k s) (splitV s) := by
  refine Ev.congr (fun k => ?_) (spec_split_l0 s hs s.data.toList.length 0 (by omega) (fun k hk => by omega))
  rfl
def qualV (s : ByteArray) : Bool := (splitV s).2.2
theorem impl_qual (s : ByteArray) (hs : s.data.toList.length ≤ 9223372036854775806) : Ev (fun k => impl_isQualified.f k s) (qualV s) := by
  refine Ev.congr (f := fun k => (impl_Split.f k s).bind fun bt322 => (some bt322.2.2)) (fun k => rfl) (Ev.bind (impl_split s hs) (Ev.now _))
theorem spec_qual (s : ByteArray) (hs : s.data.toList.length ≤ 9223372036854775806) : Ev (fun k => spec_l1Qual.f k s) (qualV s) := by
  refine Ev.congr (f := fun k => (spec_Split.f k s).bind fun bt322 => (some bt322.2.2)) (fun k => rfl) (Ev.bind (spec_split s hs) (Ev.now _))
/-! plain texts -/
def inZ (n a b : Int) : Bool := decide (a ≤ n) && decide (n ≤ b)
def charZ (n : Int) : Bool := decide (n = 9) || decide (n = 10) || decide (n = 13) || inZ n 32 55295 || inZ n 57344 65533 || inZ n 65536 1114111
theorem impl_in' (n a b : Int) : impl_in.f n a b = some (inZ n a b) := by
  unfold impl_in.f inZ
  split
  · rename_i h; have h' : a ≤ n := by omega
    simp [h']
  · rename_i h; have h' : ¬ a ≤ n := by omega
    simp [h']
theorem spec_in' (n a b : Int) : spec_l1In.f n a b = some (inZ n a b) := by
  unfold spec_l1In.f inZ
  split
  · rename_i h; have h' : a ≤ n := by omega
    simp [h']
  · rename_i h; have h' : ¬ a ≤ n := by omega
    simp [h']
theorem impl_char (n : Int) : impl_CharOk.f n = some (charZ n) := by
  unfold impl_CharOk.f charZ
  simp only [impl_in', Option.bind_some]
  by_cases h1 : n = 9
  · simp [h1]
  by_cases h2 : n = 10
  · simp [h2]
  by_cases h3 : n = 13
  · simp [h3]
  rw [if_neg h1, if_neg h2, if_neg h3, decide_eq_false h1, decide_eq_false h2, decide_eq_false h3]
  cases inZ n 32 55295 <;> cases inZ n 57344 65533 <;> rfl
theorem spec_char (n : Int) : spec_CharOk.f n = some (charZ n) := by
  unfold spec_CharOk.f charZ
  simp only [spec_in', Option.bind_some]
  by_cases h1 : n = 9
  · simp [h1]
  by_cases h2 : n = 10
  · simp [h2]
  by_cases h3 : n = 13
  · simp [h3]
  rw [if_neg h1, if_neg h2, if_neg h3, decide_eq_false h1, decide_eq_false h2, decide_eq_false h3]
  cases inZ n 32 55295 <;> cases inZ n 57344 65533 <;> rfl
def plainV (s : ByteArray) : Bool := (runesV s).2 && (runesV s).1.all charZ
theorem rdZ (l : List Int) (i : Nat) (h : i < l.length) : rd l (i : Int) = l[i] := by
  unfold rd
  simp [h]
theorem impl_plain_l0 (l : List Int) (hl : l.length ≤ 9223372036854775807) : ∀ (n i : Nat) (b : Bool), i + n = l.length → Ev (fun k => impl_isPlain.l0 k b l (l.length : Int) (i : Int)) (b && (l.drop i).all charZ) := by
  intro n
  induction n with
  | zero =>
    intro i b hi
    rw [List.drop_of_length_le (by omega), List.all_nil, Bool.and_true]
    refine Ev.step (f := fun _ => some b) (fun k => ?_) (Ev.now _)
    conv => lhs; unfold impl_isPlain.l0
    rw [if_neg (by omega)]
  | succ n ih =>
    intro i b hi
    have hlt : i < l.length := by omega
    rw [List.drop_eq_getElem_cons hlt, List.all_cons]
    have hw := w1n hlt hl
    cases b with
    | false =>
      refine Ev.step (fun k => ?_) (ih (i + 1) false (by omega))
      conv => lhs; unfold impl_isPlain.l0
      rw [if_pos (by omega), if_pos (by omega), if_pos (by omega), if_neg (by decide), hw]
    | true =>
      rw [Bool.true_and]
      refine Ev.step (fun k => ?_) (ih (i + 1) (charZ l[i]) (by omega))
      conv => lhs; unfold impl_isPlain.l0
      rw [if_pos (by omega), if_pos (by omega), if_pos (by omega), if_pos rfl, rdZ l i hlt, impl_char, Option.bind_some, hw]
theorem runes_len (s : ByteArray) : (runesV s).1.length ≤ s.size := by
  have h : ∀ (f p : Nat), (runesFrom s f p).length ≤ f := by
    intro f
    induction f with
    | zero => intro p; exact Nat.le_refl _
    | succ f ih =>
      intro p
      unfold runesFrom
      split
      · rw [List.length_cons]; have := ih (p + (Utf8.decode s p).2); omega
      · simp
  unfold runesV runesOf
  split
  · simp
  · split
    · exact h _ _
    · simp
theorem impl_plain (s : ByteArray) (hs : s.size ≤ 9223372036854775807) : Ev (fun k => impl_isPlain.f k s) (plainV s) := by
  refine Ev.congr (fun k => ?_) (impl_plain_l0 (runesV s).1 (by have := runes_len s; omega) (runesV s).1.length 0 (runesV s).2 (by omega))
  unfold impl_isPlain.f
  rw [impl_runes s hs]
  rfl
theorem spec_text_l0 (l : List Int) (hl : l.length ≤ 9223372036854775807) : ∀ (n i : Nat), i + n = l.length → Ev (fun k => spec_l1Text.l0 k l (i : Int)) ((l.drop i).all charZ) := by
  intro n
  induction n with
  | zero =>
    intro i hi
    rw [List.drop_of_length_le (by omega), List.all_nil]
    refine Ev.step (f := fun _ => some true) (fun k => ?_) (Ev.now _)
    conv => lhs; unfold spec_l1Text.l0
    rw [if_neg (by omega)]
  | succ n ih =>
    intro i hi
    have hlt : i < l.length := by omega
    rw [List.drop_eq_getElem_cons hlt, List.all_cons]
    have hw := w1n hlt hl
    cases hc : charZ l[i] with
    | false =>
      refine Ev.step (f := fun _ => some false) (fun k => ?_) (Ev.now _)
      conv => lhs; unfold spec_l1Text.l0
      rw [if_pos (by omega), if_pos (by omega), rdZ l i hlt, spec_char, Option.bind_some, hc, if_neg (by decide)]
    | true =>
      rw [Bool.true_and]
      refine Ev.step (fun k => ?_) (ih (i + 1) (by omega))
      conv => lhs; unfold spec_l1Text.l0
      rw [if_pos (by omega), if_pos (by omega), rdZ l i hlt, spec_char, Option.bind_some, hc, if_pos rfl, hw]
theorem spec_text (s : ByteArray) (hs : s.size ≤ 9223372036854775807) : Ev (fun k => spec_l1Text.f k s) (plainV s) := by
  refine Ev.congr (f := fun k => (spec_Runes.f k s).bind fun bt124 => (if bt124.2 = true then (spec_l1Text.l0 k bt124.1 0) else (some false))) (fun k => rfl) (Ev.bind (spec_runes s) ?_)
  unfold plainV
  have hl := runes_len s
  generalize runesV s = p at *
  obtain ⟨l, ok⟩ := p
  cases ok with
  | false => exact Ev.now _
  | true =>
    simp only [if_true, Bool.true_and]
    exact spec_text_l0 l (by simp only at hl; omega) l.length 0 (by omega)
abbrev It : Type := S39
abbrev At : Type := S46
theorem rdIt (l : List It) (i : Nat) (h : i < l.length) : rd_T39 l (i : Int) = l[i] := by
  unfold rd_T39
  simp [h]
theorem rdAt (l : List At) (i : Nat) (h : i < l.length) : rd_T46 l (i : Int) = l[i] := by
  unfold rd_T46
  simp [h]
/-- p holds at d places from i on. -/
def allN (p : Nat → Bool) : Nat → Nat → Bool
  | _, 0 => true
  | i, d + 1 => p i && allN p (i + 1) d
theorem allN_iff {p : Nat → Bool} : ∀ {d i : Nat}, allN p i d = true ↔ ∀ j, i ≤ j → j < i + d → p j = true
  | 0, i => by simp [allN]; omega
  | d + 1, i => by
    rw [allN, Bool.and_eq_true, allN_iff]
    constructor
    · rintro ⟨h1, h2⟩ j h3 h4
      by_cases e : j = i
      · rw [e]; exact h1
      · exact h2 j (by omega) (by omega)
    · exact fun h => ⟨h i (Nat.le_refl _) (by omega), fun j h1 h2 => h j (by omega) (by omega)⟩
def smallA (a : At) : Prop := a.f0.size ≤ 1048576 ∧ a.f1.size ≤ 1048576
def smallAs (l : List At) : Prop := l.length ≤ 1048576 ∧ ∀ a ∈ l, smallA a
def smallI (x : It) : Prop := x.f1.size ≤ 1048576 ∧ x.f2.size ≤ 1048576 ∧ smallAs x.f3
/-- Attribute i is right, and none ahead of it has its name. -/
def attrV (l : List At) (i : Nat) : Bool := match l[i]? with
  | some a => qualV a.f0 && plainV a.f1 && !(l.take i).any (fun b => decide (b.f0.toList = a.f0.toList))
  | none => false
theorem attrV_at {l : List At} {i : Nat} (h : i < l.length) : attrV l i = (qualV l[i].f0 && plainV l[i].f1 && !(l.take i).any (fun b => decide (b.f0.toList = l[i].f0.toList))) := by
  unfold attrV
  rw [List.getElem?_eq_getElem h]
theorem size_len {s : ByteArray} (h : s.size ≤ 1048576) : s.data.toList.length ≤ 9223372036854775806 := by rw [← sz]; omega
section
variable (l : List At) (hl : smallAs l) (z : It)
include hl
theorem sm (i : Nat) (h : i < l.length) : l[i].f0.size ≤ 1048576 ∧ l[i].f1.size ≤ 1048576 := hl.2 _ (List.getElem_mem h)
theorem impl_names_l1 (i : Nat) (hi : i < l.length) (R : Bool) (hR : Ev (fun k => impl_Item_isGood.l0 k l (l.length : Int) ((i + 1 : Nat) : Int) z.f0 z.f1 z.f2 z.f3) R) (v : ByteArray) : ∀ (n j : Nat), j + n = i →
    Ev (fun k => impl_Item_isGood.l1 k l (l.length : Int) (i : Int) (l.take i) ((l.take i).length : Int) (j : Int) z.f0 z.f1 z.f2 z.f3 l[i].f0 v) (!((l.take i).drop j).any (fun b => decide (b.f0.toList = l[i].f0.toList)) && R) := by
  have h1 := hl.1
  have hlen : (l.take i).length = i := by rw [List.length_take]; omega
  intro n
  induction n with
  | zero =>
    intro j hj
    rw [List.drop_of_length_le (by omega)]
    refine Ev.step (fun k => ?_) hR
    conv => lhs; unfold impl_Item_isGood.l1
    rw [if_neg (by omega), w1n hi (by omega)]
  | succ n ih =>
    intro j hj
    have hlt : j < (l.take i).length := by omega
    rw [List.drop_eq_getElem_cons hlt, List.any_cons]
    by_cases c : (l.take i)[j].f0.toList = l[i].f0.toList
    · rw [decide_eq_true c]
      refine Ev.step (f := fun _ => some false) (fun k => ?_) (Ev.now _)
      conv => lhs; unfold impl_Item_isGood.l1
      rw [if_pos (by omega), if_pos (by omega), if_pos (by omega), rdAt _ j hlt, if_pos c.symm]
    · rw [decide_eq_false c, Bool.false_or]
      refine Ev.step (fun k => ?_) (ih (j + 1) (by omega))
      conv => lhs; unfold impl_Item_isGood.l1
      rw [if_pos (by omega), if_pos (by omega), if_pos (by omega), rdAt _ j hlt, if_neg (fun h => c h.symm), w1n hlt (by omega)]
theorem impl_attrs (hz : z.f3 = l) : ∀ (n i : Nat), i + n = l.length → Ev (fun k => impl_Item_isGood.l0 k l (l.length : Int) (i : Int) z.f0 z.f1 z.f2 z.f3) (allN (attrV l) i n) := by
  have h1 := hl.1
  intro n
  induction n with
  | zero =>
    intro i hi
    refine Ev.step (f := fun _ => some true) (fun k => ?_) (Ev.now _)
    conv => lhs; unfold impl_Item_isGood.l0
    rw [if_neg (by omega)]
  | succ n ih =>
    intro i hi
    have hlt : i < l.length := by omega
    have hs := sm l hl i hlt
    rw [allN, attrV_at hlt]
    have q := impl_qual l[i].f0 (size_len hs.1)
    have p := impl_plain l[i].f1 (by omega)
    have tail : ∀ b : Bool, Ev (fun k => impl_Item_isGood.j2 k (i : Int) l (l.length : Int) (i : Int) b z.f0 z.f1 z.f2 z.f3 l[i].f0 l[i].f1) (!b && (!(l.take i).any (fun b => decide (b.f0.toList = l[i].f0.toList)) && allN (attrV l) (i + 1) n)) := by
      intro b
      cases b with
      | true =>
        refine Ev.step (f := fun _ => some false) (fun k => ?_) (Ev.now _)
        conv => lhs; unfold impl_Item_isGood.j2
        rw [if_pos rfl]
      | false =>
        have := impl_names_l1 l hl z i hlt _ (ih (i + 1) (by omega)) l[i].f1 i 0 (by omega)
        refine Ev.step (fun k => ?_) this
        conv => lhs; unfold impl_Item_isGood.j2
        rw [if_neg (by decide), if_pos (by omega), if_pos (by rw [hz]; omega)]
        simp only [Option.bind_some, Int.toNat_natCast, hz]
        rfl
    refine Ev.step (f := fun k => (impl_isQualified.f k l[i].f0).bind fun t330 => (if t330 = true then ((impl_isPlain.f k l[i].f1).bind fun t331 => (impl_Item_isGood.j2 k (i : Int) l (l.length : Int) (i : Int) (!t331) z.f0 z.f1 z.f2 z.f3 l[i].f0 l[i].f1)) else (impl_Item_isGood.j2 k (i : Int) l (l.length : Int) (i : Int) true z.f0 z.f1 z.f2 z.f3 l[i].f0 l[i].f1))) (fun k => ?_) (Ev.bind q ?_)
    · conv => lhs; unfold impl_Item_isGood.l0
      rw [if_pos (by omega), if_pos (by omega), if_pos (by omega), rdAt l i hlt]
    · cases qualV l[i].f0 with
      | false => exact tail true
      | true =>
        simp only [if_true, Bool.true_and]
        refine Ev.bind p ?_
        have := tail (!plainV l[i].f1)
        rw [Bool.not_not] at this
        rw [Bool.and_assoc]
        exact this
omit hl in
theorem spec_names_l1 (hl : smallAs l) (i : Nat) (hi : i < l.length) (R : Bool) (hR : Ev (fun k => spec_l2Attrs.l0 k l ((i + 1 : Nat) : Int)) R) : ∀ (n j : Nat), j + n = i →
    Ev (fun k => spec_l2Attrs.l1 k l (i : Int) (j : Int)) (!((l.take i).drop j).any (fun b => decide (b.f0.toList = l[i].f0.toList)) && R) := by
  have h1 := hl.1
  have hlen : (l.take i).length = i := by rw [List.length_take]; omega
  intro n
  induction n with
  | zero =>
    intro j hj
    rw [List.drop_of_length_le (by omega)]
    refine Ev.step (fun k => ?_) hR
    conv => lhs; unfold spec_l2Attrs.l1
    rw [if_neg (by omega), w1n hi (by omega)]
  | succ n ih =>
    intro j hj
    have hlt : j < (l.take i).length := by omega
    have hj2 : j < l.length := by omega
    have ej : (l.take i)[j] = l[j] := List.getElem_take
    rw [List.drop_eq_getElem_cons hlt, List.any_cons, ej]
    by_cases c : l[j].f0.toList = l[i].f0.toList
    · rw [decide_eq_true c]
      refine Ev.step (f := fun _ => some false) (fun k => ?_) (Ev.now _)
      conv => lhs; unfold spec_l2Attrs.l1
      rw [if_pos (by omega), if_pos (by omega), if_pos (by omega), if_pos (by omega), if_pos (by omega), rdAt _ j hj2, rdAt _ i hi, if_pos c]
    · rw [decide_eq_false c, Bool.false_or]
      refine Ev.step (fun k => ?_) (ih (j + 1) (by omega))
      conv => lhs; unfold spec_l2Attrs.l1
      rw [if_pos (by omega), if_pos (by omega), if_pos (by omega), if_pos (by omega), if_pos (by omega), rdAt _ j hj2, rdAt _ i hi, if_neg c, w1n hlt (by omega)]
theorem spec_attrs_l0 : ∀ (n i : Nat), i + n = l.length → Ev (fun k => spec_l2Attrs.l0 k l (i : Int)) (allN (attrV l) i n) := by
  have h1 := hl.1
  intro n
  induction n with
  | zero =>
    intro i hi
    refine Ev.step (f := fun _ => some true) (fun k => ?_) (Ev.now _)
    conv => lhs; unfold spec_l2Attrs.l0
    rw [if_neg (by omega)]
  | succ n ih =>
    intro i hi
    have hlt : i < l.length := by omega
    have hs := sm l hl i hlt
    rw [allN, attrV_at hlt]
    have q := spec_qual l[i].f0 (size_len hs.1)
    have p := spec_text l[i].f1 (by omega)
    have tail : ∀ b : Bool, Ev (fun k => spec_l2Attrs.j1 k l (i : Int) b) (!b && (!(l.take i).any (fun b => decide (b.f0.toList = l[i].f0.toList)) && allN (attrV l) (i + 1) n)) := by
      intro b
      cases b with
      | true =>
        refine Ev.step (f := fun _ => some false) (fun k => ?_) (Ev.now _)
        conv => lhs; unfold spec_l2Attrs.j1
        rw [if_pos rfl]
      | false =>
        refine Ev.step (fun k => ?_) (spec_names_l1 l hl i hlt _ (ih (i + 1) (by omega)) i 0 (by omega))
        conv => lhs; unfold spec_l2Attrs.j1
        rw [if_neg (by decide)]
        rfl
    refine Ev.step (f := fun k => (spec_l1Qual.f k l[i].f0).bind fun t141 => (if t141 = true then ((spec_l1Text.f k l[i].f1).bind fun t143 => (spec_l2Attrs.j1 k l (i : Int) (!t143))) else (spec_l2Attrs.j1 k l (i : Int) true))) (fun k => ?_) (Ev.bind q ?_)
    · conv => lhs; unfold spec_l2Attrs.l0
      rw [if_pos (by omega), if_pos (by omega), rdAt l i hlt]
    · cases qualV l[i].f0 with
      | false => exact tail true
      | true =>
        simp only [if_true, Bool.true_and]
        refine Ev.bind p ?_
        have := tail (!plainV l[i].f1)
        rw [Bool.not_not] at this
        rw [Bool.and_assoc]
        exact this
def attrsV (l : List At) : Bool := decide (l.length ≤ 10) && allN (attrV l) 0 l.length
theorem spec_attrs : Ev (fun k => spec_l2Attrs.f k l) (attrsV l) := by
  unfold attrsV
  by_cases c : l.length ≤ 10
  · rw [decide_eq_true c, Bool.true_and]
    refine Ev.congr (fun k => ?_) (spec_attrs_l0 l hl l.length 0 (by omega))
    unfold spec_l2Attrs.f
    rw [if_neg (by omega)]
    rfl
  · rw [decide_eq_false c]
    refine Ev.congr (f := fun _ => some false) (fun k => ?_) (Ev.now _)
    unfold spec_l2Attrs.f
    rw [if_pos (by omega)]
end
/-- An item that is right in itself. -/
def goodV (x : It) : Bool := if x.f1.toList = ([] : List UInt8) then (if x.f2.toList = ([] : List UInt8) then false else plainV x.f2 && decide (x.f3.length = 0)) else qualV x.f1 && (if x.f2.toList = ([] : List UInt8) then attrsV x.f3 else false)
theorem impl_good (x : It) (h : smallI x) : Ev (fun k => impl_Item_isGood.f k x.f0 x.f1 x.f2 x.f3) (goodV x) := by
  obtain ⟨h1, h2, h3⟩ := h
  unfold goodV
  by_cases c1 : x.f1.toList = ([] : List UInt8)
  · rw [if_pos c1]
    by_cases c2 : x.f2.toList = ([] : List UInt8)
    · rw [if_pos c2]
      refine Ev.congr (f := fun _ => some false) (fun k => ?_) (Ev.now _)
      unfold impl_Item_isGood.f
      rw [if_pos c1, if_pos c2]
    · rw [if_neg c2]
      refine Ev.congr (f := fun k => (impl_isPlain.f k x.f2).bind fun t326 => (if t326 = true then (some ((x.f3.length : Int) == 0)) else (some false))) (fun k => ?_) (Ev.bind (impl_plain x.f2 (by omega)) ?_)
      · unfold impl_Item_isGood.f
        rw [if_pos c1, if_neg c2]
      · cases plainV x.f2 with
        | false => exact Ev.now _
        | true =>
          have e : ((x.f3.length : Int) == 0) = decide (x.f3.length = 0) := by
            rw [Bool.eq_iff_iff]; simp
          simp only [if_true, Bool.true_and, e]
          exact Ev.now _
  · rw [if_neg c1]
    have tail : ∀ b : Bool, Ev (fun k => impl_Item_isGood.j0 k b x.f0 x.f1 x.f2 x.f3) (!b && allN (attrV x.f3) 0 x.f3.length) := by
      intro b
      cases b with
      | true =>
        exact Ev.step (f := fun _ => some false) (fun k => rfl) (Ev.now _)
      | false =>
        exact Ev.step (fun k => rfl) (impl_attrs x.f3 h3 x rfl x.f3.length 0 (by omega))
    refine Ev.congr (f := fun k => (impl_isQualified.f k x.f1).bind fun t327 => (if t327 = true then (if x.f2.toList = ([] : List UInt8) then (impl_Item_isGood.j0 k (decide ((x.f3.length : Int) > 10)) x.f0 x.f1 x.f2 x.f3) else (impl_Item_isGood.j0 k true x.f0 x.f1 x.f2 x.f3)) else (impl_Item_isGood.j0 k true x.f0 x.f1 x.f2 x.f3))) (fun k => ?_) (Ev.bind (impl_qual x.f1 (size_len h1)) ?_)
    · unfold impl_Item_isGood.f
      rw [if_neg c1]
    · cases qualV x.f1 with
      | false => exact tail true
      | true =>
        simp only [if_true, Bool.true_and]
        by_cases c2 : x.f2.toList = ([] : List UInt8)
        · simp only [if_pos c2]
          unfold attrsV
          have e : (!decide ((x.f3.length : Int) > 10)) = decide (x.f3.length ≤ 10) := by
            rw [Bool.eq_iff_iff]; simp; omega
          rw [← e]
          exact tail _
        · simp only [if_neg c2]
          exact tail true
/-! how many bytes -/
def bytesA : List At → Int
  | [] => 0
  | a :: l => (a.f0.size : Int) + a.f1.size + bytesA l
def bytesV (x : It) : Int := (x.f1.size : Int) + x.f2.size + bytesA x.f3
theorem bytesA_bound : ∀ l : List At, (∀ a ∈ l, smallA a) → 0 ≤ bytesA l ∧ bytesA l ≤ 2097152 * l.length
  | [], _ => ⟨by simp [bytesA], by simp [bytesA]⟩
  | a :: l, h => by
    have h1 := h a (by simp)
    have h2 := bytesA_bound l (fun b hb => h b (by simp [hb]))
    unfold smallA at h1
    unfold bytesA
    simp only [List.length_cons]
    constructor <;> omega
theorem impl_bytes_l0 (l : List At) (hl : smallAs l) : ∀ (n i : Nat) (c : Int), i + n = l.length → 0 ≤ c → c ≤ 4194304 + 2097152 * i → Ev (fun k => impl_Item_bytes.l0 k c l (l.length : Int) (i : Int)) (c + bytesA (l.drop i)) := by
  have h1 := hl.1
  intro n
  induction n with
  | zero =>
    intro i c hi h0 hc
    rw [List.drop_of_length_le (by omega)]
    refine Ev.step (f := fun _ => some c) (fun k => ?_) (by rw [bytesA, Int.add_zero]; exact Ev.now _)
    conv => lhs; unfold impl_Item_bytes.l0
    rw [if_neg (by omega)]
  | succ n ih =>
    intro i c hi h0 hc
    have hlt : i < l.length := by omega
    have hs := sm l hl i hlt
    rw [List.drop_eq_getElem_cons hlt, bytesA]
    have e1 : wrap64 ((l[i].f0.size : Int) + (l[i].f1.size : Int)) = (l[i].f0.size : Int) + (l[i].f1.size : Int) := by rw [w64] <;> omega
    have e2 : wrap64 (c + ((l[i].f0.size : Int) + (l[i].f1.size : Int))) = c + ((l[i].f0.size : Int) + (l[i].f1.size : Int)) := by rw [w64] <;> omega
    have := ih (i + 1) (c + ((l[i].f0.size : Int) + (l[i].f1.size : Int))) (by omega) (by omega) (by omega)
    rw [← Int.add_assoc]
    refine Ev.step (fun k => ?_) this
    conv => lhs; unfold impl_Item_bytes.l0
    rw [if_pos (by omega), if_pos (by omega), if_pos (by omega), rdAt l i hlt, e1, e2, w1n hlt (by omega)]
theorem impl_bytes (x : It) (h : smallI x) : Ev (fun k => impl_Item_bytes.f k x.f0 x.f1 x.f2 x.f3) (bytesV x) := by
  obtain ⟨h1, h2, h3⟩ := h
  have := impl_bytes_l0 x.f3 h3 x.f3.length 0 ((x.f1.size : Int) + x.f2.size) (by omega) (by omega) (by omega)
  rw [List.drop_zero] at this
  refine Ev.congr (fun k => ?_) this
  unfold impl_Item_bytes.f
  rw [w64 (by omega) (by omega)]
  rfl
end Go.Proofs.YtpmjpbaeecnpiaaDoor.Pure

namespace Go.Proofs.YtpmjpbaeecnpiaaDoor.Pure
set_option linter.unusedVariables false
set_option linter.unusedSimpArgs false

namespace DT
/-- A place and those above it. -/
def chain (up : Nat → Int) (j : Nat) : List Nat := j :: (if _h : 0 ≤ up j ∧ (up j).toNat < j then chain up (up j).toNat else [])
termination_by j
/-- The first i items stand below elements that stand ahead. -/
def Val (up : Nat → Int) (el : Nat → Bool) (i : Nat) : Prop := (0 < i → up 0 = -1 ∧ el 0 = true) ∧ ∀ j, 0 < j → j < i → 0 ≤ up j ∧ (up j).toNat < j ∧ el (up j).toNat = true
/-- What may stand above the next one. -/
def stk (up : Nat → Int) (el : Nat → Bool) (j : Nat) : List Nat := if el j = true then chain up j else (chain up j).tail
section
variable {up : Nat → Int} {el : Nat → Bool}
theorem chain_eq (j : Nat) : chain up j = j :: (if _h : 0 ≤ up j ∧ (up j).toNat < j then chain up (up j).toNat else []) := by
  conv => lhs; rw [chain]
theorem chain_zero (h : up 0 = -1) : chain up 0 = [0] := by
  rw [chain, dif_neg (by omega)]
theorem chain_up {j : Nat} (h0 : 0 ≤ up j) (h1 : (up j).toNat < j) : chain up j = j :: chain up (up j).toNat := by
  conv => lhs; rw [chain]
  rw [dif_pos ⟨h0, h1⟩]
theorem chain_lt : ∀ j a, a ∈ chain up j → a ≤ j := by
  intro j
  induction j using Nat.strongRecOn with
  | _ j ih =>
  intro a ha
  rw [chain] at ha
  rcases List.mem_cons.1 ha with rfl | ha
  · exact Nat.le_refl _
  · split at ha
    · rename_i h
      have := ih _ h.2 a ha
      omega
    · simp at ha
/-- What stands above is elements. -/
theorem chain_el {i : Nat} (V : Val up el i) : ∀ j, j < i → ∀ a ∈ (chain up j).tail, el a = true := by
  intro j
  induction j using Nat.strongRecOn with
  | _ j ih =>
  intro hj a ha
  by_cases e : j = 0
  · subst e
    rw [chain_zero (V.1 (by omega)).1] at ha
    simp at ha
  · obtain ⟨h0, h1, h2⟩ := V.2 j (by omega) hj
    rw [chain_up h0 h1, List.tail_cons] at ha
    rw [chain] at ha
    rcases List.mem_cons.1 ha with rfl | ha
    · exact h2
    · refine ih (up j).toNat h1 (by omega) a ?_
      rw [chain, List.tail_cons]
      exact ha
/-- The rest of a chain from one of its places on is that place's chain. -/
theorem chain_drop {i : Nat} (V : Val up el i) : ∀ j, j < i → ∀ a, a ∈ chain up j → (chain up j).dropWhile (fun x => x != a) = chain up a := by
  intro j
  induction j using Nat.strongRecOn with
  | _ j ih =>
  intro hj a ha
  by_cases e : a = j
  · subst e
    rw [chain_eq a, List.dropWhile_cons_of_neg (by simp)]
  · by_cases ez : j = 0
    · subst ez
      rw [chain_zero (V.1 (by omega)).1] at ha
      simp at ha
      exact absurd ha e
    · obtain ⟨h0, h1, h2⟩ := V.2 j (by omega) hj
      rw [chain_up h0 h1] at ha ⊢
      rw [List.dropWhile_cons_of_pos (by simpa using fun h => e h.symm)]
      rcases List.mem_cons.1 ha with h | ha
      · exact absurd h e
      · exact ih _ h1 (by omega) a ha
theorem chain_head (j : Nat) : chain up j = j :: (chain up j).tail := by
  rw [chain_eq j, List.tail_cons]
/-- What is left above a place that may stand above the next one. -/
theorem stk_drop {i : Nat} (V : Val up el i) {j a : Nat} (hj : j < i) (ha : a ∈ stk up el j) : (stk up el j).dropWhile (fun x => x != a) = chain up a ∧ el a = true ∧ a ∈ chain up j := by
  unfold stk at ha ⊢
  split at ha
  · rename_i he
    rw [if_pos he]
    refine ⟨chain_drop V j hj a ha, ?_, ha⟩
    rw [chain_head] at ha
    rcases List.mem_cons.1 ha with rfl | ha
    · exact he
    · exact chain_el V j hj a ha
  · rename_i he
    rw [if_neg he]
    have hm : a ∈ chain up j := by rw [chain_head]; exact List.mem_cons_of_mem _ ha
    have hne : a ≠ j := by
      rintro rfl
      exact he (chain_el V a hj a ha)
    have := chain_drop V j hj a hm
    rw [chain_head, List.dropWhile_cons_of_pos (by simpa using fun h => hne h.symm)] at this
    exact ⟨this, chain_el V j hj a ha, hm⟩
theorem stk_mem {i : Nat} {j a : Nat} (ha : a ∈ chain up j) (he : el a = true) : a ∈ stk up el j := by
  unfold stk
  split
  · exact ha
  · rename_i h
    rw [chain_head] at ha
    rcases List.mem_cons.1 ha with rfl | ha
    · exact absurd he h
    · exact ha
theorem drop_none {l : List Nat} {a : Nat} (h : a ∉ l) : l.dropWhile (fun x => x != a) = [] := by
  induction l with
  | nil => rfl
  | cons x l ih =>
    rw [List.dropWhile_cons_of_pos]
    · exact ih (fun h' => h (by simp [h']))
    · simp only [bne_iff_ne, ne_eq]
      rintro rfl
      exact h (by simp)
theorem Val.next {i : Nat} (V : Val up el i) (h0 : i = 0 → up 0 = -1 ∧ el 0 = true) (h1 : 0 < i → 0 ≤ up i ∧ (up i).toNat < i ∧ el (up i).toNat = true) : Val up el (i + 1) := by
  refine ⟨fun _ => ?_, fun j hj hji => ?_⟩
  · by_cases e : i = 0
    · exact h0 e
    · exact V.1 (by omega)
  · by_cases e : j = i
    · subst e
      exact h1 hj
    · exact V.2 j hj (by omega)
end
end DT
end Go.Proofs.YtpmjpbaeecnpiaaDoor.Pure

namespace Go.Proofs.YtpmjpbaeecnpiaaDoor.Pure
open Go.RowKit Go.Proofs.YtpmjpbaeecnpiaaDoor.L Go.Proofs.YtpmjpbaeecnpiaaDoorW.PrintWords Go.Proofs.YtpmjpbaeecnpiaaDoorW.PrintLast Go.Proofs.YtpmjpbaeecnpiaaDoorW.PrintMore
open DT
set_option linter.unusedVariables false
set_option linter.unusedSimpArgs false

def upV (l : List It) (j : Nat) : Int := match l[j]? with | some x => x.f0 | none => -1
def elV (l : List It) (j : Nat) : Bool := match l[j]? with | some x => decide (¬ x.f1.toList = ([] : List UInt8)) | none => false
theorem upV_at {l : List It} {i : Nat} (h : i < l.length) : upV l i = l[i].f0 := by
  unfold upV; rw [List.getElem?_eq_getElem h]
theorem elV_at {l : List It} {i : Nat} (h : i < l.length) : elV l i = decide (¬ l[i].f1.toList = ([] : List UInt8)) := by
  unfold elV; rw [List.getElem?_eq_getElem h]
theorem el_yes {l : List It} {i : Nat} (h : i < l.length) : elV l i = true ↔ ¬ l[i].f1.toList = ([] : List UInt8) := by
  rw [elV_at h, decide_eq_true_eq]
theorem el_no {l : List It} {i : Nat} (h : i < l.length) : elV l i = false ↔ l[i].f1.toList = ([] : List UInt8) := by
  rw [elV_at h, decide_eq_false_iff_not, Classical.not_not]
/-- Item i stands where it may. -/
def PosP (l : List It) (i : Nat) : Prop := (i = 0 → upV l 0 = -1 ∧ elV l 0 = true) ∧ (0 < i → 0 ≤ upV l i ∧ elV l (upV l i).toNat = true ∧ (upV l i).toNat ∈ chain (upV l) (i - 1))
instance (l : List It) (i : Nat) : Decidable (PosP l i) := by unfold PosP; infer_instance
def posV (l : List It) (i : Nat) : Bool := decide (PosP l i)
def depV (l : List It) (i : Nat) : Bool := decide ((chain (upV l) i).length ≤ 20)
def textV (l : List It) (i : Nat) : Bool := elV l i || !(decide (0 < i) && !elV l (i - 1) && decide (upV l (i - 1) = upV l i))
def goodAt (l : List It) (i : Nat) : Bool := match l[i]? with | some x => goodV x | none => false
theorem good_at {l : List It} {i : Nat} (h : i < l.length) : goodAt l i = goodV l[i] := by
  unfold goodAt; rw [List.getElem?_eq_getElem h]
def stepV (l : List It) (i : Nat) : Bool := posV l i && (depV l i && (textV l i && goodAt l i))
def bytesD : List It → Int
  | [] => 0
  | x :: l => bytesV x + bytesD l
def smallD (l : List It) : Prop := ∀ x ∈ l, smallI x
theorem bytesV_bound {x : It} (h : smallI x) : 0 ≤ bytesV x ∧ bytesV x ≤ 4398046511104 := by
  obtain ⟨h1, h2, h3, h4⟩ := h
  have := bytesA_bound x.f3 h4
  unfold bytesV
  constructor <;> omega
theorem bytesD_pos : ∀ {l : List It}, smallD l → 0 ≤ bytesD l
  | [], _ => Int.le_refl _
  | x :: l, h => by
    have h1 := bytesV_bound (h x (by simp))
    have h2 := bytesD_pos (l := l) (fun y hy => h y (by simp [hy]))
    unfold bytesD
    omega
/-- A right document. -/
def docV (l : List It) : Bool := (decide (1 ≤ l.length) && decide (l.length ≤ 200)) && (allN (stepV l) 0 l.length && decide (bytesD l ≤ 2500))
theorem step_pos {l : List It} {i : Nat} (h : stepV l i = true) : PosP l i := by
  unfold stepV at h
  rw [Bool.and_eq_true] at h
  exact of_decide_eq_true h.1
theorem pos_val {l : List It} : ∀ {i : Nat}, (∀ j, j < i → PosP l j) → Val (upV l) (elV l) i := by
  intro i h
  refine ⟨fun h0 => (h 0 h0).1 rfl, fun j hj hji => ?_⟩
  obtain ⟨h1, h2, h3⟩ := (h j hji).2 hj
  have := chain_lt _ _ h3
  exact ⟨h1, by omega, h2⟩
theorem drop_all {α : Type} {p : α → Bool} : ∀ {s : List α}, (∀ x ∈ s, p x = true) → s.dropWhile p = []
  | [], _ => rfl
  | x :: s, h => by
    rw [List.dropWhile_cons_of_pos (h x (by simp))]
    exact drop_all (fun y hy => h y (by simp [hy]))
/-! the stack -/
def revI (s : List Nat) : List Int := (s.map Int.ofNat).reverse
theorem revI_cons (x : Nat) (s : List Nat) : revI (x :: s) = revI s ++ [(x : Int)] := by simp [revI]
theorem revI_len (s : List Nat) : (revI s).length = s.length := by simp [revI]
theorem revI_nil : revI [] = [] := rfl
def stkV (l : List It) (i : Nat) : List Nat := if i = 0 then [] else stk (upV l) (elV l) (i - 1)
theorem chain_len (up : Nat → Int) : ∀ j, (chain up j).length ≤ j + 1 := by
  intro j
  induction j using Nat.strongRecOn with
  | _ j ih =>
  rw [chain_eq]
  split
  · rename_i h
    have := ih _ h.2
    simp only [List.length_cons]
    omega
  · simp
theorem stkV_len (l : List It) (i : Nat) : (stkV l i).length ≤ i := by
  unfold stkV
  split
  · simp
  · unfold stk
    have := chain_len (upV l) (i - 1)
    split
    · omega
    · rw [List.length_tail]; omega
section
variable (l : List It) (hl : smallD l) (hn : l.length ≤ 200)
theorem impl_pop (c : Int) (i : Nat) (p : Int) (nm tx : ByteArray) (ats : List At) (R : Bool) : ∀ s : List Nat, s.length ≤ 200 → Ev (fun k => impl_DocOk.j3 k l c (revI (s.dropWhile (fun x : Nat => (x : Int) != p))) (i : Int) l (l.length : Int) (i : Int) p nm tx ats) R → Ev (fun k => impl_DocOk.l1 k l c (revI s) (i : Int) l (l.length : Int) (i : Int) p nm tx ats) R
  | [], _, h => by
    rw [List.dropWhile_nil, revI_nil] at h
    refine Ev.step (fun k => ?_) h
    conv => lhs; unfold impl_DocOk.l1
    rw [if_neg (by simp [revI])]
    rfl
  | x :: s, hs, h => by
    simp only [List.length_cons] at hs
    have e1 : ((revI (x :: s)).length : Int) = (s.length : Int) + 1 := by rw [revI_len]; simp
    have e2 : wrap64 ((s.length : Int) + 1 - 1) = (s.length : Int) := by rw [w64] <;> omega
    have e3 : rd (revI (x :: s)) (s.length : Int) = (x : Int) := by
      rw [rdZ _ _ (by rw [revI_len]; simp)]
      simp only [revI_cons]
      rw [List.getElem_append_right (by rw [revI_len]; exact Nat.le_refl _)]
      simp
    by_cases c1 : (x : Int) = p
    · rw [List.dropWhile_cons_of_neg (by simp [c1])] at h
      refine Ev.step (fun k => ?_) h
      conv => lhs; unfold impl_DocOk.l1
      rw [e1, e2, e3, if_pos (by omega), if_pos (by omega), if_pos (by omega), if_pos c1]
    · rw [List.dropWhile_cons_of_pos (by simp [c1])] at h
      refine Ev.step (fun k => ?_) (impl_pop c i p nm tx ats R s (by omega) h)
      conv => lhs; unfold impl_DocOk.l1
      rw [e1, e2, e3, if_pos (by omega), if_pos (by omega), if_pos (by omega), if_neg c1, if_pos (by omega)]
      rw [Int.toNat_natCast, revI_cons, List.take_left' (revI_len s)]
include hl hn
theorem impl_doc_l0 (hp0 : PosP l 0) : ∀ (n i : Nat) (c : Int), i + n = l.length → (∀ j, j < i → PosP l j) → 0 ≤ c → c ≤ 4398046511104 * i → Ev (fun k => impl_DocOk.l0 k l c (revI (stkV l i)) l (l.length : Int) (i : Int)) (allN (stepV l) i n && decide (c + bytesD (l.drop i) ≤ 2500)) := by
  intro n
  induction n with
  | zero =>
    intro i c hi hp h0 hc
    rw [List.drop_of_length_le (by omega), allN, Bool.true_and, bytesD, Int.add_zero]
    refine Ev.step (f := fun _ => some (decide (c ≤ 2500))) (fun k => ?_) (Ev.now _)
    conv => lhs; unfold impl_DocOk.l0
    rw [if_neg (by omega)]
  | succ n ih =>
    intro i c hi hp h0 hc
    have hlt : i < l.length := by omega
    have hx : smallI l[i] := hl _ (List.getElem_mem hlt)
    have hb := bytesV_bound hx
    rw [allN]
    refine Ev.step (f := fun k => (impl_Item_isGood.f k l[i].f0 l[i].f1 l[i].f2 l[i].f3).bind fun t349 => (if t349 = true then ((impl_Item_bytes.f k l[i].f0 l[i].f1 l[i].f2 l[i].f3).bind fun t350 => (impl_DocOk.l1 k l (wrap64 (c + t350)) (revI (stkV l i)) (i : Int) l (l.length : Int) (i : Int) l[i].f0 l[i].f1 l[i].f2 l[i].f3)) else (some false))) (fun k => ?_) (Ev.bind (impl_good l[i] hx) ?_)
    · conv => lhs; unfold impl_DocOk.l0
      rw [if_pos (by omega), if_pos (by omega), if_pos (by omega), rdIt l i hlt]
    have hg := good_at hlt
    cases hgv : goodV l[i] with
    | false =>
      have : stepV l i = false := by unfold stepV; rw [hg, hgv]; simp
      rw [this]
      exact Ev.now _
    | true =>
      rw [hgv] at hg
      simp only [if_true]
      refine Ev.bind (impl_bytes l[i] hx) ?_
      have ec : wrap64 (c + bytesV l[i]) = c + bytesV l[i] := by rw [w64] <;> omega
      simp only [ec]
      have hlen := stkV_len l i
      refine impl_pop l _ i _ _ _ _ _ (stkV l i) (by omega) ?_
      have V : Val (upV l) (elV l) i := pos_val hp
      have hup := upV_at hlt
      -- what is left
      have key : (PosP l i ∧ (stkV l i).dropWhile (fun x : Nat => (x : Int) != l[i].f0) = (if i = 0 then [] else chain (upV l) (upV l i).toNat)) ∨ (¬ PosP l i ∧ 0 < i ∧ (stkV l i).dropWhile (fun x : Nat => (x : Int) != l[i].f0) = []) := by
        by_cases e : i = 0
        · subst e
          exact .inl ⟨hp0, by simp [stkV]⟩
        · have es : stkV l i = stk (upV l) (elV l) (i - 1) := by unfold stkV; rw [if_neg e]
          rw [es, if_neg e]
          by_cases hneg : 0 ≤ l[i].f0
          · have ef : (fun x : Nat => (x : Int) != l[i].f0) = (fun x : Nat => x != (upV l i).toNat) := by
              funext x
              rw [Bool.eq_iff_iff, bne_iff_ne, bne_iff_ne, hup]
              omega
            rw [ef]
            by_cases hm : (upV l i).toNat ∈ stk (upV l) (elV l) (i - 1)
            · obtain ⟨h1, h2, h3⟩ := stk_drop V (show i - 1 < i by omega) hm
              exact .inl ⟨⟨fun h => absurd h e, fun _ => ⟨by rw [hup]; exact hneg, h2, h3⟩⟩, h1⟩
            · refine .inr ⟨fun h => hm ?_, by omega, drop_none hm⟩
              obtain ⟨_, h2, h3⟩ := h.2 (by omega)
              exact stk_mem (i := 0) h3 h2
          · refine .inr ⟨fun h => hneg ?_, by omega, ?_⟩
            · have := (h.2 (by omega)).1
              rwa [hup] at this
            · refine drop_all (fun x _ => ?_)
              rw [bne_iff_ne]
              omega
      rcases key with ⟨hP, hD⟩ | ⟨hP, h0i, hD⟩
      · rw [hD]
        have hpv : posV l i = true := decide_eq_true hP
        generalize hS : (if i = 0 then [] else chain (upV l) (upV l i).toNat) = S
        have hC : chain (upV l) i = i :: S := by
          rw [← hS]
          by_cases e : i = 0
          · subst e
            rw [if_pos rfl, chain_zero (hP.1 rfl).1]
          · obtain ⟨h1, h2, h3⟩ := hP.2 (by omega)
            have := chain_lt _ _ h3
            rw [if_neg e, chain_up h1 (by omega)]
        have hSl : S.length ≤ 200 := by
          have := chain_len (upV l) i
          rw [hC] at this
          simp only [List.length_cons] at this
          omega
        have hSn : 0 < i → 0 < S.length := by
          intro h
          rw [← hS, if_neg (by omega), chain_head]
          simp
        have hdep : depV l i = !decide (((revI S).length : Int) ≥ 20) := by
          unfold depV
          rw [hC, revI_len, Bool.eq_iff_iff]
          simp
          omega
        have hpop : ∀ b : Bool, Ev (fun k => impl_DocOk.j4 k l (c + bytesV l[i]) (revI S) (i : Int) l (l.length : Int) (i : Int) b l[i].f0 l[i].f1 l[i].f2 l[i].f3) ((!b && textV l i) && (allN (stepV l) (i + 1) n && decide (c + bytesD (l.drop i) ≤ 2500))) := by
          have hnext := ih (i + 1) (c + bytesV l[i]) (by omega) (fun j hj => by
            by_cases e : j = i
            · rw [e]; exact hP
            · exact hp j (by omega)) (by omega) (by omega)
          have hsum : c + bytesV l[i] + bytesD (l.drop (i + 1)) = c + bytesD (l.drop i) := by
            rw [List.drop_eq_getElem_cons hlt, bytesD]; omega
          rw [hsum] at hnext
          have hstk : stkV l (i + 1) = stk (upV l) (elV l) i := by
            unfold stkV
            rw [if_neg (by omega), Nat.add_sub_cancel]
          intro b
          cases b with
          | true =>
            refine Ev.step (f := fun _ => some false) (fun k => ?_) (Ev.now _)
            conv => lhs; unfold impl_DocOk.j4
            rw [if_pos rfl]
          | false =>
            cases he : elV l i with
            | true =>
              have ht : textV l i = true := by unfold textV; rw [he]; rfl
              have hq : stkV l (i + 1) = i :: S := by rw [hstk]; unfold stk; rw [if_pos he, hC]
              rw [ht]
              simp only [Bool.not_false, Bool.true_and]
              rw [hq] at hnext
              refine Ev.step (fun k => ?_) hnext
              conv => lhs; unfold impl_DocOk.j4
              rw [if_neg (by decide), if_neg ((el_yes hlt).1 he), if_pos (by rw [revI_len]; omega), w1n hlt (by omega), revI_cons]
            | false =>
              have hi0 : 0 < i := by
                rcases Nat.eq_zero_or_pos i with h | h
                · subst h
                  rw [(hP.1 rfl).2] at he
                  cases he
                · exact h
              have hq : stkV l (i + 1) = S := by rw [hstk]; unfold stk; rw [if_neg (by rw [he]; decide), hC, List.tail_cons]
              rw [hq] at hnext
              have ew : wrap64 ((i : Int) - 1) = ((i - 1 : Nat) : Int) := by rw [w64] <;> omega
              have hlt1 : i - 1 < l.length := by omega
              have hnm := (el_no hlt).1 he
              have ht : textV l i = !(!elV l (i - 1) && decide (upV l (i - 1) = upV l i)) := by
                unfold textV
                rw [he, decide_eq_true hi0]
                simp
              rw [ht]
              cases hpe : elV l (i - 1) with
              | true =>
                have h2 := (el_yes hlt1).1 hpe
                simp only [Bool.not_true, Bool.not_false, Bool.false_and, Bool.true_and]
                refine Ev.step (fun k => ?_) hnext
                conv => lhs; unfold impl_DocOk.j4
                rw [if_neg (by decide), if_pos hnm, if_pos (by omega), ew, if_pos (by omega), if_pos (by omega), rdIt l (i - 1) hlt1, if_neg h2, w1n hlt (by omega)]
              | false =>
                have h2 := (el_no hlt1).1 hpe
                by_cases hs : upV l (i - 1) = upV l i
                · rw [decide_eq_true hs]
                  rw [upV_at hlt1, hup] at hs
                  refine Ev.step (f := fun _ => some false) (fun k => ?_) (Ev.now _)
                  conv => lhs; unfold impl_DocOk.j4
                  rw [if_neg (by decide), if_pos hnm, if_pos (by omega), ew, if_pos (by omega), if_pos (by omega), rdIt l (i - 1) hlt1, if_pos h2, if_pos hs]
                · rw [decide_eq_false hs]
                  rw [upV_at hlt1, hup] at hs
                  simp only [Bool.not_true, Bool.not_false, Bool.and_false, Bool.true_and]
                  refine Ev.step (fun k => ?_) hnext
                  conv => lhs; unfold impl_DocOk.j4
                  rw [if_neg (by decide), if_pos hnm, if_pos (by omega), ew, if_pos (by omega), if_pos (by omega), rdIt l (i - 1) hlt1, if_pos h2, if_neg hs, w1n hlt (by omega)]
        have := hpop (decide (((revI S).length : Int) ≥ 20))
        rw [← hdep] at this
        have es : stepV l i = (depV l i && textV l i) := by
          unfold stepV
          rw [hpv, hg, Bool.true_and, Bool.and_true]
        rw [es, Bool.and_assoc]
        refine Ev.step (fun k => ?_) this
        conv => lhs; unfold impl_DocOk.j3
        by_cases h0i : 0 < i
        · have := hSn h0i
          rw [if_pos (by omega), if_neg (by rw [revI_len]; omega)]
        · rw [if_neg (by omega)]
      · rw [hD, revI_nil]
        have : stepV l i = false := by unfold stepV posV; rw [decide_eq_false hP]; rfl
        rw [this]
        refine Ev.step (f := fun k => impl_DocOk.j4 k l (c + bytesV l[i]) [] (i : Int) l (l.length : Int) (i : Int) true l[i].f0 l[i].f1 l[i].f2 l[i].f3) (fun k => ?_) ?_
        · conv => lhs; unfold impl_DocOk.j3
          rw [if_pos (by omega), if_pos (by simp)]
        · refine Ev.step (f := fun _ => some false) (fun k => ?_) (Ev.now _)
          conv => lhs; unfold impl_DocOk.j4
          rw [if_pos rfl]
end
theorem impl_doc (l : List It) (hl : smallD l) (hb : l.length ≤ 1048576) : Ev (fun k => impl_DocOk.f k l) (docV l) := by
  have hj : Ev (fun k => impl_DocOk.j0 k l true) false := by
    exact Ev.step (f := fun _ => some false) (fun k => rfl) (Ev.now _)
  unfold docV
  cases hc : (decide (1 ≤ l.length) && decide (l.length ≤ 200)) with
  | false =>
    refine Ev.congr (fun k => ?_) hj
    have : inZ (l.length : Int) 1 200 = false := by
      rw [← hc]
      unfold inZ
      rw [Bool.eq_iff_iff]
      simp
      omega
    unfold impl_DocOk.f
    rw [impl_in', Option.bind_some, this, if_neg (by decide)]
  | true =>
    rw [Bool.and_eq_true, decide_eq_true_eq, decide_eq_true_eq] at hc
    have h0 : 0 < l.length := by omega
    have hz : inZ (l.length : Int) 1 200 = true := by
      unfold inZ
      simp
      omega
    have es : ∀ k, impl_DocOk.f k l = if (rd_T39 l 0).f0 = (-1) then (impl_DocOk.j0 k l (((rd_T39 l 0).f1).toList == ([] : List UInt8))) else (impl_DocOk.j0 k l true) := by
      intro k
      unfold impl_DocOk.f
      rw [impl_in', Option.bind_some, hz, if_pos rfl, if_pos (by omega)]
    have er : rd_T39 l 0 = l[0] := rdIt l 0 h0
    simp only [Bool.true_and]
    by_cases hP : PosP l 0
    · obtain ⟨h1, h2⟩ := hP.1 rfl
      have hmain := impl_doc_l0 l hl hc.2 hP l.length 0 0 (by omega) (fun j hj => by omega) (by omega) (by omega)
      rw [List.drop_zero, Int.zero_add] at hmain
      rw [upV_at h0] at h1
      have h3 := (el_yes h0).1 h2
      refine Ev.congr (f := fun k => impl_DocOk.j0 k l false) (fun k => ?_) ?_
      · rw [es, er, if_pos h1]
        congr 1
        rw [beq_eq_false_iff_ne]
        exact h3
      · exact Ev.step (fun k => rfl) hmain
    · have : allN (stepV l) 0 l.length = false := by
        rw [Bool.eq_false_iff]
        intro h
        rw [allN_iff] at h
        exact hP (step_pos (h 0 (by omega) (by omega)))
      rw [this, Bool.false_and]
      refine Ev.congr (fun k => ?_) hj
      rw [es, er]
      split
      · rename_i h1
        congr 1
        rw [beq_iff_eq]
        by_cases h2 : l[0].f1.toList = ([] : List UInt8)
        · exact h2
        · exact absurd ⟨fun _ => ⟨by rw [upV_at h0]; exact h1, (el_yes h0).2 h2⟩, fun h => by omega⟩ hP
      · rfl
theorem spec_deep_l0 (l : List It) (hn : l.length ≤ 200) {m : Nat} (V : Val (upV l) (elV l) m) (hm : m ≤ l.length) : ∀ (j : Nat) (d : Int), j < m → 0 ≤ d → d ≤ 300 - j → Ev (fun k => spec_l2Deep.l0 k l (j : Int) d) (d + ((chain (upV l) j).length : Int) - 1) := by
  intro j
  induction j using Nat.strongRecOn with
  | _ j ih =>
  intro d hj h0 hd
  have hlt : j < l.length := by omega
  have hup := upV_at hlt
  by_cases e : j = 0
  · subst e
    have h1 := (V.1 hj).1
    rw [chain_zero h1]
    rw [hup] at h1
    refine Ev.step (f := fun _ => some d) (fun k => ?_) (by simp; exact Ev.now _)
    conv => lhs; unfold spec_l2Deep.l0
    rw [if_pos (by omega), if_pos (by omega), rdIt l 0 hlt, if_neg (by omega)]
  · obtain ⟨h1, h2, h3⟩ := V.2 j (by omega) hj
    rw [chain_up h1 h2, List.length_cons]
    have := ih (upV l j).toNat h2 (d + 1) (by omega) (by omega) (by omega)
    have e1 : wrap64 (d + 1) = d + 1 := by rw [w64] <;> omega
    have e2 : l[j].f0 = (((upV l j).toNat : Nat) : Int) := by rw [← hup]; omega
    rw [show d + (((chain (upV l) (upV l j).toNat).length + 1 : Nat) : Int) - 1 = d + 1 + ((chain (upV l) (upV l j).toNat).length : Int) - 1 by omega]
    refine Ev.step (fun k => ?_) this
    conv => lhs; unfold spec_l2Deep.l0
    rw [if_pos (by omega), if_pos (by omega), rdIt l j hlt, if_pos (by omega), e1, e2]
theorem spec_deep (l : List It) (hn : l.length ≤ 200) {m : Nat} (V : Val (upV l) (elV l) m) (hm : m ≤ l.length) (j : Nat) (hj : j < m) : Ev (fun k => spec_l2Deep.f k l (j : Int)) (((chain (upV l) j).length : Int) - 1) := by
  have := spec_deep_l0 l hn V hm j 0 hj (by omega) (by omega)
  rw [Int.zero_add] at this
  exact this
theorem spec_climb (l : List It) {m : Nat} (V : Val (upV l) (elV l) m) (hm : m ≤ l.length) (c : Int) (i p : Nat) (nm tx : ByteArray) (ats : List At) (R : Bool) : ∀ j, j < m → (p ∈ chain (upV l) j → Ev (fun k => spec_DocOk.j6 k l c (i : Int) (p : Int) nm tx ats) R) → Ev (fun k => spec_DocOk.l2 k l c (i : Int) (j : Int) (p : Int) nm tx ats) (decide (p ∈ chain (upV l) j) && R) := by
  intro j
  induction j using Nat.strongRecOn with
  | _ j ih =>
  intro hj hR
  have hlt : j < l.length := by omega
  have hup := upV_at hlt
  by_cases c1 : j = p
  · have hm : p ∈ chain (upV l) j := by rw [chain_eq, c1]; simp
    rw [decide_eq_true hm, Bool.true_and]
    refine Ev.step (fun k => ?_) (hR hm)
    conv => lhs; unfold spec_DocOk.l2
    rw [if_pos (by omega), if_pos (by omega), if_neg (by omega)]
  · by_cases e : j = 0
    · subst e
      have h1 := (V.1 hj).1
      rw [chain_zero h1]
      rw [hup] at h1
      rw [decide_eq_false (by simp; omega), Bool.false_and]
      refine Ev.step (f := fun k => spec_DocOk.l2 k l c (i : Int) (-1) (p : Int) nm tx ats) (fun k => ?_) (Ev.step (f := fun _ => some false) (fun k => ?_) (Ev.now _))
      · conv => lhs; unfold spec_DocOk.l2
        rw [if_pos (by omega), if_neg (by omega), if_pos (by omega), if_pos (by omega), rdIt l 0 hlt, h1]
      · conv => lhs; unfold spec_DocOk.l2
        rw [if_neg (by omega), if_pos (by omega)]
    · obtain ⟨h1, h2, h3⟩ := V.2 j (by omega) hj
      have e2 : l[j].f0 = (((upV l j).toNat : Nat) : Int) := by rw [← hup]; omega
      have e3 : (p ∈ chain (upV l) j) ↔ (p ∈ chain (upV l) (upV l j).toNat) := by
        rw [chain_up h1 h2, List.mem_cons]
        exact ⟨fun h => h.resolve_left (fun h => c1 h.symm), .inr⟩
      have := ih (upV l j).toNat h2 (by omega) (fun h => hR (e3.2 h))
      rw [decide_eq_decide.2 e3]
      refine Ev.step (fun k => ?_) this
      conv => lhs; unfold spec_DocOk.l2
      rw [if_pos (by omega), if_neg (by omega), if_pos (by omega), if_pos (by omega), rdIt l j hlt, e2]
/-- The bytes that are counted ahead of the rest. -/
def bytesP (x : It) : Int := (x.f1.size : Int) + x.f2.size + bytesA (x.f3.take 20)
theorem bytesP_bound {x : It} (h : smallI x) : 0 ≤ bytesP x ∧ bytesP x ≤ bytesV x := by
  obtain ⟨h1, h2, h3, h4⟩ := h
  have h5 : ∀ (l : List At) (n : Nat), (∀ a ∈ l, smallA a) → bytesA (l.take n) ≤ bytesA l := by
    intro l
    induction l with
    | nil => intro n _; simp
    | cons a l ih =>
      intro n h
      have hb := bytesA_bound l (fun b hb => h b (by simp [hb]))
      cases n with
      | zero => simp only [List.take_zero, bytesA]; omega
      | succ n =>
        have := ih n (fun b hb => h b (by simp [hb]))
        simp only [List.take_succ_cons, bytesA]
        omega
  have h6 := h5 x.f3 20 h4
  have h7 := bytesA_bound (x.f3.take 20) (fun a ha => h4 a (List.mem_of_mem_take ha))
  unfold bytesP bytesV
  constructor <;> omega
theorem spec_sum (l : List It) (i : Nat) (p : Int) (nm tx : ByteArray) (ats : List At) (h : smallAs ats) (R : Bool) (T : Int) (hR : Ev (fun k => spec_DocOk.j3 k l T (i : Int) p nm tx ats) R) : ∀ (n j : Nat) (c : Int), j + n = (ats.take 20).length → 0 ≤ c → c ≤ 1152921504606846976 + 2097152 * j → c + bytesA ((ats.take 20).drop j) = T → Ev (fun k => spec_DocOk.l1 k l c (i : Int) (j : Int) p nm tx ats) R := by
  have hlen : (ats.take 20).length = min 20 ats.length := List.length_take
  intro n
  induction n with
  | zero =>
    intro j c hj h0 hc hT
    rw [List.drop_of_length_le (by omega), bytesA, Int.add_zero] at hT
    rw [← hT] at hR
    refine Ev.step (fun k => ?_) hR
    conv => lhs; unfold spec_DocOk.l1
    by_cases c1 : j < ats.length
    · rw [if_pos (by omega), if_neg (by omega)]
    · rw [if_neg (by omega)]
  | succ n ih =>
    intro j c hj h0 hc hT
    have hlt : j < (ats.take 20).length := by omega
    have hlt2 : j < ats.length := by omega
    rw [List.drop_eq_getElem_cons hlt, bytesA, List.getElem_take] at hT
    have hs := sm ats h j hlt2
    have e1 : wrap64 (c + (ats[j].f0.size : Int)) = c + (ats[j].f0.size : Int) := by rw [w64] <;> omega
    have e2 : wrap64 (c + (ats[j].f0.size : Int) + (ats[j].f1.size : Int)) = c + (ats[j].f0.size : Int) + (ats[j].f1.size : Int) := by rw [w64] <;> omega
    have := ih (j + 1) (c + (ats[j].f0.size : Int) + (ats[j].f1.size : Int)) (by omega) (by omega) (by omega) (by omega)
    refine Ev.step (fun k => ?_) this
    conv => lhs; unfold spec_DocOk.l1
    rw [if_pos (by omega), if_pos (by omega), if_pos (by omega), rdAt ats j hlt2, e1, e2, w1n hlt2 (by have := h.1; omega)]
section
variable (l : List It) (hl : smallD l) (hn : l.length ≤ 200)
include hl hn
theorem spec_content (i : Nat) (hlt : i < l.length) (c : Int) (R : Bool) (hp : ∀ j, j < i + 1 → PosP l j) (hR : Ev (fun k => spec_DocOk.l0 k l c ((i + 1 : Nat) : Int)) R) : Ev (fun k => spec_DocOk.j6 k l c (i : Int) l[i].f0 l[i].f1 l[i].f2 l[i].f3) (depV l i && (textV l i && goodAt l i) && R) := by
  have V : Val (upV l) (elV l) (i + 1) := pos_val hp
  have hx : smallI l[i] := hl _ (List.getElem_mem hlt)
  obtain ⟨hx1, hx2, hx3⟩ := hx
  have hup := upV_at hlt
  have hd := spec_deep l hn V (by omega) i (by omega)
  refine Ev.step (f := fun k => (spec_l2Deep.f k l (i : Int)).bind fun t153 => (if t153 ≥ 20 then (some false) else (if l[i].f1.toList = ([] : List UInt8) then (if l[i].f2.toList = ([] : List UInt8) then (spec_DocOk.j7 k l c (i : Int) true l[i].f0 l[i].f1 l[i].f2 l[i].f3) else (if (l[i].f3.length : Int) > 0 then (spec_DocOk.j7 k l c (i : Int) true l[i].f0 l[i].f1 l[i].f2 l[i].f3) else ((spec_l1Text.f k l[i].f2).bind fun t154 => (spec_DocOk.j7 k l c (i : Int) (!t154) l[i].f0 l[i].f1 l[i].f2 l[i].f3)))) else (if l[i].f2.toList = ([] : List UInt8) then ((spec_l1Qual.f k l[i].f1).bind fun t157 => (if t157 = true then ((spec_l2Attrs.f k l[i].f3).bind fun t158 => (if t158 = true then (spec_DocOk.l0 k l c (wrap64 ((i : Int) + 1))) else (some false))) else (some false))) else (some false))))) (fun k => ?_) (Ev.bind hd ?_)
  · conv => lhs; unfold spec_DocOk.j6
  · by_cases c1 : (chain (upV l) i).length ≤ 20
    · have : depV l i = true := decide_eq_true c1
      rw [this, Bool.true_and]
      rw [good_at hlt]
      unfold goodV
      cases he : elV l i with
      | true =>
        have hnm := (el_yes hlt).1 he
        have ht : textV l i = true := by unfold textV; rw [he]; rfl
        rw [ht, Bool.true_and, if_neg hnm]
        refine Ev.congr (f := fun k => (if l[i].f2.toList = ([] : List UInt8) then ((spec_l1Qual.f k l[i].f1).bind fun t157 => (if t157 = true then ((spec_l2Attrs.f k l[i].f3).bind fun t158 => (if t158 = true then (spec_DocOk.l0 k l c ((i + 1 : Nat) : Int)) else (some false))) else (some false))) else (some false))) (fun k => ?_) ?_
        · rw [if_neg (by omega), if_neg hnm, w1n hlt (by omega)]
        · by_cases c2 : l[i].f2.toList = ([] : List UInt8)
          · simp only [if_pos c2]
            refine Ev.bind (spec_qual l[i].f1 (size_len hx1)) ?_
            cases qualV l[i].f1 with
            | false => exact Ev.now _
            | true =>
              simp only [if_true, Bool.true_and]
              refine Ev.bind (spec_attrs l[i].f3 hx3) ?_
              cases attrsV l[i].f3 with
              | false => exact Ev.now _
              | true => exact hR
          · simp only [if_neg c2, Bool.and_false, Bool.false_and]
            exact Ev.now _
      | false =>
        have hnm := (el_no hlt).1 he
        rw [if_pos hnm]
        have hi0 : 0 < i := by
          rcases Nat.eq_zero_or_pos i with h | h
          · subst h
            rw [((hp 0 (by omega)).1 rfl).2] at he
            cases he
          · exact h
        have ht : textV l i = !(!elV l (i - 1) && decide (upV l (i - 1) = upV l i)) := by
          unfold textV
          rw [he, decide_eq_true hi0]
          simp
        have ew : wrap64 ((i : Int) - 1) = ((i - 1 : Nat) : Int) := by rw [w64] <;> omega
        have hlt1 : i - 1 < l.length := by omega
        have tail : ∀ b : Bool, Ev (fun k => spec_DocOk.j7 k l c (i : Int) b l[i].f0 l[i].f1 l[i].f2 l[i].f3) (textV l i && !b && R) := by
          intro b
          cases b with
          | true =>
            rw [Bool.not_true, Bool.and_false]
            refine Ev.step (f := fun _ => some false) (fun k => ?_) (Ev.now _)
            conv => lhs; unfold spec_DocOk.j7
            rw [if_pos rfl]
          | false =>
            rw [ht, Bool.not_false, Bool.and_true]
            cases hpe : elV l (i - 1) with
            | true =>
              have h2 := (el_yes hlt1).1 hpe
              simp only [Bool.not_true, Bool.not_false, Bool.false_and, Bool.true_and]
              refine Ev.step (fun k => ?_) hR
              conv => lhs; unfold spec_DocOk.j7
              rw [if_neg (by decide), ew, if_pos (by omega), if_pos (by omega), rdIt l (i - 1) hlt1, if_neg h2, w1n hlt (by omega)]
            | false =>
              have h2 := (el_no hlt1).1 hpe
              by_cases hs : upV l (i - 1) = upV l i
              · rw [decide_eq_true hs]
                rw [upV_at hlt1, hup] at hs
                refine Ev.step (f := fun _ => some false) (fun k => ?_) (Ev.now _)
                conv => lhs; unfold spec_DocOk.j7
                rw [if_neg (by decide), ew, if_pos (by omega), if_pos (by omega), rdIt l (i - 1) hlt1, if_pos h2, if_pos hs]
              · rw [decide_eq_false hs]
                rw [upV_at hlt1, hup] at hs
                simp only [Bool.not_true, Bool.not_false, Bool.and_false, Bool.true_and]
                refine Ev.step (fun k => ?_) hR
                conv => lhs; unfold spec_DocOk.j7
                rw [if_neg (by decide), ew, if_pos (by omega), if_pos (by omega), rdIt l (i - 1) hlt1, if_pos h2, if_neg hs, w1n hlt (by omega)]
        by_cases c2 : l[i].f2.toList = ([] : List UInt8)
        · rw [if_pos c2]
          refine Ev.congr (fun k => ?_) (tail true)
          rw [if_neg (by omega), if_pos hnm, if_pos c2]
        · rw [if_neg c2]
          by_cases c3 : l[i].f3.length = 0
          · rw [decide_eq_true c3, Bool.and_true]
            refine Ev.congr (f := fun k => (spec_l1Text.f k l[i].f2).bind fun t154 => (spec_DocOk.j7 k l c (i : Int) (!t154) l[i].f0 l[i].f1 l[i].f2 l[i].f3)) (fun k => ?_) ?_
            · rw [if_neg (by omega), if_pos hnm, if_neg c2, if_neg (by omega)]
            · refine Ev.bind (spec_text l[i].f2 (by omega)) ?_
              have := tail (!plainV l[i].f2)
              rw [Bool.not_not] at this
              exact this
          · rw [decide_eq_false c3, Bool.and_false]
            refine Ev.congr (fun k => ?_) (tail true)
            rw [if_neg (by omega), if_pos hnm, if_neg c2, if_pos (by omega)]
    · have : depV l i = false := decide_eq_false c1
      rw [this]
      refine Ev.congr (f := fun _ => some false) (fun k => ?_) (Ev.now _)
      rw [if_pos (by omega)]
end
theorem good_few {x : It} (h : goodV x = true) : x.f3.length ≤ 20 := by
  unfold goodV attrsV at h
  split at h
  · split at h
    · cases h
    · rw [Bool.and_eq_true, decide_eq_true_eq] at h
      omega
  · rw [Bool.and_eq_true] at h
    have h := h.2
    split at h
    · rw [Bool.and_eq_true, decide_eq_true_eq] at h
      omega
    · cases h
theorem spec_doc_l0 (l : List It) (hl : smallD l) (hn : l.length ≤ 200) : ∀ (n i : Nat) (c : Int), i + n = l.length → (∀ j, j < i → PosP l j) → 0 ≤ c → c ≤ 2500 → Ev (fun k => spec_DocOk.l0 k l c (i : Int)) (allN (stepV l) i n && decide (c + bytesD (l.drop i) ≤ 2500)) := by
  intro n
  induction n with
  | zero =>
    intro i c hi hp h0 hc
    rw [List.drop_of_length_le (by omega), allN, Bool.true_and, bytesD, Int.add_zero, decide_eq_true hc]
    refine Ev.step (f := fun _ => some true) (fun k => ?_) (Ev.now _)
    conv => lhs; unfold spec_DocOk.l0
    rw [if_neg (by omega)]
  | succ n ih =>
    intro i c hi hp h0 hc
    have hlt : i < l.length := by omega
    have hx : smallI l[i] := hl _ (List.getElem_mem hlt)
    have hb := bytesP_bound hx
    have hV := bytesV_bound hx
    have hdrop : bytesD (l.drop i) = bytesV l[i] + bytesD (l.drop (i + 1)) := by rw [List.drop_eq_getElem_cons hlt, bytesD]
    have hrest : 0 ≤ bytesD (l.drop (i + 1)) := bytesD_pos (fun x hx => hl x (List.mem_of_mem_drop hx))
    obtain ⟨hx1, hx2, hx3⟩ := hx
    have hup := upV_at hlt
    have e1 : wrap64 (c + (l[i].f1.size : Int)) = c + (l[i].f1.size : Int) := by rw [w64] <;> omega
    have e2 : wrap64 (c + (l[i].f1.size : Int) + (l[i].f2.size : Int)) = c + (l[i].f1.size : Int) + (l[i].f2.size : Int) := by rw [w64] <;> omega
    have main : Ev (fun k => spec_DocOk.j3 k l (c + bytesP l[i]) (i : Int) l[i].f0 l[i].f1 l[i].f2 l[i].f3) (allN (stepV l) i (n + 1) && decide (c + bytesD (l.drop i) ≤ 2500)) := by
      rw [allN]
      by_cases cb : c + bytesP l[i] > 2500
      · rw [decide_eq_false (show ¬ c + bytesD (l.drop i) ≤ 2500 by omega), Bool.and_false]
        refine Ev.step (f := fun _ => some false) (fun k => ?_) (Ev.now _)
        conv => lhs; unfold spec_DocOk.j3
        rw [if_pos cb]
      · by_cases hP : PosP l i
        · have hpi : ∀ j, j < i + 1 → PosP l j := fun j hj => by
            by_cases e : j = i
            · rw [e]; exact hP
            · exact hp j (by omega)
          have hc2 := spec_content l hl hn i hlt (c + bytesP l[i]) _ hpi (ih (i + 1) (c + bytesP l[i]) (by omega) hpi (by omega) (by omega))
          have hval : ((depV l i && (textV l i && goodAt l i)) && (allN (stepV l) (i + 1) n && decide (c + bytesP l[i] + bytesD (l.drop (i + 1)) ≤ 2500))) = ((stepV l i && allN (stepV l) (i + 1) n) && decide (c + bytesD (l.drop i) ≤ 2500)) := by
            have e : stepV l i = (depV l i && (textV l i && goodAt l i)) := by
              unfold stepV posV
              rw [decide_eq_true hP, Bool.true_and]
            rw [e]
            cases hg : goodAt l i with
            | false => simp
            | true =>
              rw [good_at hlt] at hg
              have hf := good_few hg
              have : bytesP l[i] = bytesV l[i] := by
                unfold bytesP bytesV
                rw [List.take_of_length_le hf]
              rw [this, show c + bytesV l[i] + bytesD (l.drop (i + 1)) = c + bytesD (l.drop i) by omega]
              simp only [Bool.and_assoc]
          rw [hval] at hc2
          by_cases h0i : i = 0
          · have hz := hP.1 h0i
            rw [← h0i] at hz
            have h1 := hz.1
            rw [hup] at h1
            have h2 := (el_yes hlt).1 hz.2
            refine Ev.step2' (fun k => ?_) hc2
            conv => lhs; unfold spec_DocOk.j3
            rw [if_neg cb, if_pos (by omega), if_pos h1, if_neg h2]
            conv => lhs; unfold spec_DocOk.j4
            rw [if_neg (by omega)]
          · obtain ⟨h1, h2, h3⟩ := hP.2 (by omega)
            have h4 := chain_lt _ _ h3
            have V : Val (upV l) (elV l) i := pos_val hp
            have ew : wrap64 ((i : Int) - 1) = ((i - 1 : Nat) : Int) := by rw [w64] <;> omega
            have ep : l[i].f0 = (((upV l i).toNat : Nat) : Int) := by rw [← hup]; omega
            have hin : inZ l[i].f0 0 ((i - 1 : Nat) : Int) = true := by
              unfold inZ
              simp
              omega
            have hlp : (upV l i).toNat < l.length := by omega
            have hq := spec_climb l V (by omega) (c + bytesP l[i]) i (upV l i).toNat l[i].f1 l[i].f2 l[i].f3 _ (i - 1) (by omega) (fun _ => by rw [← ep]; exact hc2)
            rw [decide_eq_true h3, Bool.true_and] at hq
            refine Ev.step2' (fun k => ?_) hq
            conv => lhs; unfold spec_DocOk.j3
            rw [if_neg cb, if_neg (by omega), ew, spec_in', Option.bind_some, hin, if_pos rfl, if_pos (by omega), if_pos (by omega), ep, rdIt l _ hlp, if_neg ((el_yes hlp).1 h2)]
            conv => lhs; unfold spec_DocOk.j4
            rw [if_pos (by omega), ew]
        · have e : stepV l i = false := by unfold stepV posV; rw [decide_eq_false hP]; rfl
          rw [e]
          by_cases h0i : i = 0
          · refine Ev.step (f := fun _ => some false) (fun k => ?_) (Ev.now _)
            conv => lhs; unfold spec_DocOk.j3
            rw [if_neg cb, if_pos (by omega)]
            by_cases h1 : l[i].f0 = -1
            · rw [if_pos h1]
              by_cases h2 : l[i].f1.toList = ([] : List UInt8)
              · rw [if_pos h2]
              · refine absurd ⟨fun _ => ?_, fun h => by omega⟩ hP
                subst h0i
                exact ⟨by rw [hup]; exact h1, (el_yes hlt).2 h2⟩
            · rw [if_neg h1]
          · have V : Val (upV l) (elV l) i := pos_val hp
            have ew : wrap64 ((i : Int) - 1) = ((i - 1 : Nat) : Int) := by rw [w64] <;> omega
            by_cases hin : inZ l[i].f0 0 ((i - 1 : Nat) : Int) = true
            · have hin2 := hin
              unfold inZ at hin2
              simp at hin2
              have ep : l[i].f0 = (((upV l i).toNat : Nat) : Int) := by rw [← hup] at hin2 ⊢; omega
              have hlp : (upV l i).toNat < l.length := by rw [← hup] at hin2; omega
              cases he : elV l (upV l i).toNat with
              | false =>
                refine Ev.step (f := fun _ => some false) (fun k => ?_) (Ev.now _)
                conv => lhs; unfold spec_DocOk.j3
                rw [if_neg cb, if_neg (by omega), ew, spec_in', Option.bind_some, hin, if_pos rfl, if_pos (by omega), if_pos (by omega), ep, rdIt l _ hlp, if_pos ((el_no hlp).1 he)]
              | true =>
                have hnc : ¬ (upV l i).toNat ∈ chain (upV l) (i - 1) := fun h => hP ⟨fun h => absurd h h0i, fun _ => ⟨by rw [hup]; omega, he, h⟩⟩
                have hq := spec_climb l V (by omega) (c + bytesP l[i]) i (upV l i).toNat l[i].f1 l[i].f2 l[i].f3 true (i - 1) (by omega) (fun h => absurd h hnc)
                rw [decide_eq_false hnc, Bool.false_and] at hq
                refine Ev.step2' (fun k => ?_) hq
                conv => lhs; unfold spec_DocOk.j3
                rw [if_neg cb, if_neg (by omega), ew, spec_in', Option.bind_some, hin, if_pos rfl, if_pos (by omega), if_pos (by omega), ep, rdIt l _ hlp, if_neg ((el_yes hlp).1 he)]
                conv => lhs; unfold spec_DocOk.j4
                rw [if_pos (by omega), ew]
            · refine Ev.step (f := fun _ => some false) (fun k => ?_) (Ev.now _)
              conv => lhs; unfold spec_DocOk.j3
              rw [if_neg cb, if_neg (by omega), ew, spec_in', Option.bind_some, if_neg hin]
    have hs := spec_sum l i l[i].f0 l[i].f1 l[i].f2 l[i].f3 hx3 _ (c + bytesP l[i]) main (l[i].f3.take 20).length 0 (c + (l[i].f1.size : Int) + (l[i].f2.size : Int)) (by omega) (by omega) (by omega) (by rw [List.drop_zero]; unfold bytesP; omega)
    refine Ev.step (fun k => ?_) hs
    conv => lhs; unfold spec_DocOk.l0
    rw [if_pos (by omega), if_pos (by omega), rdIt l i hlt, e1, e2]
    rfl
theorem spec_doc (l : List It) (hl : smallD l) (hb : l.length ≤ 1048576) : Ev (fun k => spec_DocOk.f k l) (docV l) := by
  have hj : Ev (fun k => spec_DocOk.j0 k l true) false := Ev.step (f := fun _ => some false) (fun k => rfl) (Ev.now _)
  unfold docV
  by_cases c1 : 1 ≤ l.length
  · by_cases c2 : l.length ≤ 200
    · rw [decide_eq_true c1, decide_eq_true c2]
      have := spec_doc_l0 l hl c2 l.length 0 0 (by omega) (fun j hj => by omega) (by omega) (by omega)
      rw [List.drop_zero, Int.zero_add] at this
      refine Ev.congr (f := fun k => spec_DocOk.j0 k l false) (fun k => ?_) (Ev.step (fun k => rfl) this)
      unfold spec_DocOk.f
      rw [if_neg (by omega), decide_eq_false (by omega)]
    · rw [decide_eq_false c2, Bool.and_false, Bool.false_and]
      refine Ev.congr (fun k => ?_) hj
      unfold spec_DocOk.f
      rw [if_neg (by omega), decide_eq_true (by omega)]
  · rw [decide_eq_false c1]
    refine Ev.congr (fun k => ?_) hj
    unfold spec_DocOk.f
    rw [if_pos (by omega)]
end Go.Proofs.YtpmjpbaeecnpiaaDoor.Pure

namespace Go.Proofs.YtpmjpbaeecnpiaaDoor.Pure
set_option linter.unusedVariables false
set_option linter.unusedSimpArgs false

namespace MT
def Ris (l : List Int) : Prop := l.Pairwise (· < ·)
theorem up_ext : ∀ {a b : List Int}, Ris a → Ris b → (∀ x, x ∈ a ↔ x ∈ b) → a = b
  | [], [], _, _, _ => rfl
  | [], y :: b, _, _, h => absurd ((h y).2 (by simp)) (by simp)
  | x :: a, [], _, _, h => absurd ((h x).1 (by simp)) (by simp)
  | x :: a, y :: b, ha, hb, h => by
    unfold Ris at ha hb
    rw [List.pairwise_cons] at ha hb
    have e : x = y := by
      rcases List.mem_cons.1 ((h x).1 (by simp)) with h1 | h1
      · exact h1
      · rcases List.mem_cons.1 ((h y).2 (by simp)) with h2 | h2
        · exact h2.symm
        · have := hb.1 x h1
          have := ha.1 y h2
          omega
    subst e
    rw [up_ext ha.2 hb.2 (fun z => ?_)]
    constructor
    · intro hz
      rcases List.mem_cons.1 ((h z).1 (by simp [hz])) with h1 | h1
      · have := ha.1 z hz
        omega
      · exact h1
    · intro hz
      rcases List.mem_cons.1 ((h z).2 (by simp [hz])) with h1 | h1
      · have := hb.1 z hz
        omega
      · exact h1
/-- Put in at its place, once. -/
def put1 (x : Int) : List Int → List Int
  | [] => [x]
  | y :: l => if y < x then y :: put1 x l else if y = x then y :: l else x :: y :: l
def srt (l : List Int) : List Int := l.foldl (fun a x => put1 x a) []
theorem mem_put1 {x z : Int} : ∀ {l : List Int}, z ∈ put1 x l ↔ z = x ∨ z ∈ l
  | [] => by simp [put1]
  | y :: l => by
    unfold put1
    split
    · rw [List.mem_cons, mem_put1, List.mem_cons]
      constructor
      · rintro (h | h | h)
        · exact .inr (.inl h)
        · exact .inl h
        · exact .inr (.inr h)
      · rintro (h | h | h)
        · exact .inr (.inl h)
        · exact .inl h
        · exact .inr (.inr h)
    · split
      · rename_i e
        subst e
        simp
      · simp
theorem up_put1 {x : Int} : ∀ {l : List Int}, Ris l → Ris (put1 x l)
  | [], _ => by simp [put1, Ris]
  | y :: l, h => by
    unfold Ris at h
    rw [List.pairwise_cons] at h
    unfold put1
    split
    · rename_i c
      refine List.pairwise_cons.2 ⟨fun z hz => ?_, up_put1 h.2⟩
      rcases mem_put1.1 hz with rfl | hz
      · exact c
      · exact h.1 z hz
    · split
      · exact List.pairwise_cons.2 h
      · refine List.pairwise_cons.2 ⟨fun z hz => ?_, List.pairwise_cons.2 h⟩
        rcases List.mem_cons.1 hz with rfl | hz
        · omega
        · have := h.1 z hz
          omega
theorem srt_from : ∀ (l a : List Int), Ris a → Ris (l.foldl (fun a x => put1 x a) a) ∧ ∀ z, z ∈ l.foldl (fun a x => put1 x a) a ↔ z ∈ a ∨ z ∈ l
  | [], a, h => ⟨h, by simp⟩
  | x :: l, a, h => by
    obtain ⟨h1, h2⟩ := srt_from l (put1 x a) (up_put1 h)
    refine ⟨h1, fun z => ?_⟩
    rw [List.foldl_cons, h2, mem_put1, List.mem_cons]
    constructor
    · rintro ((h | h) | h)
      · exact .inr (.inl h)
      · exact .inl h
      · exact .inr (.inr h)
    · rintro (h | h | h)
      · exact .inl (.inr h)
      · exact .inl (.inl h)
      · exact .inr h
theorem up_srt (l : List Int) : Ris (srt l) := (srt_from l [] .nil).1
theorem mem_srt {l : List Int} {z : Int} : z ∈ srt l ↔ z ∈ l := by
  rw [srt, (srt_from l [] .nil).2]
  simp
theorem srt_of {a l : List Int} (h : Ris a) (hm : ∀ z, z ∈ a ↔ z ∈ l) : a = srt l := up_ext h (up_srt l) (fun z => by rw [hm, mem_srt])
end MT
end Go.Proofs.YtpmjpbaeecnpiaaDoor.Pure

namespace Go.Proofs.YtpmjpbaeecnpiaaDoor.Pure
open Go.RowKit Go.Proofs.YtpmjpbaeecnpiaaDoor.L Go.Proofs.YtpmjpbaeecnpiaaDoorW.PrintWords Go.Proofs.YtpmjpbaeecnpiaaDoorW.PrintLast Go.Proofs.YtpmjpbaeecnpiaaDoorW.PrintMore
open MT
set_option linter.unusedVariables false
set_option linter.unusedSimpArgs false

theorem put1_len (x : Int) : ∀ l : List Int, (put1 x l).length ≤ l.length + 1
  | [] => by simp [put1]
  | y :: l => by
    have := put1_len x l
    unfold put1
    split
    · simp only [List.length_cons]; omega
    · split
      · simp only [List.length_cons]; omega
      · simp only [List.length_cons]; omega
theorem spec_put (xs : List Int) (i : Nat) (hi : i < xs.length) (hx : xs.length ≤ 1048576) (acc : List Int) (ha : acc.length ≤ i) (R : List Int) (hR : Ev (fun k => spec_l8Sorted.l0 k xs (put1 xs[i] acc) ((i + 1 : Nat) : Int)) R) : ∀ (n j : Nat), j + n = acc.length → put1 xs[i] acc = acc.take j ++ put1 xs[i] (acc.drop j) → Ev (fun k => spec_l8Sorted.l1 k xs acc (i : Int) (j : Int)) R := by
  intro n
  induction n with
  | zero =>
    intro j hj hput
    rw [List.drop_of_length_le (by omega), List.take_of_length_le (by omega)] at hput
    simp only [put1] at hput
    rw [hput] at hR
    refine Ev.step (fun k => ?_) hR
    conv => lhs; unfold spec_l8Sorted.l1
    rw [if_neg (by omega)]
    simp only [Option.bind_some, List.nil_append, List.length_nil]
    rw [if_pos (by omega), if_pos (by omega), Int.toNat_natCast, List.take_of_length_le (by omega), if_pos (by omega), if_pos (by omega), if_pos (by omega), if_pos (by omega), List.drop_of_length_le (by omega), if_pos (by simp; omega), List.append_nil, rdZ xs i hi, w1n hi (by omega)]
  | succ n ih =>
    intro j hj hput
    have hlt : j < acc.length := by omega
    have hd : acc.drop j = acc[j] :: acc.drop (j + 1) := List.drop_eq_getElem_cons hlt
    by_cases c1 : acc[j] < xs[i]
    · have := ih (j + 1) (by omega) (by
        rw [hput, hd]
        conv => lhs; unfold put1
        rw [if_pos c1, ← List.take_append_getElem hlt, List.append_assoc]
        rfl)
      refine Ev.step (fun k => ?_) this
      conv => lhs; unfold spec_l8Sorted.l1
      rw [if_pos (by omega), if_pos (by omega), if_pos (by omega), if_pos (by omega), rdZ xs i hi, rdZ acc j hlt, if_pos c1, w1n hlt (by omega)]
    · by_cases c2 : acc[j] = xs[i]
      · have e : put1 xs[i] acc = acc := by
          rw [hput, hd]
          unfold put1
          rw [if_neg c1, if_pos c2, ← hd, List.take_append_drop]
        rw [e] at hR
        refine Ev.step (fun k => ?_) hR
        conv => lhs; unfold spec_l8Sorted.l1
        rw [if_pos (by omega), if_pos (by omega), if_pos (by omega), if_pos (by omega), rdZ xs i hi, rdZ acc j hlt, if_neg c1, if_pos c2, w1n hi (by omega)]
      · have e : put1 xs[i] acc = acc.take j ++ [xs[i]] ++ acc.drop j := by
          rw [hput, hd]
          unfold put1
          rw [if_neg c1, if_neg c2]
          simp
        rw [e] at hR
        refine Ev.step (fun k => ?_) hR
        conv => lhs; unfold spec_l8Sorted.l1
        rw [if_pos (by omega), if_pos (by omega), if_pos (by omega), if_pos (by omega), rdZ xs i hi, rdZ acc j hlt, if_neg c1, if_neg c2]
        simp only [Option.bind_some, List.nil_append, List.length_nil, Int.toNat_natCast]
        rw [if_pos (by omega), if_pos (by rw [List.length_take]; omega), if_pos (by rw [List.length_take]; omega), if_pos (by simp only [List.length_append, List.length_take, List.length_drop, List.length_singleton]; omega), w1n hi (by omega)]
theorem spec_sorted_l0 (xs : List Int) (hx : xs.length ≤ 1048576) : ∀ (n i : Nat) (acc : List Int), i + n = xs.length → acc.length ≤ i → Ev (fun k => spec_l8Sorted.l0 k xs acc (i : Int)) ((xs.drop i).foldl (fun a x => put1 x a) acc) := by
  intro n
  induction n with
  | zero =>
    intro i acc hi ha
    rw [List.drop_of_length_le (by omega), List.foldl_nil]
    refine Ev.step (f := fun _ => some acc) (fun k => ?_) (Ev.now _)
    conv => lhs; unfold spec_l8Sorted.l0
    rw [if_neg (by omega)]
  | succ n ih =>
    intro i acc hi ha
    have hlt : i < xs.length := by omega
    rw [List.drop_eq_getElem_cons hlt, List.foldl_cons]
    have h1 := put1_len xs[i] acc
    have := spec_put xs i hlt hx acc ha _ (ih (i + 1) _ (by omega) (by omega)) acc.length 0 (by omega) (by simp)
    refine Ev.step (fun k => ?_) this
    conv => lhs; unfold spec_l8Sorted.l0
    rw [if_pos (by omega)]
    rfl
theorem spec_sorted (xs : List Int) (hx : xs.length ≤ 1048576) : Ev (fun k => spec_l8Sorted.f k xs) (srt xs) := by
  have := spec_sorted_l0 xs hx xs.length 0 [] (by omega) (by simp)
  rw [List.drop_zero] at this
  exact this
end Go.Proofs.YtpmjpbaeecnpiaaDoor.Pure

namespace Go.Proofs.YtpmjpbaeecnpiaaDoor.Pure
open Go.RowKit Go.Proofs.YtpmjpbaeecnpiaaDoor.L Go.Proofs.YtpmjpbaeecnpiaaDoorW.PrintWords Go.Proofs.YtpmjpbaeecnpiaaDoorW.PrintLast Go.Proofs.YtpmjpbaeecnpiaaDoorW.PrintMore
open DT MT
set_option linter.unusedVariables false
set_option linter.unusedSimpArgs false

def nmV (l : List It) (j : Nat) : List UInt8 := match l[j]? with | some x => x.f1.toList | none => []
theorem nmV_at {l : List It} {i : Nat} (h : i < l.length) : nmV l i = l[i].f1.toList := by
  unfold nmV; rw [List.getElem?_eq_getElem h]
/-! tables of truths -/
def tab (n : Nat) (f : Nat → Bool) : List Bool := (List.range n).map f
theorem tab_len (n : Nat) (f : Nat → Bool) : (tab n f).length = n := by simp [tab]
theorem tab_at {n : Nat} {f : Nat → Bool} {i : Nat} (h : i < n) : rdOf false (tab n f) (i : Int) = f i := by
  unfold rdOf tab
  simp [h]
theorem tab_congr {n : Nat} {f g : Nat → Bool} (h : ∀ i, i < n → f i = g i) : tab n f = tab n g := by
  unfold tab
  exact List.map_congr_left (fun i hi => h i (List.mem_range.1 hi))
theorem tab_get {n : Nat} {f : Nat → Bool} {i : Nat} (h : i < (tab n f).length) : (tab n f)[i] = f i := by
  simp [tab]
theorem tab_set (n : Nat) (f : Nat → Bool) (i : Nat) (v : Bool) : (tab n f).set i v = tab n (fun j => if j = i then v else f j) := by
  apply List.ext_getElem
  · simp [tab]
  · intro j h1 h2
    rw [List.getElem_set, tab_get, tab_get]
    by_cases e : j = i
    · rw [if_pos e, if_pos e.symm]
    · rw [if_neg e, if_neg (fun h => e h.symm)]
theorem tab_no (n : Nat) : List.replicate n false = tab n (fun _ => false) := by
  apply List.ext_getElem
  · simp [tab]
  · intro j h1 h2
    simp [tab]
/-- The first i places filled. -/
def upto (i : Nat) (f : Nat → Bool) (j : Nat) : Bool := if j < i then f j else false
theorem upto_next (n : Nat) (f : Nat → Bool) (i : Nat) (v : Bool) (hv : v = f i) : (tab n (upto i f)).set i v = tab n (upto (i + 1) f) := by
  rw [tab_set]
  refine tab_congr (fun j _ => ?_)
  unfold upto
  by_cases e : j = i
  · rw [if_pos e, if_pos (by omega), hv, e]
  · rw [if_neg e]
    by_cases h : j < i
    · rw [if_pos h, if_pos (by omega)]
    · rw [if_neg h, if_neg (by omega)]
theorem upto_all (n : Nat) (f : Nat → Bool) : tab n (upto n f) = tab n f := tab_congr (fun j h => by unfold upto; rw [if_pos h])
theorem upto_none (n : Nat) (f : Nat → Bool) : List.replicate n false = tab n (upto 0 f) := by
  rw [tab_no]
  exact tab_congr (fun j h => by unfold upto; rw [if_neg (by omega)])
/-- Where one starts. -/
def startB (l : List It) (t : Nat) (deep : Bool) (i : Nat) : Bool := decide (i = t) || (deep && (elV l i && decide (t ∈ chain (upV l) i)))
/-- One step down. -/
def stepB (l : List It) (B : Nat → Bool) (nm : List UInt8) (i : Nat) : Bool := decide (0 ≤ upV l i) && (B (upV l i).toNat && decide (nmV l i = nm))
def finB (l : List It) (B : Nat → Bool) (names : List ByteArray) : Nat → Bool := names.foldl (fun B x => stepB l B x.toList) B
section
variable (l : List It) (V : Val (upV l) (elV l) l.length) (hn : l.length ≤ 200)
include V hn
omit hn in
theorem impl_within_is (t : Nat) : ∀ j, j < l.length → Ev (fun k => impl_within.f k l (j : Int) (t : Int)) (decide (t ∈ chain (upV l) j)) := by
  intro j
  induction j using Nat.strongRecOn with
  | _ j ih =>
  intro hlt
  have hup := upV_at hlt
  by_cases c : j > t
  · obtain ⟨h1, h2, h3⟩ := V.2 j (by omega) hlt
    have := ih (upV l j).toNat h2 (by omega)
    have e2 : l[j].f0 = (((upV l j).toNat : Nat) : Int) := by rw [← hup]; omega
    have e3 : (t ∈ chain (upV l) j) ↔ (t ∈ chain (upV l) (upV l j).toNat) := by
      rw [chain_up h1 h2, List.mem_cons]
      exact ⟨fun h => h.resolve_left (by omega), .inr⟩
    rw [decide_eq_decide.2 e3]
    refine Ev.step (fun k => ?_) this
    show impl_within.l0 (k + 1) l (j : Int) (t : Int) = _
    conv => lhs; unfold impl_within.l0
    rw [if_pos (by omega), if_pos (by omega), if_pos (by omega), rdIt l j hlt, e2]
    rfl
  · have e : ((j : Int) == (t : Int)) = decide (t ∈ chain (upV l) j) := by
      rw [Bool.eq_iff_iff, decide_eq_true_eq, beq_iff_eq]
      constructor
      · intro h
        rw [show j = t by omega, chain_eq]
        simp
      · intro h
        have := chain_lt _ _ h
        omega
    refine Ev.step (f := fun _ => some ((j : Int) == (t : Int))) (fun k => ?_) (by rw [e]; exact Ev.now _)
    show impl_within.l0 (k + 1) l (j : Int) (t : Int) = _
    conv => lhs; unfold impl_within.l0
    rw [if_neg (by omega)]
omit V in
theorem impl_led_l3 (B : Nat → Bool) : ∀ (n i : Nat), i + n = l.length → Ev (fun k => impl_led.l3 k (((List.range i).filter B).map Int.ofNat) (tab l.length B) ((tab l.length B).length : Int) (i : Int)) (((List.range l.length).filter B).map Int.ofNat) := by
  intro n
  induction n with
  | zero =>
    intro i hi
    rw [show i = l.length by omega]
    refine Ev.step (f := fun _ => some (((List.range l.length).filter B).map Int.ofNat)) (fun k => ?_) (Ev.now _)
    conv => lhs; unfold impl_led.l3
    rw [if_neg (by rw [tab_len]; omega)]
  | succ n ih =>
    intro i hi
    have hlt : i < l.length := by omega
    have hnext := ih (i + 1) (by omega)
    have hlen : (((List.range i).filter B).map Int.ofNat).length ≤ i := by
      rw [List.length_map]
      have := List.length_filter_le B (List.range i)
      rw [List.length_range] at this
      exact this
    rw [List.range_succ, List.filter_append, List.map_append] at hnext
    cases hb : B i with
    | true =>
      rw [show List.filter B [i] = [i] by simp [hb]] at hnext
      refine Ev.step (fun k => ?_) hnext
      conv => lhs; unfold impl_led.l3
      rw [if_pos (by rw [tab_len]; omega), if_pos (by omega), if_pos (by rw [tab_len]; omega), tab_at hlt, if_pos hb, if_pos (by omega), w1n hlt (by omega)]
      rfl
    | false =>
      rw [show List.filter B [i] = [] by simp [hb], List.map_nil, List.append_nil] at hnext
      refine Ev.step (fun k => ?_) hnext
      conv => lhs; unfold impl_led.l3
      rw [if_pos (by rw [tab_len]; omega), if_pos (by omega), if_pos (by rw [tab_len]; omega), tab_at hlt, if_neg (by rw [hb]; decide), w1n hlt (by omega)]
theorem impl_led_l2 (B : Nat → Bool) (nm : ByteArray) (names : List ByteArray) (x : Int) (R : List Int) (hR : Ev (fun k => impl_led.l1 k l (tab l.length (stepB l B nm.toList)) names (names.length : Int) (wrap64 (x + 1))) R) : ∀ (n i : Nat), i + n = l.length → Ev (fun k => impl_led.l2 k l (tab l.length B) nm (tab l.length (upto i (stepB l B nm.toList))) names (names.length : Int) x l (l.length : Int) (i : Int)) R := by
  intro n
  induction n with
  | zero =>
    intro i hi
    rw [show i = l.length by omega, upto_all]
    refine Ev.step (fun k => ?_) hR
    conv => lhs; unfold impl_led.l2
    rw [if_neg (by omega)]
  | succ n ih =>
    intro i hi
    have hlt : i < l.length := by omega
    have hup := upV_at hlt
    have hnext := ih (i + 1) (by omega)
    refine Ev.step (fun k => ?_) hnext
    conv => lhs; unfold impl_led.l2
    rw [if_pos (by omega), if_pos (by omega), if_pos (by omega), rdIt l i hlt]
    by_cases c1 : l[i].f0 ≥ 0
    · have hi0 : 0 < i := by
        rcases Nat.eq_zero_or_pos i with h | h
        · have := (V.1 (by omega)).1
          rw [← h, hup] at this
          omega
        · exact h
      obtain ⟨h1, h2, h3⟩ := V.2 i hi0 hlt
      have e2 : l[i].f0 = (((upV l i).toNat : Nat) : Int) := by rw [← hup]; omega
      rw [if_pos c1, if_pos (by omega), if_pos (by rw [tab_len]; omega), e2, tab_at (by omega), tab_len, Int.toNat_natCast]
      cases hb : B (upV l i).toNat with
      | true =>
        rw [if_pos rfl, if_pos (by omega), w1n hlt (by omega), upto_next _ _ _ _ (by unfold stepB; rw [decide_eq_true h1, hb, nmV_at hlt, Bool.true_and, Bool.true_and, Bool.eq_iff_iff, beq_iff_eq, decide_eq_true_eq])]
      | false =>
        rw [if_neg (by decide), if_pos (by omega), w1n hlt (by omega), upto_next _ _ _ _ (by unfold stepB; rw [hb]; simp)]
    · rw [if_neg c1, tab_len, if_pos (by omega), Int.toNat_natCast, w1n hlt (by omega), upto_next _ _ _ _ (by unfold stepB; rw [hup, decide_eq_false c1]; simp)]
theorem impl_led_l1 (names : List ByteArray) (hm : names.length ≤ 1048576) : ∀ (n i : Nat) (B : Nat → Bool), i + n = names.length → Ev (fun k => impl_led.l1 k l (tab l.length B) names (names.length : Int) (i : Int)) (((List.range l.length).filter (finB l B (names.drop i))).map Int.ofNat) := by
  intro n
  induction n with
  | zero =>
    intro i B hi
    rw [List.drop_of_length_le (by omega)]
    refine Ev.step (fun k => ?_) (impl_led_l3 l hn B l.length 0 (by omega))
    conv => lhs; unfold impl_led.l1
    rw [if_neg (by omega)]
    rfl
  | succ n ih =>
    intro i B hi
    have hlt : i < names.length := by omega
    rw [List.drop_eq_getElem_cons hlt]
    have hnext := ih (i + 1) (stepB l B names[i].toList) (by omega)
    have h2 := impl_led_l2 l V hn B names[i] names (i : Int) _ (by rw [w1n hlt (by omega)]; exact hnext) l.length 0 (by omega)
    have er : rdOf ByteArray.empty names (i : Int) = names[i] := by
      unfold rdOf
      simp [hlt]
    refine Ev.step (fun k => ?_) h2
    conv => lhs; unfold impl_led.l1
    rw [if_pos (by omega), if_pos (by omega), if_pos (by omega), if_pos (by omega), if_pos (by omega), er, Int.toNat_natCast, upto_none l.length (stepB l B names[i].toList)]
    rfl
theorem impl_led_l0 (t : Nat) (names : List ByteArray) (deep : Bool) (R : List Int) (hR : Ev (fun k => impl_led.l1 k l (tab l.length (startB l t deep)) names (names.length : Int) 0) R) : ∀ (n i : Nat), i + n = l.length → Ev (fun k => impl_led.l0 k l (t : Int) names deep (tab l.length (upto i (startB l t deep))) l (l.length : Int) (i : Int)) R := by
  intro n
  induction n with
  | zero =>
    intro i hi
    rw [show i = l.length by omega, upto_all]
    refine Ev.step (fun k => ?_) hR
    conv => lhs; unfold impl_led.l0
    rw [if_neg (by omega)]
  | succ n ih =>
    intro i hi
    have hlt : i < l.length := by omega
    have hnext := ih (i + 1) (by omega)
    by_cases c1 : i = t
    · refine Ev.step (fun k => ?_) hnext
      conv => lhs; unfold impl_led.l0
      rw [if_pos (by omega), if_pos (by omega), if_pos (by omega), if_pos (by omega), tab_len, if_pos (by omega), Int.toNat_natCast, w1n hlt (by omega), upto_next _ _ _ _ (by unfold startB; rw [decide_eq_true c1]; rfl)]
    · cases hd : deep with
      | false =>
        subst hd
        refine Ev.step (fun k => ?_) hnext
        conv => lhs; unfold impl_led.l0
        rw [if_pos (by omega), if_pos (by omega), if_pos (by omega), if_neg (by omega), if_neg (by decide), tab_len, if_pos (by omega), Int.toNat_natCast, w1n hlt (by omega), upto_next _ _ _ _ (by unfold startB; rw [decide_eq_false c1]; rfl)]
      | true =>
        subst hd
        cases he : elV l i with
        | false =>
          refine Ev.step (fun k => ?_) hnext
          conv => lhs; unfold impl_led.l0
          rw [if_pos (by omega), if_pos (by omega), if_pos (by omega), if_neg (by omega), if_pos rfl, rdIt l i hlt, if_pos ((el_no hlt).1 he), tab_len, if_pos (by omega), Int.toNat_natCast, w1n hlt (by omega), upto_next _ _ _ _ (by unfold startB; rw [decide_eq_false c1, he]; rfl)]
        | true =>
          have hw := impl_within_is l V t i hlt
          refine Ev.step (f := fun k => (impl_within.f k l (i : Int) (t : Int)).bind fun t372 => (impl_led.l0 k l (t : Int) names true ((tab l.length (upto i (startB l t true))).set i t372) l (l.length : Int) ((i + 1 : Nat) : Int))) (fun k => ?_) (Ev.bind hw ?_)
          · conv => lhs; unfold impl_led.l0
            rw [if_pos (by omega), if_pos (by omega), if_pos (by omega), if_neg (by omega), if_pos rfl, rdIt l i hlt, if_neg ((el_yes hlt).1 he)]
            congr 1
            funext t372
            rw [tab_len, if_pos (by omega), Int.toNat_natCast, w1n hlt (by omega)]
          · rw [upto_next _ _ _ _ (by unfold startB; rw [decide_eq_false c1, he]; rfl)]
            exact hnext
theorem impl_led_is (t : Nat) (names : List ByteArray) (hm : names.length ≤ 1048576) (deep : Bool) : Ev (fun k => impl_led.f k l (t : Int) names deep) (((List.range l.length).filter (finB l (startB l t deep) names)).map Int.ofNat) := by
  have h1 := impl_led_l1 l V hn names hm names.length 0 (startB l t deep) (by omega)
  rw [List.drop_zero] at h1
  have := impl_led_l0 l V hn t names deep _ h1 l.length 0 (by omega)
  refine Ev.congr (fun k => ?_) this
  unfold impl_led.f
  rw [if_pos (by omega), if_pos (by omega), Int.toNat_natCast, upto_none l.length (startB l t deep)]
  rfl
end
end Go.Proofs.YtpmjpbaeecnpiaaDoor.Pure

namespace Go.Proofs.YtpmjpbaeecnpiaaDoor.Pure
open Go.RowKit Go.Proofs.YtpmjpbaeecnpiaaDoor.L Go.Proofs.YtpmjpbaeecnpiaaDoorW.PrintWords Go.Proofs.YtpmjpbaeecnpiaaDoorW.PrintLast Go.Proofs.YtpmjpbaeecnpiaaDoorW.PrintMore
set_option linter.unusedVariables false
set_option linter.unusedSimpArgs false

theorem segs_len : ∀ (l acc : List UInt8) (x : List UInt8), x ∈ segs acc l → x.length ≤ acc.length + l.length
  | [], acc, x, h => by simp [segs] at h; subst h; simp
  | b :: t, acc, x, h => by
    rw [segs] at h
    by_cases c : b = 47
    · rw [if_pos c] at h
      rcases List.mem_cons.1 h with h | h
      · subst h; simp
      · have := segs_len t [] x h; simp at this ⊢; omega
    · rw [if_neg c] at h
      have := segs_len t _ x h
      simp at this ⊢; omega
def stepsV (deep : Bool) (out : List ByteArray) (L : List (List UInt8)) : List ByteArray × Bool × Bool :=
  if L.all nameB = true then (out ++ L.map mkB, deep, decide (((out ++ L.map mkB).length : Int) ≤ 6)) else ([], false, false)
theorem stepsV_cons (deep : Bool) (out : List ByteArray) (x : ByteArray) (L : List (List UInt8)) (h : nameB x.data.toList = true) : stepsV deep out (x.data.toList :: L) = stepsV deep (out ++ [x]) L := by
  unfold stepsV
  rw [List.all_cons, h, Bool.true_and, List.map_cons, mkB_of]
  simp only [List.append_assoc, List.singleton_append]
theorem stepsV_bad (deep : Bool) (out : List ByteArray) (x : List UInt8) (L : List (List UInt8)) (h : nameB x = false) : stepsV deep out (x :: L) = ([], false, false) := by
  unfold stepsV
  rw [List.all_cons, h, Bool.false_and, if_neg (by decide)]
theorem ex1 (s : ByteArray) (i : Nat) (h : i < s.data.toList.length) : (s.extract i (i + 1)).data.toList = [s.data.toList[i]] := by
  rw [ByteArray.data_extract, Array.toList_extract]
  simp only [List.extract_eq_take_drop, Nat.add_sub_cancel_left]
  rw [List.drop_eq_getElem_cons h]
  rfl
theorem w47 (b : UInt8) : ((b.toNat : Int) != 47) = !(decide (b = 47)) := by
  have := byte_is b 47 (by decide)
  by_cases c : b = 47
  · subst c; rfl
  · have h2 : ¬ (b.toNat : Int) = 47 := fun h => c (this.1 h)
    simp [c, h2]
theorem spec_steps_l0 (p : ByteArray) (hp : p.data.toList.length ≤ 1048576) (deep : Bool) : ∀ (n i : Nat) (out : List ByteArray) (x : ByteArray), i + n = p.data.toList.length → out.length ≤ i → x.data.toList.length ≤ i →
    Ev (fun k => spec_l11Steps.l0 k p deep out x (i : Int)) (stepsV deep out (segs x.data.toList (p.data.toList.drop i))) := by
  have hend : ∀ (i : Nat) (out : List ByteArray) (x : ByteArray), p.data.toList.length < i → Ev (fun k => spec_l11Steps.l0 k p deep out x (i : Int)) (out, deep, decide ((out.length : Int) ≤ 6)) := by
    intro i out x hi
    refine Ev.step (f := fun _ => some (out, deep, decide ((out.length : Int) ≤ 6))) (fun k => ?_) (Ev.now _)
    unfold spec_l11Steps.l0
    rw [if_neg (by rw [sz]; omega)]
  intro n
  induction n with
  | zero =>
    intro i out x hi ho hx
    rw [List.drop_of_length_le (by omega), segs]
    refine Ev.step (f := fun k => spec_l11Steps.j3 k p deep out x (i : Int) false) (fun k => ?_) ?_
    · conv => lhs; unfold spec_l11Steps.l0
      rw [if_pos (by rw [sz]; omega), if_neg (by rw [sz]; omega)]
    · refine Ev.step (f := fun k => (spec_NameOk.f k x).bind fun t108 => (if t108 = true then (spec_l11Steps.l0 k p deep (out ++ [x]) (⟨#[]⟩ : ByteArray) ((i + 1 : Nat) : Int)) else (some (([] : List ByteArray), false, false)))) (fun k => ?_) ?_
      · have w : wrap64 ((i : Int) + 1) = ((i + 1 : Nat) : Int) := by rw [w64] <;> omega
        conv => lhs; unfold spec_l11Steps.j3
        rw [if_neg (by decide), w]
        simp only [if_pos (show out.length < 8796093022208 by omega)]
      · refine Ev.bind (spec_name x) ?_
        by_cases c : nameB x.data.toList = true
        · rw [stepsV_cons _ _ _ _ c]
          simp only [c, if_true]
          have := hend (i + 1) (out ++ [x]) ⟨#[]⟩ (by omega)
          simpa [stepsV] using this
        · rw [Bool.not_eq_true] at c
          rw [stepsV_bad _ _ _ _ c]
          simp only [c, Bool.false_eq_true, if_false]
          exact Ev.now _
  | succ n ih =>
    intro i out x hi ho hx
    have hlt : i < p.data.toList.length := by omega
    have hd : p.data.toList.drop i = p.data.toList[i] :: p.data.toList.drop (i + 1) := List.drop_eq_getElem_cons hlt
    have w : wrap64 ((i : Int) + 1) = ((i + 1 : Nat) : Int) := by rw [w64] <;> omega
    refine Ev.step (f := fun k => spec_l11Steps.j3 k p deep out x (i : Int) (!(decide (p.data.toList[i] = 47)))) (fun k => ?_) ?_
    · conv => lhs; unfold spec_l11Steps.l0
      rw [if_pos (by rw [sz]; omega), if_pos (by rw [sz]; omega), if_pos (by omega), bt_nat p i hlt, w47]
    · rw [hd, segs]
      by_cases c : p.data.toList[i] = 47
      · rw [if_pos c]
        refine Ev.step (f := fun k => (spec_NameOk.f k x).bind fun t108 => (if t108 = true then (spec_l11Steps.l0 k p deep (out ++ [x]) (⟨#[]⟩ : ByteArray) ((i + 1 : Nat) : Int)) else (some (([] : List ByteArray), false, false)))) (fun k => ?_) ?_
        · conv => lhs; unfold spec_l11Steps.j3
          rw [if_neg (by rw [decide_eq_true c]; decide), w]
          simp only [if_pos (show out.length < 8796093022208 by omega)]
        · refine Ev.bind (spec_name x) ?_
          by_cases d : nameB x.data.toList = true
          · rw [stepsV_cons _ _ _ _ d]
            simp only [d, if_true]
            exact ih (i + 1) (out ++ [x]) ⟨#[]⟩ (by omega) (by simp; omega) (by simp)
          · rw [Bool.not_eq_true] at d
            rw [stepsV_bad _ _ _ _ d]
            simp only [d, Bool.false_eq_true, if_false]
            exact Ev.now _
      · rw [if_neg c]
        have hx2 : (x ++ p.extract i (i + 1)).data.toList = x.data.toList ++ [p.data.toList[i]] := by rw [ba_app, ex1 p i hlt]
        have hz : (p.extract i (i + 1)).size = 1 := by rw [sz, ex1 p i hlt]; rfl
        refine Ev.step (f := fun k => spec_l11Steps.l0 k p deep out (x ++ p.extract i (i + 1)) ((i + 1 : Nat) : Int)) (fun k => ?_) ?_
        · conv => lhs; unfold spec_l11Steps.j3
          have e1 : ((i : Int)).toNat = i := by omega
          have e2 : (((i + 1 : Nat) : Int)).toNat = i + 1 := by omega
          rw [if_pos (by rw [decide_eq_false c]; rfl), if_pos (by omega), w, if_pos (show (i : Int) ≤ ((i + 1 : Nat) : Int) by omega), if_pos (show ((i + 1 : Nat) : Int) ≤ (p.size : Int) by rw [sz]; omega), e1, e2, if_pos (show x.size + (p.extract i (i + 1)).size ≤ 9223372036854775807 by rw [hz, sz x]; omega)]
        · have := ih (i + 1) out (x ++ p.extract i (i + 1)) (by omega) (by omega) (by rw [hx2, List.length_append, List.length_singleton]; omega)
          rw [hx2] at this
          exact this

/-- Whether two strokes stand ahead, and the rest. -/
def twoB : List UInt8 → Bool
  | a :: b :: _ => decide (a = 47) && decide (b = 47)
  | _ => false
theorem two_iff (l : List UInt8) : twoB l = (l.take 2 == [47, 47]) := by
  match l with
  | [] => rfl
  | [a] => simp [twoB]
  | a :: b :: t =>
    simp only [twoB, List.take_succ_cons, List.take_zero]
    by_cases h1 : a = 47 <;> by_cases h2 : b = 47 <;> simp [h1, h2]
theorem two_len (l : List UInt8) (h : twoB l = true) : 2 ≤ l.length := by
  match l, h with
  | a :: b :: t, _ => simp
theorem ex_take (s : ByteArray) (n : Nat) : (s.extract 0 n).data.toList = s.data.toList.take n := by
  rw [ByteArray.data_extract, Array.toList_extract]
  simp [List.extract_eq_take_drop]
def deepS (l : List UInt8) : Bool := decide (2 < l.length) && twoB l
def specSteps (l : List UInt8) : List ByteArray × Bool × Bool := stepsV (deepS l) [] (segs [] (if deepS l = true then l.drop 2 else l))
theorem spec_steps (s : ByteArray) (hs : s.data.toList.length ≤ 1048576) : Ev (fun k => spec_l11Steps.f k s) (specSteps s.data.toList) := by
  refine Ev.congr (f := fun k => spec_l11Steps.j0 k s (deepS s.data.toList)) (fun k => ?_) ?_
  · unfold spec_l11Steps.f deepS
    by_cases c : 2 < s.data.toList.length
    · rw [if_pos (by rw [sz]; omega), if_pos (by omega), if_pos (by rw [sz]; omega), Lib.toList_data, ex_take, two_iff, decide_eq_true c, Bool.true_and]
    · rw [if_neg (by rw [sz]; omega), decide_eq_false c, Bool.false_and]
  · cases hd : deepS s.data.toList with
    | true =>
      have h2 : 2 ≤ s.data.toList.length := by
        unfold deepS at hd
        simp only [Bool.and_eq_true, decide_eq_true_eq] at hd
        omega
      refine Ev.step (f := fun k => spec_l11Steps.j1 k (s.extract 2 s.size) true) (fun k => ?_) ?_
      · have e : spec_l11Steps.j0 (k + 1) s true = (if 2 ≤ (s.size : Int) then spec_l11Steps.j1 k (s.extract 2 s.size) true else none) := rfl
        rw [e, if_pos (by rw [sz]; omega)]
      · refine Ev.step (f := fun k => spec_l11Steps.l0 k (s.extract 2 s.size) true [] (⟨#[]⟩ : ByteArray) ((0 : Nat) : Int)) (fun k => ?_) ?_
        · rfl
        · have e : (s.extract 2 s.size).data.toList = s.data.toList.drop 2 := Lib.extract_to_end s 2
          have := spec_steps_l0 (s.extract 2 s.size) (by rw [e, List.length_drop]; omega) true _ 0 [] ⟨#[]⟩ (by rw [Nat.zero_add]) (by simp) (by simp)
          rw [e] at this
          unfold specSteps
          rw [hd]
          simpa using this
    | false =>
      refine Ev.step (f := fun k => spec_l11Steps.j1 k s false) (fun k => ?_) ?_
      · rfl
      · refine Ev.step (f := fun k => spec_l11Steps.l0 k s false [] (⟨#[]⟩ : ByteArray) ((0 : Nat) : Int)) (fun k => ?_) ?_
        · rfl
        · have := spec_steps_l0 s hs false _ 0 [] ⟨#[]⟩ (by rw [Nat.zero_add]) (by simp) (by simp)
          unfold specSteps
          rw [hd]
          simpa using this

/-- What the program's reader of paths answers. -/
def implSteps (s : ByteArray) : List ByteArray × Bool × Bool :=
  if 20000 < s.data.toList.length then ([], false, false)
  else if 6 < (segs [] (if twoB s.data.toList = true then s.data.toList.drop 2 else s.data.toList)).length then ([], false, false)
  else if (segs [] (if twoB s.data.toList = true then s.data.toList.drop 2 else s.data.toList)).all nameB = true then
    ((segs [] (if twoB s.data.toList = true then s.data.toList.drop 2 else s.data.toList)).map mkB, twoB s.data.toList, true)
  else ([], false, false)
theorem cut_two (s : ByteArray) : strings_CutPrefix.f s ⟨#[47, 47]⟩ = some (if twoB s.data.toList = true then s.extract 2 s.size else s, twoB s.data.toList) := by
  have e2 : (((⟨#[47, 47]⟩ : ByteArray).size : Nat) : Int) = 2 := rfl
  have e3 : (⟨#[47, 47]⟩ : ByteArray).toList = [47, 47] := by rw [Lib.toList_data]
  unfold strings_CutPrefix.f stringslite_CutPrefix.f stringslite_HasPrefix.f
  rw [e2, e3]
  by_cases c : 2 ≤ s.data.toList.length
  · rw [if_pos (by rw [sz]; omega), if_pos (by omega), if_pos (by rw [sz]; omega)]
    have e4 : (s.extract 0 ((2 : Int)).toNat).toList = s.data.toList.take 2 := by
      rw [Lib.toList_data]; exact ex_take s 2
    rw [e4, ← two_iff]
    simp only [Option.bind_some]
    cases ht : twoB s.data.toList with
    | true =>
      simp only [if_true]
      rw [if_pos (by omega), if_pos (by rw [sz]; omega)]
      rfl
    | false => rfl
  · have ht : twoB s.data.toList = false := by
      cases hh : twoB s.data.toList with
      | true => exact absurd (two_len _ hh) c
      | false => rfl
    rw [if_neg (by rw [sz]; omega), ht]
    rfl
theorem names_all (hb : Nat) (hbb : hb ≤ 9223372036854775806) : ∀ L : List ByteArray, (∀ x ∈ L, x.data.toList.length ≤ hb) → ∃ K, ∀ k, K ≤ k → ∀ x ∈ L, impl_NameOk.f k x = some (nameB x.data.toList)
  | [], _ => ⟨0, fun _ _ _ h => by cases h⟩
  | x :: L, h => by
    obtain ⟨K1, h1⟩ := impl_name x (Nat.le_trans (h x (by simp)) hbb)
    obtain ⟨K2, h2⟩ := names_all hb hbb L fun y hy => h y (by simp [hy])
    refine ⟨max K1 K2, fun k hk y hy => ?_⟩
    rcases List.mem_cons.1 hy with e | hy
    · subst e; exact h1 k (by omega)
    · exact h2 k (by omega) y hy
theorem any_same {α : Type} {f g : α → Bool} : ∀ L : List α, (∀ x ∈ L, f x = g x) → L.any f = L.any g
  | [], _ => rfl
  | x :: L, h => by
    rw [List.any_cons, List.any_cons, h x (by simp), any_same L fun y hy => h y (by simp [hy])]
theorem impl_steps (s : ByteArray) (hs : s.data.toList.length ≤ 1048576) : Ev (fun k => impl_stepsOf.f k s) (implSteps s) := by
  obtain ⟨t, ht⟩ : ∃ t, (if twoB s.data.toList = true then s.extract 2 s.size else s) = t := ⟨_, rfl⟩
  have htl : t.data.toList = (if twoB s.data.toList = true then s.data.toList.drop 2 else s.data.toList) := by
    rw [← ht]
    split
    · exact Lib.extract_to_end s 2
    · rfl
  have htn : t.data.toList.length ≤ 1048576 := by
    rw [htl]; split
    · rw [List.length_drop]; omega
    · exact hs
  have hno := names_of t
  have hlen : (namesOf t).length = (segs [] t.data.toList).length := by rw [← hno, List.length_map]
  have hmost := names_most t
  have hsmall : ∀ x ∈ namesOf t, x.data.toList.length ≤ 1048576 := by
    intro x hx
    have : x.data.toList ∈ segs [] t.data.toList := by rw [← hno]; exact List.mem_map_of_mem hx
    have := segs_len _ _ _ this
    simp at this ⊢
    simp at htn
    omega
  obtain ⟨K, hK⟩ := names_all 1048576 (by decide) (namesOf t) hsmall
  refine ⟨K, fun k hk => ?_⟩
  show impl_stepsOf.f k s = _
  unfold impl_stepsOf.f
  rw [cut_two, ht]
  simp only [Option.bind_some]
  rw [if_pos ⟨by rw [sz]; omega, names_len t, by rw [sz] at hmost; omega⟩]
  unfold implSteps
  rw [← htl, ← hlen]
  by_cases c1 : 20000 < s.data.toList.length
  · rw [if_pos (by rw [sz]; omega), if_pos c1]
  · rw [if_neg (by rw [sz]; omega), if_neg c1]
    by_cases c2 : 6 < (namesOf t).length
    · rw [if_pos (by omega), if_pos c2]
    · rw [if_neg (by omega), if_neg c2]
      have hall : (namesOf t).all (fun s => (impl_NameOk.f k s).isSome) = true := by
        rw [List.all_eq_true]; intro x hx; rw [hK k hk x hx]; rfl
      rw [if_pos hall]
      have hq : (namesOf t).any (fun s => !nameK k s) = !((segs [] t.data.toList).all nameB) := by
        rw [← hno, List.all_map, List.not_all_eq_any_not]
        refine any_same _ fun x hx => ?_
        unfold nameK
        rw [hK k hk x hx]
        rfl
      rw [hq]
      cases ha : (segs [] t.data.toList).all nameB with
      | true =>
        simp only [Bool.not_true, Bool.false_eq_true, if_false, if_true]
        congr 2
        rw [← hno, List.map_map]
        conv => lhs; rw [← List.map_id (namesOf t)]
        refine List.map_congr_left fun x _ => ?_
        exact (mkB_of x).symm
      | false => simp
def pathB (l : List UInt8) : Bool := (specSteps l).2.2 && decide (l.length ≤ 20000)
theorem spec_path (s : ByteArray) (hs : s.data.toList.length ≤ 1048576) : Ev (fun k => spec_PathOk.f k s) (pathB s.data.toList) := by
  unfold spec_PathOk.f pathB
  refine Ev.bind (spec_steps s hs) ?_
  cases h : (specSteps s.data.toList).2.2 with
  | true =>
    refine Ev.congr (f := fun _ => some (decide (s.data.toList.length ≤ 20000))) (fun k => ?_) (Ev.now _)
    rw [if_pos rfl]
    congr 1
    rw [sz]
    simp only [decide_eq_decide]
    omega
  | false =>
    refine Ev.congr (f := fun _ => some false) (fun k => ?_) (Ev.now _)
    rw [if_neg (by decide)]
/-- The two readers say alike whether a path is one; where it is one they tell the same names. -/
theorem steps_alike (s : ByteArray) : (implSteps s).2.2 = pathB s.data.toList ∧ (pathB s.data.toList = true → (implSteps s).1 = (specSteps s.data.toList).1 ∧ (implSteps s).2.1 = (specSteps s.data.toList).2.1) := by
  unfold pathB implSteps
  by_cases c1 : 20000 < s.data.toList.length
  · rw [if_pos c1]
    have : decide (s.data.toList.length ≤ 20000) = false := decide_eq_false (by omega)
    rw [this, Bool.and_false]
    exact ⟨rfl, fun h => by cases h⟩
  · rw [if_neg c1]
    have : decide (s.data.toList.length ≤ 20000) = true := decide_eq_true (by omega)
    rw [this, Bool.and_true]
    by_cases c2 : 2 < s.data.toList.length
    · have e : deepS s.data.toList = twoB s.data.toList := by unfold deepS; rw [decide_eq_true c2, Bool.true_and]
      unfold specSteps stepsV
      rw [e, List.nil_append]
      generalize hS : segs [] (if twoB s.data.toList = true then s.data.toList.drop 2 else s.data.toList) = S
      clear hS
      cases ha : S.all nameB with
      | true =>
        simp only [if_true, List.length_map]
        by_cases c3 : 6 < S.length
        · rw [if_pos c3]
          have : decide ((S.length : Int) ≤ 6) = false := decide_eq_false (by omega)
          rw [this]
          exact ⟨rfl, fun h => by cases h⟩
        · rw [if_neg c3]
          have : decide ((S.length : Int) ≤ 6) = true := decide_eq_true (by omega)
          rw [this]
          exact ⟨rfl, fun _ => ⟨rfl, rfl⟩⟩
      | false =>
        simp only [Bool.false_eq_true, if_false]
        refine ⟨?_, fun h => by cases h⟩
        split <;> rfl
    · have e : deepS s.data.toList = false := by unfold deepS; rw [decide_eq_false c2, Bool.false_and]
      unfold specSteps stepsV
      rw [e, List.nil_append]
      simp only [Bool.false_eq_true, if_false]
      cases ht : twoB s.data.toList with
      | true =>
        have hl : s.data.toList = [47, 47] := by
          match hm : s.data.toList, ht, c2 with
          | [a, b], ht, _ =>
            simp only [twoB, Bool.and_eq_true, decide_eq_true_eq] at ht
            rw [ht.1, ht.2]
          | a :: b :: c :: t, _, c2 => simp at c2
        rw [hl]
        exact ⟨by decide, fun h => absurd h (by decide)⟩
      | false =>
        simp only [Bool.false_eq_true, if_false]
        generalize segs [] s.data.toList = S
        cases ha : S.all nameB with
        | true =>
          simp only [if_true, List.length_map]
          by_cases c3 : 6 < S.length
          · rw [if_pos c3]
            have : decide ((S.length : Int) ≤ 6) = false := decide_eq_false (by omega)
            rw [this]
            exact ⟨rfl, fun h => by cases h⟩
          · rw [if_neg c3]
            have : decide ((S.length : Int) ≤ 6) = true := decide_eq_true (by omega)
            rw [this]
            exact ⟨rfl, fun _ => ⟨rfl, rfl⟩⟩
        | false =>
          simp only [Bool.false_eq_true, if_false]
          refine ⟨?_, fun h => by cases h⟩
          split <;> rfl
end Go.Proofs.YtpmjpbaeecnpiaaDoor.Pure

namespace Go.Proofs.YtpmjpbaeecnpiaaDoor.Pure
open Go.RowKit Go.Proofs.YtpmjpbaeecnpiaaDoor.L Go.Proofs.YtpmjpbaeecnpiaaDoorW.PrintWords Go.Proofs.YtpmjpbaeecnpiaaDoorW.PrintLast Go.Proofs.YtpmjpbaeecnpiaaDoorW.PrintMore
open DT MT
set_option linter.unusedVariables false
set_option linter.unusedSimpArgs false

def ofN (s : List Nat) : List Int := s.map Int.ofNat
theorem ofN_len (s : List Nat) : (ofN s).length = s.length := by simp [ofN]
theorem ofN_app (s t : List Nat) : ofN (s ++ t) = ofN s ++ ofN t := by simp [ofN]
theorem ofN_at {s : List Nat} {i : Nat} (h : i < s.length) : rd (ofN s) (i : Int) = (s[i] : Int) := by
  rw [rdZ _ _ (by rw [ofN_len]; exact h)]
  simp [ofN]
theorem ofN_mem {s : List Nat} {z : Int} : z ∈ ofN s ↔ 0 ≤ z ∧ z.toNat ∈ s := by
  unfold ofN
  rw [List.mem_map]
  constructor
  · rintro ⟨a, h, rfl⟩
    exact ⟨by simp, by simpa using h⟩
  · rintro ⟨h1, h2⟩
    exact ⟨z.toNat, h2, by simp; omega⟩
/-- The kids of item i. -/
def kidsN (l : List It) (i : Nat) : List Nat := (List.range l.length).filter (fun j => decide (i < j) && decide (upV l j = (i : Int)))
theorem kidsN_mem {l : List It} {i j : Nat} : j ∈ kidsN l i ↔ j < l.length ∧ i < j ∧ upV l j = (i : Int) := by
  unfold kidsN
  simp [List.mem_filter]
theorem nodup_filter {p : Nat → Bool} {s : List Nat} (h : s.Nodup) : (s.filter p).Nodup := List.Pairwise.filter p h
theorem few {l : List It} {s : List Nat} (h : s.Nodup) (hs : ∀ i ∈ s, i < l.length) : s.length ≤ l.length := by
  have := h.length_le_of_subset (l₂ := List.range l.length) (fun i hi => List.mem_range.2 (hs i hi))
  rwa [List.length_range] at this
theorem kidsN_len (l : List It) (i : Nat) : (kidsN l i).length ≤ l.length := few (nodup_filter List.nodup_range) (fun j hj => (kidsN_mem.1 hj).1)
/-- One step down. -/
def stepN (l : List It) (s : List Nat) (nm : List UInt8) : List Nat := s.flatMap (fun i => (kidsN l i).filter (fun j => decide (nmV l j = nm)))
theorem stepN_mem {l : List It} {s : List Nat} {nm : List UInt8} {j : Nat} : j ∈ stepN l s nm ↔ ∃ i ∈ s, (j < l.length ∧ i < j ∧ upV l j = (i : Int)) ∧ nmV l j = nm := by
  unfold stepN
  rw [List.mem_flatMap]
  simp only [List.mem_filter, kidsN_mem, decide_eq_true_eq]
theorem stepN_nodup {l : List It} {s : List Nat} {nm : List UInt8} (h : s.Nodup) : (stepN l s nm).Nodup := by
  unfold stepN List.Nodup
  rw [List.pairwise_flatMap]
  refine ⟨fun i _ => nodup_filter (nodup_filter List.nodup_range), ?_⟩
  refine List.Pairwise.imp ?_ h
  intro a b hab x hx y hy
  simp only [List.mem_filter, kidsN_mem, decide_eq_true_eq] at hx hy
  rintro rfl
  exact hab (by omega)
def finN (l : List It) (s : List Nat) (names : List ByteArray) : List Nat := names.foldl (fun s x => stepN l s x.toList) s
/-- Where one starts. -/
def startN (l : List It) (t : Nat) (deep : Bool) : List Nat := if deep = true then t :: (List.range l.length).filter (fun i => decide (t < i) && (decide (t ∈ chain (upV l) i) && elV l i)) else [t]
section
variable (l : List It) (hn : l.length ≤ 200)
include hn
theorem spec_kids_l0 (p : Nat) : ∀ (n i : Nat), i + n = l.length → p < i → Ev (fun k => spec_l2Kids.l0 k l (p : Int) (ofN ((List.range i).filter (fun j => decide (p < j) && decide (upV l j = (p : Int))))) (i : Int)) (ofN (kidsN l p)) := by
  intro n
  induction n with
  | zero =>
    intro i hi hp
    rw [show i = l.length by omega]
    refine Ev.step (f := fun _ => some (ofN (kidsN l p))) (fun k => ?_) (Ev.now _)
    conv => lhs; unfold spec_l2Kids.l0
    rw [if_neg (by omega)]
    rfl
  | succ n ih =>
    intro i hi hp
    have hlt : i < l.length := by omega
    have hup := upV_at hlt
    have hnext := ih (i + 1) (by omega) (by omega)
    have hlen : (ofN ((List.range i).filter (fun j => decide (p < j) && decide (upV l j = (p : Int))))).length ≤ i := by
      rw [ofN_len]
      have := List.length_filter_le (fun j => decide (p < j) && decide (upV l j = (p : Int))) (List.range i)
      rw [List.length_range] at this
      exact this
    rw [List.range_succ, List.filter_append, ofN_app] at hnext
    by_cases c : l[i].f0 = (p : Int)
    · rw [show List.filter (fun j => decide (p < j) && decide (upV l j = (p : Int))) [i] = [i] by simp [hup, c, hp]] at hnext
      refine Ev.step (fun k => ?_) hnext
      conv => lhs; unfold spec_l2Kids.l0
      rw [if_pos (by omega), if_pos (by omega), rdIt l i hlt, if_pos c, if_pos (by omega), w1n hlt (by omega)]
      rfl
    · rw [show List.filter (fun j => decide (p < j) && decide (upV l j = (p : Int))) [i] = [] by simp [hup, c], show ofN [] = [] from rfl, List.append_nil] at hnext
      refine Ev.step (fun k => ?_) hnext
      conv => lhs; unfold spec_l2Kids.l0
      rw [if_pos (by omega), if_pos (by omega), rdIt l i hlt, if_neg c, w1n hlt (by omega)]
theorem spec_kids (p : Nat) (hp : p < l.length) : Ev (fun k => spec_l2Kids.f k l (p : Int)) (ofN (kidsN l p)) := by
  have := spec_kids_l0 l hn p (l.length - (p + 1)) (p + 1) (by omega) (by omega)
  have e : (List.range (p + 1)).filter (fun j => decide (p < j) && decide (upV l j = (p : Int))) = [] := by
    rw [List.filter_eq_nil_iff]
    intro j hj
    rw [List.mem_range] at hj
    simp
    omega
  rw [e] at this
  refine Ev.congr (fun k => ?_) this
  unfold spec_l2Kids.f
  rw [w1n hp (by omega)]
  rfl
omit hn in
theorem spec_sel_l4 (names : List ByteArray) (c : Nat) (hc : c < names.length) (S K : List Nat) (hK : ∀ j ∈ K, j < l.length) (hKb : K.length ≤ 200) (x : Int) (R : List Int) : ∀ (n j : Nat) (A : List Nat), j + n = K.length → A.length + n ≤ 1048576 → Ev (fun k => spec_l11Select.l3 k l names (ofN S) (c : Int) (ofN (A ++ (K.drop j).filter (fun q => decide (nmV l q = names[c].toList)))) (wrap64 (x + 1))) R → Ev (fun k => spec_l11Select.l4 k l names (ofN S) (c : Int) (ofN A) x (ofN K) (j : Int)) R := by
  intro n
  induction n with
  | zero =>
    intro j A hj hA h
    rw [List.drop_of_length_le (by omega), List.filter_nil, List.append_nil] at h
    refine Ev.step (fun k => ?_) h
    conv => lhs; unfold spec_l11Select.l4
    rw [if_neg (by rw [ofN_len]; omega)]
  | succ n ih =>
    intro j A hj hA h
    have hlt : j < K.length := by omega
    have hq : K[j] < l.length := hK _ (List.getElem_mem hlt)
    have er : rdOf ByteArray.empty names (c : Int) = names[c] := by
      unfold rdOf
      simp [hc]
    have hKl : ((ofN K).length : Int) = K.length := by rw [ofN_len]
    rw [List.drop_eq_getElem_cons hlt, List.filter_cons] at h
    by_cases cn : nmV l K[j] = names[c].toList
    · rw [if_pos (decide_eq_true cn)] at h
      have := ih (j + 1) (A ++ [K[j]]) (by omega) (by simp; omega) (by rw [List.append_assoc]; exact h)
      rw [nmV_at hq] at cn
      refine Ev.step (fun k => ?_) this
      conv => lhs; unfold spec_l11Select.l4
      rw [if_pos (by omega), if_pos (by omega), ofN_at hlt, if_pos (by omega), if_pos (by omega), if_pos (by omega), if_pos (by omega), rdIt l _ hq, er, if_pos cn, if_pos (by rw [ofN_len]; omega), w1n hlt (by omega), ofN_app]
      rfl
    · rw [if_neg (by rw [decide_eq_true_eq]; exact cn)] at h
      have := ih (j + 1) A (by omega) (by omega) h
      rw [nmV_at hq] at cn
      refine Ev.step (fun k => ?_) this
      conv => lhs; unfold spec_l11Select.l4
      rw [if_pos (by omega), if_pos (by omega), ofN_at hlt, if_pos (by omega), if_pos (by omega), if_pos (by omega), if_pos (by omega), rdIt l _ hq, er, if_neg cn, w1n hlt (by omega)]
theorem spec_sel_l3 (names : List ByteArray) (c : Nat) (hc : c < names.length) (S : List Nat) (hS : ∀ i ∈ S, i < l.length) (hSl : S.length ≤ 200) (R : List Int) (hR : Ev (fun k => spec_l11Select.l2 k l names (ofN (stepN l S names[c].toList)) (wrap64 ((c : Int) + 1))) R) : ∀ (n i : Nat) (A : List Nat), i + n = S.length → A.length ≤ 200 * i → A ++ stepN l (S.drop i) names[c].toList = stepN l S names[c].toList → Ev (fun k => spec_l11Select.l3 k l names (ofN S) (c : Int) (ofN A) (i : Int)) R := by
  intro n
  induction n with
  | zero =>
    intro i A hi hA h
    rw [List.drop_of_length_le (by omega)] at h
    simp only [stepN, List.flatMap_nil, List.append_nil] at h
    rw [h]
    refine Ev.step (fun k => ?_) hR
    conv => lhs; unfold spec_l11Select.l3
    rw [if_neg (by rw [ofN_len]; omega)]
    rfl
  | succ n ih =>
    intro i A hi hA h
    have hlt : i < S.length := by omega
    have hq : S[i] < l.length := hS _ (List.getElem_mem hlt)
    rw [List.drop_eq_getElem_cons hlt] at h
    unfold stepN at h
    rw [List.flatMap_cons, ← List.append_assoc] at h
    have hkl := kidsN_len l S[i]
    have hfl := List.length_filter_le (fun j => decide (nmV l j = names[c].toList)) (kidsN l S[i])
    have hnext := ih (i + 1) (A ++ (kidsN l S[i]).filter (fun j => decide (nmV l j = names[c].toList))) (by omega) (by rw [List.length_append]; omega) h
    have h4 := spec_sel_l4 l names c hc S (kidsN l S[i]) (fun j hj => (kidsN_mem.1 hj).1) (by omega) (i : Int) R (kidsN l S[i]).length 0 A (by omega) (by omega) (by rw [List.drop_zero, w1n hlt (by omega)]; exact hnext)
    refine Ev.step (f := fun k => (spec_l2Kids.f k l ((S[i] : Nat) : Int)).bind fun t247 => (spec_l11Select.l4 k l names (ofN S) (c : Int) (ofN A) (i : Int) t247 0)) (fun k => ?_) (Ev.bind (spec_kids l hn S[i] hq) h4)
    conv => lhs; unfold spec_l11Select.l3
    rw [if_pos (by rw [ofN_len]; omega), if_pos (by omega), ofN_at hlt]
theorem spec_sel_l2 (names : List ByteArray) (hm : names.length ≤ 1048576) : ∀ (n c : Nat) (S : List Nat), c + n = names.length → S.Nodup → (∀ i ∈ S, i < l.length) → Ev (fun k => spec_l11Select.l2 k l names (ofN S) (c : Int)) (srt (ofN (finN l S (names.drop c)))) := by
  intro n
  induction n with
  | zero =>
    intro c S hc hd hS
    rw [List.drop_of_length_le (by omega)]
    have hSl := few hd hS
    refine Ev.step (f := fun k => (spec_l8Sorted.f k (ofN S)).bind fun t240 => some t240) (fun k => ?_) (Ev.bind (spec_sorted (ofN S) (by rw [ofN_len]; omega)) (Ev.now _))
    conv => lhs; unfold spec_l11Select.l2
    rw [if_neg (by omega)]
  | succ n ih =>
    intro c S hc hd hS
    have hlt : c < names.length := by omega
    have hSl := few hd hS
    rw [List.drop_eq_getElem_cons hlt]
    have hnext := ih (c + 1) (stepN l S names[c].toList) (by omega) (stepN_nodup hd) (fun i hi => by
      obtain ⟨_, _, h, _⟩ := stepN_mem.1 hi
      exact h.1)
    have h3 := spec_sel_l3 l hn names c hlt S hS (by omega) _ (by rw [w1n hlt (by omega)]; exact hnext) S.length 0 [] (by omega) (by simp) (by simp)
    refine Ev.step (fun k => ?_) h3
    conv => lhs; unfold spec_l11Select.l2
    rw [if_pos (by omega)]
    rfl
theorem spec_sel_l1 (V : Val (upV l) (elV l) l.length) (t : Nat) (names : List ByteArray) (acc : List Int) (ha : acc.length ≤ 1048576) (i : Nat) (hi : i < l.length) (R : List Int)
    (h1 : t ∈ chain (upV l) i → elV l i = true → Ev (fun k => spec_l11Select.l0 k l (t : Int) names (acc ++ [(i : Int)]) ((i + 1 : Nat) : Int)) R)
    (h2 : ¬ (t ∈ chain (upV l) i ∧ elV l i = true) → Ev (fun k => spec_l11Select.l0 k l (t : Int) names acc ((i + 1 : Nat) : Int)) R) : ∀ j, j < l.length → ((t ∈ chain (upV l) i) ↔ (t ∈ chain (upV l) j)) → Ev (fun k => spec_l11Select.l1 k l (t : Int) names acc (i : Int) (j : Int)) R := by
  intro j
  induction j using Nat.strongRecOn with
  | _ j ih =>
  intro hlt hij
  have hup := upV_at hlt
  by_cases c : j > t
  · obtain ⟨q1, q2, q3⟩ := V.2 j (by omega) hlt
    have e2 : l[j].f0 = (((upV l j).toNat : Nat) : Int) := by rw [← hup]; omega
    have e3 : (t ∈ chain (upV l) j) ↔ (t ∈ chain (upV l) (upV l j).toNat) := by
      rw [chain_up q1 q2, List.mem_cons]
      exact ⟨fun h => h.resolve_left (by omega), .inr⟩
    have := ih (upV l j).toNat q2 (by omega) (hij.trans e3)
    refine Ev.step (fun k => ?_) this
    conv => lhs; unfold spec_l11Select.l1
    rw [if_pos (by omega), if_pos (by omega), if_pos (by omega), rdIt l j hlt, e2]
  · by_cases c2 : j = t
    · have hm : t ∈ chain (upV l) i := hij.2 (by rw [c2, chain_eq]; simp)
      cases he : elV l i with
      | true =>
        refine Ev.step (fun k => ?_) (h1 hm he)
        conv => lhs; unfold spec_l11Select.l1
        rw [if_neg (by omega), if_pos (by omega), if_pos (by omega), if_pos (by omega), rdIt l i hi, if_neg ((el_yes hi).1 he), if_pos (by omega), w1n hi (by omega)]
      | false =>
        refine Ev.step (fun k => ?_) (h2 (fun h => by rw [he] at h; exact absurd h.2 (by decide)))
        conv => lhs; unfold spec_l11Select.l1
        rw [if_neg (by omega), if_pos (by omega), if_pos (by omega), if_pos (by omega), rdIt l i hi, if_pos ((el_no hi).1 he), w1n hi (by omega)]
    · have hm : ¬ t ∈ chain (upV l) i := fun h => by
        have := chain_lt _ _ (hij.1 h)
        have hmj := hij.1 h
        rcases Nat.eq_or_lt_of_le this with e | e
        · exact c2 e.symm
        · omega
      refine Ev.step (fun k => ?_) (h2 (fun h => hm h.1))
      conv => lhs; unfold spec_l11Select.l1
      rw [if_neg (by omega), if_neg (by omega), w1n hi (by omega)]
theorem spec_sel_l0 (V : Val (upV l) (elV l) l.length) (t : Nat) (names : List ByteArray) (R : List Int) (hR : Ev (fun k => spec_l11Select.j2 k l names (ofN (startN l t true))) R) : ∀ (n i : Nat), i + n = l.length → t < i → Ev (fun k => spec_l11Select.l0 k l (t : Int) names (ofN (t :: (List.range i).filter (fun j => decide (t < j) && (decide (t ∈ chain (upV l) j) && elV l j)))) (i : Int)) R := by
  intro n
  induction n with
  | zero =>
    intro i hi ht
    rw [show i = l.length by omega]
    refine Ev.step (fun k => ?_) hR
    conv => lhs; unfold spec_l11Select.l0
    rw [if_neg (by omega)]
    rfl
  | succ n ih =>
    intro i hi ht
    have hlt : i < l.length := by omega
    have hnext := ih (i + 1) (by omega) (by omega)
    rw [List.range_succ, List.filter_append, ← List.cons_append, ofN_app] at hnext
    have hlen : (ofN (t :: (List.range i).filter (fun j => decide (t < j) && (decide (t ∈ chain (upV l) j) && elV l j)))).length ≤ i + 1 := by
      rw [ofN_len, List.length_cons]
      have := List.length_filter_le (fun j => decide (t < j) && (decide (t ∈ chain (upV l) j) && elV l j)) (List.range i)
      rw [List.length_range] at this
      omega
    have h1 := spec_sel_l1 l hn V t names (ofN (t :: (List.range i).filter (fun j => decide (t < j) && (decide (t ∈ chain (upV l) j) && elV l j)))) (by omega) i hlt R (fun hm he => by
        rw [show List.filter (fun j => decide (t < j) && (decide (t ∈ chain (upV l) j) && elV l j)) [i] = [i] by simp [hm, he, ht]] at hnext
        exact hnext) (fun h => by
        rw [show List.filter (fun j => decide (t < j) && (decide (t ∈ chain (upV l) j) && elV l j)) [i] = [] by simp; intro _ hm; cases he : elV l i with | true => exact absurd ⟨hm, he⟩ h | false => rfl, show ofN [] = [] from rfl, List.append_nil] at hnext
        exact hnext) i hlt Iff.rfl
    refine Ev.step (fun k => ?_) h1
    conv => lhs; unfold spec_l11Select.l0
    rw [if_pos (by omega)]
end
theorem startN_mem {l : List It} {t : Nat} (ht : t < l.length) {deep : Bool} {i : Nat} : i ∈ startN l t deep ↔ i < l.length ∧ startB l t deep i = true := by
  unfold startN startB
  cases deep with
  | false =>
    simp only [Bool.false_eq_true, if_false, List.mem_singleton, Bool.false_and, Bool.or_false, decide_eq_true_eq]
    exact ⟨fun h => ⟨by omega, h⟩, fun h => h.2⟩
  | true =>
    simp only [if_true, List.mem_cons, List.mem_filter, List.mem_range, Bool.and_eq_true, Bool.or_eq_true, decide_eq_true_eq, Bool.true_and]
    constructor
    · rintro (h | ⟨h1, h2, h3, h4⟩)
      · exact ⟨by omega, .inl h⟩
      · exact ⟨h1, .inr ⟨h4, h3⟩⟩
    · rintro ⟨h1, h | ⟨h4, h3⟩⟩
      · exact .inl h
      · have := chain_lt _ _ h3
        by_cases e : i = t
        · exact .inl e
        · exact .inr ⟨h1, by omega, h3, h4⟩
theorem startN_nodup (l : List It) (t : Nat) (deep : Bool) : (startN l t deep).Nodup := by
  unfold startN
  split
  · refine List.nodup_cons.2 ⟨?_, nodup_filter List.nodup_range⟩
    simp
  · simp
theorem finN_mem {l : List It} (V : Val (upV l) (elV l) l.length) : ∀ (names : List ByteArray) (s : List Nat) (B : Nat → Bool), (∀ i, i ∈ s ↔ i < l.length ∧ B i = true) → ∀ i, i ∈ finN l s names ↔ i < l.length ∧ finB l B names i = true
  | [], s, B, h, i => h i
  | nm :: names, s, B, h, i => by
    refine finN_mem V names (stepN l s nm.toList) (stepB l B nm.toList) (fun j => ?_) i
    rw [stepN_mem]
    unfold stepB
    simp only [Bool.and_eq_true, decide_eq_true_eq]
    constructor
    · rintro ⟨a, ha, ⟨h1, h2, h3⟩, h4⟩
      refine ⟨h1, by omega, ?_, h4⟩
      rw [h3, Int.toNat_natCast]
      exact ((h a).1 ha).2
    · rintro ⟨h1, h2, h3, h4⟩
      have hj0 : 0 < j := by
        rcases Nat.eq_zero_or_pos j with e | e
        · have := (V.1 (by omega)).1
          rw [e] at h2
          omega
        · exact e
      obtain ⟨q1, q2, q3⟩ := V.2 j hj0 h1
      exact ⟨(upV l j).toNat, (h _).2 ⟨by omega, h3⟩, ⟨h1, q2, by omega⟩, h4⟩
theorem led_up (l : List It) (B : Nat → Bool) : Ris (ofN ((List.range l.length).filter B)) := by
  unfold Ris ofN
  rw [List.pairwise_map]
  refine List.Pairwise.imp ?_ (List.Pairwise.filter B List.pairwise_lt_range)
  intro a b h
  simpa using h
/-- Both ways lead to the same. -/
theorem led_same {l : List It} (V : Val (upV l) (elV l) l.length) {t : Nat} (ht : t < l.length) (names : List ByteArray) (deep : Bool) : srt (ofN (finN l (startN l t deep) names)) = ((List.range l.length).filter (finB l (startB l t deep) names)).map Int.ofNat := by
  refine (srt_of (led_up l _) (fun z => ?_)).symm
  rw [ofN_mem, ofN_mem, finN_mem V names _ _ (fun i => startN_mem ht), List.mem_filter, List.mem_range]
theorem spec_led (l : List It) (hn : l.length ≤ 200) (V : Val (upV l) (elV l) l.length) (t : Nat) (ht : t < l.length) (s : ByteArray) (hs : s.data.toList.length ≤ 1048576) (hm : (specSteps s.data.toList).1.length ≤ 1048576) : Ev (fun k => spec_l11Select.f k l (t : Int) s) (((List.range l.length).filter (finB l (startB l t (specSteps s.data.toList).2.1) (specSteps s.data.toList).1)).map Int.ofNat) := by
  refine Ev.congr (f := fun k => (spec_l11Steps.f k s).bind fun bt227 => (if bt227.2.1 = true then (spec_l11Select.l0 k l (t : Int) bt227.1 [(t : Int)] (wrap64 ((t : Int) + 1))) else (spec_l11Select.j2 k l bt227.1 [(t : Int)]))) (fun k => rfl) (Ev.bind (spec_steps s hs) ?_)
  generalize specSteps s.data.toList = T at *
  obtain ⟨names, deep, ok⟩ := T
  simp only at hm ⊢
  rw [← led_same V ht]
  have h2 := spec_sel_l2 l hn names hm names.length 0 (startN l t deep) (by omega) (startN_nodup l t deep) (fun i hi => ((startN_mem ht).1 hi).1)
  rw [List.drop_zero] at h2
  have hj : Ev (fun k => spec_l11Select.j2 k l names (ofN (startN l t deep))) (srt (ofN (finN l (startN l t deep) names))) := by
    refine Ev.step (fun k => ?_) h2
    conv => lhs; unfold spec_l11Select.j2
    rfl
  cases deep with
  | false => exact hj
  | true =>
    simp only [if_true]
    rw [w1n ht (by omega)]
    have h0 := spec_sel_l0 l hn V t names _ hj (l.length - (t + 1)) (t + 1) (by omega) (by omega)
    have e : (List.range (t + 1)).filter (fun j => decide (t < j) && (decide (t ∈ chain (upV l) j) && elV l j)) = [] := by
      rw [List.filter_eq_nil_iff]
      intro j hj
      rw [List.mem_range] at hj
      simp
      omega
    rw [e] at h0
    exact h0
end Go.Proofs.YtpmjpbaeecnpiaaDoor.Pure

namespace Go.Proofs.YtpmjpbaeecnpiaaDoor.O
open Go.RowKit Go.Proofs.YtpmjpbaeecnpiaaDoor.L Go.Proofs.YtpmjpbaeecnpiaaDoorW.PrintWords Go.Proofs.YtpmjpbaeecnpiaaDoorW.PrintLast Go.Proofs.YtpmjpbaeecnpiaaDoorW.PrintMore
set_option linter.unusedVariables false
set_option linter.unusedSimpArgs false

/-- Whatever reads as a datum of type t is a d, and is ok. -/
def Opens {H α : Type} (enc : TypeId × Value → H) (P : Program) (w : World) (base : Nat) (sp : Nat → Bool) (held : Bool) (t : TypeId) (d : Kd α) (ok : α → Prop) : Prop :=
  ∀ n cs x, DataW.trod enc P w base sp held n t cs = some x → ∃ a, d.K w a cs ∧ ok a
section
variable {H : Type} {enc : TypeId × Value → H} {P : Program} {w : World} {base : Nat} {sp : Nat → Bool} {held : Bool} {t : TypeId}
theorem opens_string (ht : P.underlying t = some .string) : Opens enc P w base sp held t Kd.string (fun s => s.size ≤ maxLen) := by
  intro n cs x h
  obtain ⟨s, rfl, _, hs⟩ := DataW.trod_string ht h
  exact ⟨s, rfl, hs⟩
theorem opens_int {k : IntKind} (ht : P.underlying t = some (.int k)) : Opens enc P w base sp held t (Kd.int k) (fun n => (Lit.int k n).wf = true) := by
  intro n cs x h
  obtain ⟨s, rfl, _, hs⟩ := DataW.trod_int ht h
  exact ⟨s, rfl, hs⟩
theorem rows_of {α : Type} {d : Kd α} {ok : α → Prop} {a : Addr} (len : Nat) (h : ∀ i, i < len → ∃ cs x, w.cells? base (a.add (i * d.sz)) d.sz = some cs ∧ d.K w x cs ∧ ok x) :
    ∃ xs : List α, xs.length = len ∧ ∀ i x, xs[i]? = some x → ok x ∧ ∃ cs, w.cells? base (a.add (i * d.sz)) d.sz = some cs ∧ d.K w x cs := by
  induction len with
  | zero => exact ⟨[], rfl, fun i x hx => by simp at hx⟩
  | succ m ih =>
    obtain ⟨xs, hl, hx⟩ := ih fun i hi => h i (by omega)
    obtain ⟨cs, x, hc, hk, ho⟩ := h m (by omega)
    refine ⟨xs ++ [x], by simp [hl], fun i y hy => ?_⟩
    by_cases hi : i < m
    · rw [List.getElem?_append_left (by omega)] at hy
      exact hx i y hy
    · have hlt := (List.getElem?_eq_some_iff.1 hy).1
      simp only [List.length_append, List.length_singleton, hl] at hlt
      have : i = m := by omega
      subst this
      rw [List.getElem?_append_right (by omega), hl] at hy
      simp at hy
      subst hy
      exact ⟨ho, cs, hc, hk⟩
theorem opens_slice {α : Type} {e : TypeId} {d : Kd α} {ok : α → Prop} (e' : Nat) (ht : P.underlying t = some (.slice e)) (hc : P.cellsOf e = d.sz)
    (ho : Opens enc P w base sp held e d ok) : Opens enc P w base sp held t (Kd.slice e' d) (fun xs => xs.length ≤ maxLen ∧ ∀ x ∈ xs, ok x) := by
  intro n cs x h
  rcases DataW.trod_slice ht h with ⟨rfl, _⟩ | ⟨a, len, cap, elems, rest, m, _, rfl, _, hb, hl, hm, hlen, hel, _, _⟩
  · exact ⟨[], ⟨none, 0, rfl, by simp, Kd.C_nil d w⟩, by simp [maxLen], fun x hx => by cases hx⟩
  · rw [hc] at hel
    obtain ⟨xs, hxl, hx⟩ := rows_of (w := w) (base := base) (d := d) (ok := ok) (a := a) len (fun i hi => by
      have h1 := hel i hi
      rw [List.getElem?_eq_getElem (by omega), Option.bind_eq_some_iff] at h1
      obtain ⟨cs, hcs, htr⟩ := h1
      obtain ⟨y, hk, hok⟩ := ho m cs _ htr
      exact ⟨cs, y, hcs, hk, hok⟩)
    refine ⟨xs, ⟨some a, cap, by rw [hxl], by omega, ?_⟩, by omega, fun x hx' => ?_⟩
    · refine ⟨rfl, by unfold maxLen at hm; omega, fun _ => ⟨a, rfl, fun j p hp => ?_⟩⟩
      obtain ⟨_, cs, hcs, hk⟩ := hx j p hp
      obtain ⟨_, hcl, hcell⟩ := World.cells?_some hcs
      refine ⟨cs, hcl, hk, fun i u hu => ?_⟩
      have hlt := (List.getElem?_eq_some_iff.1 hu).1
      have := hcell i (by omega)
      rw [hu] at this
      rw [← this]
      have e : a.add (j * d.sz + i) = (a.add (j * d.sz)).add i := (Addr.add_add a _ _).symm
      rw [e]
    · obtain ⟨i, hi⟩ := List.getElem?_of_mem hx'
      exact (hx i x hi).1
/-- A struct's fields, one cell each. -/
theorem field_cell {fs : Array Field} {cs : List Value} {x : DataW H × List MemPlace} {fuel : Nat} (ht : P.underlying t = some (.struct fs)) (h : DataW.trod enc P w base sp held fuel t cs = some x)
    (i : Nat) (f : Field) (hf : fs[i]? = some f) (hof : f.offset = i) (hcf : P.cellsOf f.type = 1) : ∃ n y, DataW.trod enc P w base sp held n f.type ((cs.drop i).take 1) = some y := by
  obtain ⟨xs, n, _, _, _, hxl, hall⟩ := DataW.trod_struct ht h
  have := hall i f hf
  have hlt := (Array.getElem?_eq_some_iff.1 hf).1
  rw [hof, hcf, List.getElem?_eq_getElem (by omega)] at this
  exact ⟨n, _, this⟩
end
/-- What an attribute's and an item's mirror that came in read as. -/
def okAttr (x : S113) : Prop := x.f0.size ≤ maxLen ∧ x.f1.size ≤ maxLen
theorem opens_attr {H : Type} {enc : TypeId × Value → H} {w : World} {base : Nat} {sp : Nat → Bool} {held : Bool} :
    Opens enc Tryd.prog w base sp held 113 k113 okAttr := by
  intro n cs x h
  have hl : cs.length = 2 := by
    obtain ⟨_, _, _, _, hcl, _, _⟩ := DataW.trod_struct Tryd.underlying113 h
    exact hcl.trans (by kernel_rfl)
  obtain ⟨n0, y0, h0⟩ := field_cell Tryd.underlying113 h 0 _ rfl rfl (by kernel_rfl)
  obtain ⟨n1, y1, h1⟩ := field_cell Tryd.underlying113 h 1 _ rfl rfl (by kernel_rfl)
  clear h
  obtain ⟨s0, e0, o0⟩ := opens_string (enc := enc) (base := base) (sp := sp) (held := held) (w := w) Tryd.underlying9 _ _ _ h0
  obtain ⟨s1, e1, o1⟩ := opens_string (enc := enc) (base := base) (sp := sp) (held := held) (w := w) Tryd.underlying9 _ _ _ h1
  match cs, hl with
  | [c0, c1], _ =>
    obtain rfl : c0 = Value.string s0 := (List.cons.inj (show [c0] = [Value.string s0] from e0)).1
    obtain rfl : c1 = Value.string s1 := (List.cons.inj (show [c1] = [Value.string s1] from e1)).1
    exact ⟨⟨s0, s1⟩, k113_mk w ⟨s0, s1⟩, o0, o1⟩
def okItem (x : S63) : Prop := x.f1.size ≤ maxLen ∧ x.f2.size ≤ maxLen ∧ x.f3.length ≤ maxLen ∧ ∀ a ∈ x.f3, okAttr a
theorem opens_item {H : Type} {enc : TypeId × Value → H} {w : World} {base : Nat} {sp : Nat → Bool} {held : Bool} :
    Opens enc Tryd.prog w base sp held 63 k63 okItem := by
  intro n cs x h
  have hl : cs.length = 4 := by
    obtain ⟨_, _, _, _, hcl, _, _⟩ := DataW.trod_struct Tryd.underlying63 h
    exact hcl.trans (by kernel_rfl)
  obtain ⟨n0, y0, h0⟩ := field_cell Tryd.underlying63 h 0 _ rfl rfl (by kernel_rfl)
  obtain ⟨n1, y1, h1⟩ := field_cell Tryd.underlying63 h 1 _ rfl rfl (by kernel_rfl)
  obtain ⟨n2, y2, h2⟩ := field_cell Tryd.underlying63 h 2 _ rfl rfl (by kernel_rfl)
  obtain ⟨n3, y3, h3⟩ := field_cell Tryd.underlying63 h 3 _ rfl rfl (by kernel_rfl)
  clear h
  obtain ⟨s0, e0, o0⟩ := opens_int (enc := enc) (base := base) (sp := sp) (held := held) (w := w) (k := .i64) Tryd.underlying2 _ _ _ h0
  obtain ⟨s1, e1, o1⟩ := opens_string (enc := enc) (base := base) (sp := sp) (held := held) (w := w) Tryd.underlying9 _ _ _ h1
  obtain ⟨s2, e2, o2⟩ := opens_string (enc := enc) (base := base) (sp := sp) (held := held) (w := w) Tryd.underlying9 _ _ _ h2
  obtain ⟨s3, ⟨A3, c3, e3, l3, g3⟩, o3⟩ := opens_slice (enc := enc) (base := base) (sp := sp) (held := held) (w := w) 113 Tryd.underlying61 (by kernel_rfl) opens_attr _ _ _ h3
  match cs, hl with
  | [c0, c1, c2, c3'], _ =>
    obtain rfl : c0 = Value.int .i64 s0 := (List.cons.inj (show [c0] = [Value.int .i64 s0] from e0)).1
    obtain rfl : c1 = Value.string s1 := (List.cons.inj (show [c1] = [Value.string s1] from e1)).1
    obtain rfl : c2 = Value.string s2 := (List.cons.inj (show [c2] = [Value.string s2] from e2)).1
    obtain rfl : c3' = Value.slice A3 s3.length c3 := (List.cons.inj (show [c3'] = [Value.slice A3 s3.length c3] from e3)).1
    exact ⟨⟨s0, s1, s2, s3⟩, k63_mk w ⟨s0, s1, s2, s3⟩ l3 g3, o1, o2, o3⟩
end Go.Proofs.YtpmjpbaeecnpiaaDoor.O
