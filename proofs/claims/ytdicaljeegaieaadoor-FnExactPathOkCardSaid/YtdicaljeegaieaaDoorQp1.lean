/- Words and contracts for the row RowFnExactPathOk: what the Go functions answer that it calls; printed by programs of the kit and of this session, and merged. -/
import Derived.Test.YtdicaljeegaieaaDoorQp0
import Derived.Test.YtdicaljeegaieaaDoorProg
import Derived.Below
import Derived.Deep.Draws
import Derived.Deep.AppendLies
import Derived.Maps.AppendAt
import Derived.OwnWalk
import Derived.Laws.BytesArg
import Derived.Laws.MakeOwn
import Derived.Laws.OwnMore
import Derived.Deep.OwnRows
import Derived.Tactics
import Derived.Lib.ConvBytes
import Derived.Laws.Slices
import Derived.WalkKit
import Derived.KernelRfl
import Derived.RowKit3
import Derived.Deep.LoopGhost
import Derived.Deep.QuietTactic
import Derived.BigQuiet
import Derived.WideLaws
import Derived.Deep.DeepCutAuto
import Derived.Deep.CutBlock
import Derived.Deep.RegionHeld3
import Derived.Laws.Rows
import Derived.Lib.AppendStr
import Derived.ArgAppend
import Derived.Laws.IdiomCopy
import Derived.OrdersHeld
import Derived.Laws.BitsLemmas
import Derived.RowKit
import Derived.Shelf.Unicode.DecodeSlow
import Derived.Shelf.Lays
import Derived.Shelf.LaysM
import Derived.Shelf.Strings.Search1
import Derived.Shelf.Strings.Search2
import Derived.Shelf.Strings.Split
import Derived.Shelf.Strings.SplitShaped
import Derived.Shelf.Strings.Shaped
import Derived.Lib.SlBy
import Derived.Lib.Hide
import Derived.Outline
import Derived.Sort.Walk0
import Derived.Lib.SplitLaws
import Derived.Lib.IndexBytes
namespace Go.Proofs.YtdicaljeegaieaaDoor.L
open Go.RowKit Go.Proofs.YtdicaljeegaieaaDoorW.PrintWords Go.Proofs.YtdicaljeegaieaaDoorW.PrintLast Go.Proofs.YtdicaljeegaieaaDoorW.PrintMore
attribute [local go_sem] max2_int min2_int max_two min_two max_three min_three max_four min_four
set_option linter.unusedVariables false
set_option linter.unusedSimpArgs false



def errW : Option Int → Value
 | none => .nilIface
 | some c => .iface 0 (.int .i64 c)
theorem errW_none : errW none = .nilIface := rfl
theorem errW_some (c : Int) : errW (some c) = .iface 0 (.int .i64 c) := rfl

theorem info9 : (Tryd.prog.info? 9).map (fun i => (i.zero, i.size, i.bytes)) = some (some (.string ⟨#[]⟩), 1, 16) := by kernel_rfl
-- the values' own types
/-! #### struct type 71 -/
/-! #### struct type 72 -/
/-! ### spec_l1First: function 90 -/
def spec_l1First.f (a0 : Int) : Option (Bool) := if a0 ≥ 97 then (if a0 ≤ 122 then (some true) else (if a0 ≥ 65 then (if a0 ≤ 90 then (some true) else (some (a0 == 95))) else (some (a0 == 95)))) else (if a0 ≥ 65 then (if a0 ≤ 90 then (some true) else (some (a0 == 95))) else (some (a0 == 95)))
set_option maxHeartbeats 8000000 in
set_option maxRecDepth 100000 in
theorem spec_l1First.calls (a0 : Int) (r : Bool) (w : World) (h : spec_l1First.f a0 = some r) :
  Calls Tryd.prog 90 #[.int .u8 a0] w fun e w' => e = .returned (.bool r) ∧ Drawn0 w w' := by
 have H : (if a0 ≥ 97 then (if a0 ≤ 122 then (some true) else (if a0 ≥ 65 then (if a0 ≤ 90 then (some true) else (some (a0 == 95))) else (some (a0 == 95)))) else (if a0 ≥ 65 then (if a0 ≤ 90 then (some true) else (some (a0 == 95))) else (some (a0 == 95)))) = some r := h
 clear h
 by_cases c2 : a0 ≥ 97
 ·rw [if_pos c2] at H
  have c2b0 : decide (97 ≤ a0) = true := decide_eq_true c2
  clear c2
  by_cases c3 : a0 ≤ 122
  ·rw [if_pos c3] at H
   have c3b0 : decide (a0 ≤ 122) = true := decide_eq_true c3
   clear c3
   obtain rfl := Option.some.inj H
   go_enter Tryd.func90, Tryd.ntmps90
   go_wp2
   go_ret
   exact ⟨by first | rfl | (simp; done) | (simp [*]; done), by repeat (first | exact Drawn0.refl _ | apply Drawn0.step)⟩
  ·rw [if_neg c3] at H
   have c3b0 : decide (a0 ≤ 122) = false := decide_eq_false c3
   clear c3
   by_cases c4 : a0 ≥ 65
   ·rw [if_pos c4] at H
    have c4b0 : decide (65 ≤ a0) = true := decide_eq_true c4
    clear c4
    by_cases c5 : a0 ≤ 90
    ·rw [if_pos c5] at H
     have c5b0 : decide (a0 ≤ 90) = true := decide_eq_true c5
     clear c5
     obtain rfl := Option.some.inj H
     go_enter Tryd.func90, Tryd.ntmps90
     go_wp2
     go_ret
     exact ⟨by first | rfl | (simp; done) | (simp [*]; done), by repeat (first | exact Drawn0.refl _ | apply Drawn0.step)⟩
    ·rw [if_neg c5] at H
     have c5b0 : decide (a0 ≤ 90) = false := decide_eq_false c5
     clear c5
     obtain rfl := Option.some.inj H
     go_enter Tryd.func90, Tryd.ntmps90
     go_wp2
     go_ret
     exact ⟨by first | rfl | (simp; done) | (simp [*]; done), by repeat (first | exact Drawn0.refl _ | apply Drawn0.step)⟩
   ·rw [if_neg c4] at H
    have c4b0 : decide (65 ≤ a0) = false := decide_eq_false c4
    clear c4
    obtain rfl := Option.some.inj H
    go_enter Tryd.func90, Tryd.ntmps90
    go_wp2
    go_ret
    exact ⟨by first | rfl | (simp; done) | (simp [*]; done), by repeat (first | exact Drawn0.refl _ | apply Drawn0.step)⟩
 ·rw [if_neg c2] at H
  have c2b0 : decide (97 ≤ a0) = false := decide_eq_false c2
  clear c2
  by_cases c6 : a0 ≥ 65
  ·rw [if_pos c6] at H
   have c6b0 : decide (65 ≤ a0) = true := decide_eq_true c6
   clear c6
   by_cases c7 : a0 ≤ 90
   ·rw [if_pos c7] at H
    have c7b0 : decide (a0 ≤ 90) = true := decide_eq_true c7
    clear c7
    obtain rfl := Option.some.inj H
    go_enter Tryd.func90, Tryd.ntmps90
    go_wp2
    go_ret
    exact ⟨by first | rfl | (simp; done) | (simp [*]; done), by repeat (first | exact Drawn0.refl _ | apply Drawn0.step)⟩
   ·rw [if_neg c7] at H
    have c7b0 : decide (a0 ≤ 90) = false := decide_eq_false c7
    clear c7
    obtain rfl := Option.some.inj H
    go_enter Tryd.func90, Tryd.ntmps90
    go_wp2
    go_ret
    exact ⟨by first | rfl | (simp; done) | (simp [*]; done), by repeat (first | exact Drawn0.refl _ | apply Drawn0.step)⟩
  ·rw [if_neg c6] at H
   have c6b0 : decide (65 ≤ a0) = false := decide_eq_false c6
   clear c6
   obtain rfl := Option.some.inj H
   go_enter Tryd.func90, Tryd.ntmps90
   go_wp2
   go_ret
   exact ⟨by first | rfl | (simp; done) | (simp [*]; done), by repeat (first | exact Drawn0.refl _ | apply Drawn0.step)⟩

/-! ### spec_l1Digit: function 122 -/
def spec_l1Digit.f (a0 : Int) : Option (Bool) := if a0 ≥ 48 then (some (decide (a0 ≤ 57))) else (some false)
set_option maxHeartbeats 8000000 in
set_option maxRecDepth 100000 in
theorem spec_l1Digit.calls (a0 : Int) (r : Bool) (w : World) (h : spec_l1Digit.f a0 = some r) :
  Calls Tryd.prog 122 #[.int .u8 a0] w fun e w' => e = .returned (.bool r) ∧ Drawn0 w w' := by
 have H : (if a0 ≥ 48 then (some (decide (a0 ≤ 57))) else (some false)) = some r := h
 clear h
 by_cases c2 : a0 ≥ 48
 ·rw [if_pos c2] at H
  have c2b0 : decide (48 ≤ a0) = true := decide_eq_true c2
  clear c2
  obtain rfl := Option.some.inj H
  go_enter Tryd.func122, Tryd.ntmps122
  go_wp2
  go_ret
  exact ⟨by first | rfl | (simp; done) | (simp [*]; done), by repeat (first | exact Drawn0.refl _ | apply Drawn0.step)⟩
 ·rw [if_neg c2] at H
  have c2b0 : decide (48 ≤ a0) = false := decide_eq_false c2
  clear c2
  obtain rfl := Option.some.inj H
  go_enter Tryd.func122, Tryd.ntmps122
  go_wp2
  go_ret
  exact ⟨by first | rfl | (simp; done) | (simp [*]; done), by repeat (first | exact Drawn0.refl _ | apply Drawn0.step)⟩

/-! ### spec_l1More: function 91 -/
def spec_l1More.f (a0 : Int) : Option (Bool) := (spec_l1First.f a0).bind fun t101 => (if t101 = true then (some true) else ((spec_l1Digit.f a0).bind fun t102 => (if t102 = true then (some true) else (if a0 = 46 then (some true) else (some (a0 == 45))))))
set_option maxHeartbeats 8000000 in
set_option maxRecDepth 100000 in
theorem spec_l1More.calls (a0 : Int) (r : Bool) (w : World) (h : spec_l1More.f a0 = some r) :
  Calls Tryd.prog 91 #[.int .u8 a0] w fun e w' => e = .returned (.bool r) ∧ Drawn0 w w' := by
 have H : ((spec_l1First.f a0).bind fun t101 => (if t101 = true then (some true) else ((spec_l1Digit.f a0).bind fun t102 => (if t102 = true then (some true) else (if a0 = 46 then (some true) else (some (a0 == 45))))))) = some r := h
 clear h
 replace H := Option.bind_eq_some_iff.mp H
 obtain ⟨t101, A20, H⟩ := H
 replace H : (if t101 = true then (some true) else ((spec_l1Digit.f a0).bind fun t102 => (if t102 = true then (some true) else (if a0 = 46 then (some true) else (some (a0 == 45)))))) = some r := H
 have A2 := Aside0.mk A20
 clear A20
 by_cases c3 : t101 = true
 ·subst c3
  have H1 : (some true) = some r := by rw [if_pos rfl] at H; exact H
  clear H
  have H := H1
  clear H1
  obtain rfl := Option.some.inj H
  go_enter Tryd.func91, Tryd.ntmps91
  go_wp2_with (first | ((with_reducible refine gate_callee (f := 90) rfl ?_); refine goesL_ (some 4) rfl rfl Tryd.func90 (by kernel_rfl) rfl #[.int .u8 a0] rfl (by (try simp only [List.map_toArray, List.map_cons, List.map_nil]); first | done | rfl | (simp only [List.length_drop, List.length_take]; rfl)) ?_; (with_reducible refine (spec_l1First.calls a0 true _ A2.out).mono ?_); rintro e w' ⟨rfl, ⟨nd, rfl⟩⟩; refine ⟨_, rfl, ?_⟩))
  go_ret
  exact ⟨by first | rfl | (simp; done) | (simp [*]; done), by repeat (first | exact Drawn0.refl _ | apply Drawn0.step)⟩
 ·replace c3 := Bool.eq_false_iff.mpr c3
  subst c3
  have H1 : ((spec_l1Digit.f a0).bind fun t102 => (if t102 = true then (some true) else (if a0 = 46 then (some true) else (some (a0 == 45))))) = some r := by rw [if_neg (show ¬ (false = true) by decide)] at H; exact H
  clear H
  have H := H1
  clear H1
  replace H := Option.bind_eq_some_iff.mp H
  obtain ⟨t102, A40, H⟩ := H
  replace H : (if t102 = true then (some true) else (if a0 = 46 then (some true) else (some (a0 == 45)))) = some r := H
  have A4 := Aside0.mk A40
  clear A40
  by_cases c5 : t102 = true
  ·subst c5
   have H1 : (some true) = some r := by rw [if_pos rfl] at H; exact H
   clear H
   have H := H1
   clear H1
   obtain rfl := Option.some.inj H
   go_enter Tryd.func91, Tryd.ntmps91
   go_wp2_with (first | ((with_reducible refine gate_callee (f := 90) rfl ?_); refine goesL_ (some 4) rfl rfl Tryd.func90 (by kernel_rfl) rfl #[.int .u8 a0] rfl (by (try simp only [List.map_toArray, List.map_cons, List.map_nil]); first | done | rfl | (simp only [List.length_drop, List.length_take]; rfl)) ?_; (with_reducible refine (spec_l1First.calls a0 false _ A2.out).mono ?_); rintro e w' ⟨rfl, ⟨nd, rfl⟩⟩; refine ⟨_, rfl, ?_⟩) | (go_at_call 122; (with_reducible refine (spec_l1Digit.calls a0 true _ A4.out).mono ?_); rintro e w' ⟨rfl, ⟨nd, rfl⟩⟩))
   go_ret
   exact ⟨by first | rfl | (simp; done) | (simp [*]; done), by repeat (first | exact Drawn0.refl _ | apply Drawn0.step)⟩
  ·replace c5 := Bool.eq_false_iff.mpr c5
   subst c5
   have H1 : (if a0 = 46 then (some true) else (some (a0 == 45))) = some r := by rw [if_neg (show ¬ (false = true) by decide)] at H; exact H
   clear H
   have H := H1
   clear H1
   by_cases c6 : a0 = 46
   ·rw [if_pos c6] at H
    have c6b0 : (a0 == 46) = true := beq_iff_eq.mpr c6
    have c6b1 : (a0 != 46) = false := bne_eq_false_iff_eq.mpr c6
    clear c6
    obtain rfl := Option.some.inj H
    go_enter Tryd.func91, Tryd.ntmps91
    go_wp2_with (first | ((with_reducible refine gate_callee (f := 90) rfl ?_); refine goesL_ (some 4) rfl rfl Tryd.func90 (by kernel_rfl) rfl #[.int .u8 a0] rfl (by (try simp only [List.map_toArray, List.map_cons, List.map_nil]); first | done | rfl | (simp only [List.length_drop, List.length_take]; rfl)) ?_; (with_reducible refine (spec_l1First.calls a0 false _ A2.out).mono ?_); rintro e w' ⟨rfl, ⟨nd, rfl⟩⟩; refine ⟨_, rfl, ?_⟩) | (go_at_call 122; (with_reducible refine (spec_l1Digit.calls a0 false _ A4.out).mono ?_); rintro e w' ⟨rfl, ⟨nd, rfl⟩⟩))
    go_ret
    exact ⟨by first | rfl | (simp; done) | (simp [*]; done), by repeat (first | exact Drawn0.refl _ | apply Drawn0.step)⟩
   ·rw [if_neg c6] at H
    have c6b0 : (a0 == 46) = false := beq_eq_false_iff_ne.mpr c6
    have c6b1 : (a0 != 46) = true := bne_iff_ne.mpr c6
    obtain rfl := Option.some.inj H
    go_enter Tryd.func91, Tryd.ntmps91
    go_wp2_with (first | ((with_reducible refine gate_callee (f := 90) rfl ?_); refine goesL_ (some 4) rfl rfl Tryd.func90 (by kernel_rfl) rfl #[.int .u8 a0] rfl (by (try simp only [List.map_toArray, List.map_cons, List.map_nil]); first | done | rfl | (simp only [List.length_drop, List.length_take]; rfl)) ?_; (with_reducible refine (spec_l1First.calls a0 false _ A2.out).mono ?_); rintro e w' ⟨rfl, ⟨nd, rfl⟩⟩; refine ⟨_, rfl, ?_⟩) | (go_at_call 122; (with_reducible refine (spec_l1Digit.calls a0 false _ A4.out).mono ?_); rintro e w' ⟨rfl, ⟨nd, rfl⟩⟩))
    go_ret
    exact ⟨by first | rfl | (simp; done) | (simp [*]; done), by repeat (first | exact Drawn0.refl _ | apply Drawn0.step)⟩

/-! ### spec_NameOk: function 45 -/
mutual
def spec_NameOk.j0 : Nat → ByteArray → Bool → Option (Bool)
 | 0, _, _ => none
 | k + 1, x0, x17 => if x17 = true then (some false) else (spec_NameOk.l0 k x0 1)
def spec_NameOk.l0 : Nat → ByteArray → Int → Option (Bool)
 | 0, _, _ => none
 | k + 1, x0, x3 => if x3 < (x0.size : Int) then (if 0 ≤ x3 then ((spec_l1More.f (bt x0 x3)).bind fun t104 => (if t104 = true then (spec_NameOk.l0 k x0 (wrap64 (x3 + 1))) else (some false))) else (none)) else (some true)
end
def spec_NameOk.f (k : Nat) (a0 : ByteArray) : Option (Bool) := if (a0.size : Int) < 1 then (spec_NameOk.j0 k a0 true) else (if (a0.size : Int) > 40 then (spec_NameOk.j0 k a0 true) else (if 0 < (a0.size : Int) then ((spec_l1First.f (bt a0 0)).bind fun t103 => (spec_NameOk.j0 k a0 (!t103))) else (none)))
set_option maxHeartbeats 8000000 in
set_option maxRecDepth 100000 in
theorem spec_NameOk.calls (k : Nat) (a0 : ByteArray) (r : Bool) (w : World) (h : spec_NameOk.f k a0 = some r) :
  Calls Tryd.prog 45 #[.string a0] w fun e w' => e = .returned (.bool r) ∧ Drawn0 w w' := by
 have H : (if (a0.size : Int) < 1 then (spec_NameOk.j0 k a0 true) else (if (a0.size : Int) > 40 then (spec_NameOk.j0 k a0 true) else (if 0 < (a0.size : Int) then ((spec_l1First.f (bt a0 0)).bind fun t103 => (spec_NameOk.j0 k a0 (!t103))) else (none)))) = some r := h
 clear h
 have HC2 := Aside0.mk H
 clear H
 go_enter Tryd.func45, Tryd.ntmps45
 go_upto_region 1 with (fail)
 go_cut [17] (fun v17 wc => ∃ (kq : Nat) (x17_1 : Bool), v17 = .bool x17_1 ∧ Aside0 (spec_NameOk.j0 kq a0 x17_1 = some r) ∧ Aside0 (kq ≤ k) ∧ Drawn0 w wc)
 case first =>
  have H := HC2.out
  clear HC2
  by_cases c3 : (a0.size : Int) < 1
  ·rw [if_pos c3] at H
   have c3b0 : decide ((a0.size : Int) < 1) = true := decide_eq_true c3
   have c3b1 : decide (a0.size < 1) = true := decide_eq_true (by omega)
   clear c3
   (first | rw [c3b0] | (simp only [i64_w, i32_w]; rw [c3b0]) | skip)
   have H' := Aside0.mk H
   clear H
   go_wp2
   go_meet
   case rel => exact ⟨_, (true), (by first | rfl | (simp; done) | (simp [*]; done)), H', ⟨by first | omega | exact Nat.le_refl _⟩, by repeat (first | exact Drawn0.refl _ | apply Drawn0.step)⟩
  ·rw [if_neg c3] at H
   have c3b0 : decide ((a0.size : Int) < 1) = false := decide_eq_false c3
   have c3b1 : decide (a0.size < 1) = false := decide_eq_false (by omega)
   clear c3
   (first | rw [c3b0] | (simp only [i64_w, i32_w]; rw [c3b0]) | skip)
   by_cases c4 : (a0.size : Int) > 40
   ·rw [if_pos c4] at H
    have c4b0 : decide (40 < (a0.size : Int)) = true := decide_eq_true c4
    have c4b1 : decide (40 < a0.size) = true := decide_eq_true (by omega)
    clear c4
    have H' := Aside0.mk H
    clear H
    go_wp2
    go_meet
    case rel => exact ⟨_, (true), (by first | rfl | (simp; done) | (simp [*]; done)), H', ⟨by first | omega | exact Nat.le_refl _⟩, by repeat (first | exact Drawn0.refl _ | apply Drawn0.step)⟩
   ·rw [if_neg c4] at H
    have c4b0 : decide (40 < (a0.size : Int)) = false := decide_eq_false c4
    have c4b1 : decide (40 < a0.size) = false := decide_eq_false (by omega)
    clear c4
    by_cases c5 : 0 < (a0.size : Int)
    ·rw [if_pos c5] at H
     have c5b0 : decide (0 < (a0.size : Int)) = true := decide_eq_true c5
     have c5b1 : decide (0 < a0.size) = true := decide_eq_true (by omega)
     clear c5
     replace H := Option.bind_eq_some_iff.mp H
     obtain ⟨t103, A70, H⟩ := H
     replace H : (spec_NameOk.j0 k a0 (!t103)) = some r := H
     have A7 := Aside0.mk A70
     clear A70
     have H' := Aside0.mk H
     clear H
     have p6 : 0 ≤ (0 : Int) := (by omega)
     have q6 : 0 < a0.size := (by have : (0 : Int) < (a0.size : Int) := of_decide_eq_true (by first | (with_reducible assumption) | assumption); omega)
     have hx6 : ∀ h : 0 < a0.size, ((a0[0]'h).toNat : Int) = bt a0 0 := bt_at a0 0
     clear p6
     have qi6 : (0 < (a0.size : Int)) = True := eq_true (of_decide_eq_true (by first | (with_reducible assumption) | assumption))
     replace q6 := eq_true q6
     go_wp2_with (first | (go_at_call 90; (with_reducible refine (spec_l1First.calls (bt a0 0) t103 _ A7.out).mono ?_); rintro e w' ⟨rfl, ⟨nd, rfl⟩⟩))
     go_meet
     case rel => exact ⟨_, (!t103), (by first | rfl | (simp; done) | (simp [*]; done)), H', ⟨by first | omega | exact Nat.le_refl _⟩, by repeat (first | exact Drawn0.refl _ | apply Drawn0.step)⟩
    ·rw [if_neg c5] at H
     exact absurd H (by simp)
 case rest =>
  clear HC2
  try clear p2
  try clear c3
  try clear c3b0
  try clear c3b1
  try clear c4
  try clear c4b0
  try clear c4b1
  try clear c5
  try clear c5b0
  try clear c5b1
  try clear p6
  try clear q6
  try clear hx6
  try clear qi6
  try clear p6
  try clear q6
  obtain ⟨kq, x17_1, rfl, HA, HJ1, ⟨mc1, rfl⟩⟩ := hcut
  cases kq with
  | zero => exact absurd HA.out (by simp [spec_NameOk.j0])
  | succ kj1 =>
   have H := HA.out
   clear HA
   simp only [spec_NameOk.j0] at H
   by_cases c8 : x17_1 = true
   ·subst c8
    have H1 : (some false) = some r := by rw [if_pos rfl] at H; exact H
    clear H
    have H := H1
    clear H1
    obtain rfl := Option.some.inj H
    go_wp2
    go_ret
    exact ⟨by first | rfl | (simp; done) | (simp [*]; done), by repeat (first | exact Drawn0.refl _ | apply Drawn0.step)⟩
   ·replace c8 := Bool.eq_false_iff.mpr c8
    subst c8
    have H1 : (spec_NameOk.l0 kj1 a0 1) = some r := by rw [if_neg (show ¬ (false = true) by decide)] at H; exact H
    clear H
    have H := H1
    clear H1
    have H' := Aside0.mk H
    clear H
    go_wp2
    go_loopg [3] kj1 (fun kq v3 w' => ∃ (x3_2 : Int), v3 = .int .i64 x3_2 ∧ Aside0 (spec_NameOk.l0 kq a0 x3_2 = some r) ∧ Aside0 (kq ≤ kj1) ∧ Drawn0 w w')
    case atStart => exact ⟨(1), (by first | rfl | (simp; done) | (simp [*]; done)), H', ⟨Nat.le_refl _⟩, by repeat (first | exact Drawn0.refl _ | apply Drawn0.step)⟩
    case round =>
     clear H'
     try clear c1
     try clear p2
     try clear c3
     try clear c3b0
     try clear c3b1
     try clear c4
     try clear c4b0
     try clear c4b1
     try clear c5
     try clear c5b0
     try clear c5b1
     try clear p6
     try clear q6
     try clear hx6
     try clear qi6
     try clear c8
     try clear p2
     try clear p6
     try clear q6
     obtain ⟨x3_2, rfl, HA, HK2, ⟨m2, rfl⟩⟩ := hrel
     cases gk with
     | zero => exact absurd HA.out (by simp [spec_NameOk.l0])
     | succ k2 =>
      have H := HA.out
      clear HA
      simp only [spec_NameOk.l0] at H
      by_cases c9 : x3_2 < (a0.size : Int)
      ·rw [if_pos c9] at H
       have c9b0 : decide (x3_2 < (a0.size : Int)) = true := decide_eq_true c9
       clear c9
       by_cases c10 : 0 ≤ x3_2
       ·rw [if_pos c10] at H
        have c10b0 : decide (0 ≤ x3_2) = true := decide_eq_true c10
        clear c10
        replace H := Option.bind_eq_some_iff.mp H
        obtain ⟨t104, A120, H⟩ := H
        replace H : (if t104 = true then (spec_NameOk.l0 k2 a0 (wrap64 (x3_2 + 1))) else (some false)) = some r := H
        have A12 := Aside0.mk A120
        clear A120
        by_cases c13 : t104 = true
        ·subst c13
         have H1 : (spec_NameOk.l0 k2 a0 (wrap64 (x3_2 + 1))) = some r := by rw [if_pos rfl] at H; exact H
         clear H
         have H := H1
         clear H1
         have H' := Aside0.mk H
         clear H
         have p11 : 0 ≤ (x3_2 : Int) := of_decide_eq_true (by first | (with_reducible assumption) | assumption)
         have q11 : x3_2 < (a0.size : Int) := of_decide_eq_true (by first | (with_reducible assumption) | assumption)
         have hx11 := bt_at a0 x3_2
         replace p11 := eq_true p11
         replace q11 := eq_true q11
         go_wp2_with (first | ((with_reducible refine gate_callee (f := 91) rfl ?_); refine goesL_ (some 27) rfl rfl Tryd.func91 (by kernel_rfl) rfl #[.int .u8 (bt a0 x3_2)] rfl (by (try simp only [List.map_toArray, List.map_cons, List.map_nil]); first | done | rfl | (simp only [List.length_drop, List.length_take]; rfl)) ?_; (with_reducible refine (spec_l1More.calls (bt a0 x3_2) true _ A12.out).mono ?_); rintro e w' ⟨rfl, ⟨nd, rfl⟩⟩; refine ⟨_, rfl, ?_⟩))
         go_roundg k2
         case measure => have := HJ1.out; have := HK2.out; omega
         case rel => exact ⟨(wrap64 (x3_2 + 1)), (by first | rfl | (simp; done) | (simp [*]; done)), H', ⟨by have := HJ1.out; have := HK2.out; omega⟩, by repeat (first | exact Drawn0.refl _ | apply Drawn0.step)⟩
        ·replace c13 := Bool.eq_false_iff.mpr c13
         subst c13
         have H1 : (some false) = some r := by rw [if_neg (show ¬ (false = true) by decide)] at H; exact H
         clear H
         have H := H1
         clear H1
         obtain rfl := Option.some.inj H
         have p11 : 0 ≤ (x3_2 : Int) := of_decide_eq_true (by first | (with_reducible assumption) | assumption)
         have q11 : x3_2 < (a0.size : Int) := of_decide_eq_true (by first | (with_reducible assumption) | assumption)
         have hx11 := bt_at a0 x3_2
         replace p11 := eq_true p11
         replace q11 := eq_true q11
         go_wp2_with (first | ((with_reducible refine gate_callee (f := 91) rfl ?_); refine goesL_ (some 27) rfl rfl Tryd.func91 (by kernel_rfl) rfl #[.int .u8 (bt a0 x3_2)] rfl (by (try simp only [List.map_toArray, List.map_cons, List.map_nil]); first | done | rfl | (simp only [List.length_drop, List.length_take]; rfl)) ?_; (with_reducible refine (spec_l1More.calls (bt a0 x3_2) false _ A12.out).mono ?_); rintro e w' ⟨rfl, ⟨nd, rfl⟩⟩; refine ⟨_, rfl, ?_⟩))
         go_ret
         exact ⟨by first | rfl | (simp; done) | (simp [*]; done), by repeat (first | exact Drawn0.refl _ | apply Drawn0.step)⟩
       ·rw [if_neg c10] at H
        exact absurd H (by simp)
      ·rw [if_neg c9] at H
       have c9b0 : decide (x3_2 < (a0.size : Int)) = false := decide_eq_false c9
       clear c9
       obtain rfl := Option.some.inj H
       go_wp2
       go_ret
       exact ⟨by first | rfl | (simp; done) | (simp [*]; done), by repeat (first | exact Drawn0.refl _ | apply Drawn0.step)⟩

/-! ### spec_l11Steps: function 42 -/
mutual
def spec_l11Steps.j0 : Nat → ByteArray → Bool → Option (List ByteArray × Bool × Bool)
 | 0, _, _ => none
 | k + 1, x0, x5 => if x5 = true then (if 2 ≤ (x0.size : Int) then (spec_l11Steps.j1 k (x0.extract 2 x0.size) x5) else (none)) else (spec_l11Steps.j1 k x0 x5)
def spec_l11Steps.j1 : Nat → ByteArray → Bool → Option (List ByteArray × Bool × Bool)
 | 0, _, _ => none
 | k + 1, x0, x5 => spec_l11Steps.l0 k x0 x5 (([] : List ByteArray)) (⟨#[]⟩ : ByteArray) 0
def spec_l11Steps.l0 : Nat → ByteArray → Bool → List ByteArray → ByteArray → Int → Option (List ByteArray × Bool × Bool)
 | 0, _, _, _, _, _ => none
 | k + 1, x0, x5, x6, x7, x8 => if x8 ≤ (x0.size : Int) then (if x8 < (x0.size : Int) then (if 0 ≤ x8 then (spec_l11Steps.j3 k x0 x5 x6 x7 x8 ((bt x0 x8) != 47)) else (none)) else (spec_l11Steps.j3 k x0 x5 x6 x7 x8 false)) else (some (x6, x5, decide ((x6.length : Int) ≤ 6)))
def spec_l11Steps.j3 : Nat → ByteArray → Bool → List ByteArray → ByteArray → Int → Bool → Option (List ByteArray × Bool × Bool)
 | 0, _, _, _, _, _, _ => none
 | k + 1, x0, x5, x6, x7, x8, x36 => if x36 = true then (if 0 ≤ x8 then (if x8 ≤ (wrap64 (x8 + 1)) then (if (wrap64 (x8 + 1)) ≤ (x0.size : Int) then (if x7.size + (x0.extract (x8 : Int).toNat ((wrap64 (x8 + 1)) : Int).toNat).size ≤ 9223372036854775807 then (spec_l11Steps.l0 k x0 x5 x6 (x7 ++ (x0.extract (x8 : Int).toNat ((wrap64 (x8 + 1)) : Int).toNat)) (wrap64 (x8 + 1))) else (none)) else (none)) else (none)) else (none)) else ((spec_NameOk.f k x7).bind fun t108 => (if t108 = true then (if x6.length < 8796093022208 then (spec_l11Steps.l0 k x0 x5 (x6 ++ [x7]) (⟨#[]⟩ : ByteArray) (wrap64 (x8 + 1))) else (none)) else (some (([] : List ByteArray), false, false))))
end
def spec_l11Steps.f (k : Nat) (a0 : ByteArray) : Option (List ByteArray × Bool × Bool) := if (a0.size : Int) > 2 then (if 0 ≤ 2 then (if 2 ≤ (a0.size : Int) then (spec_l11Steps.j0 k a0 ((a0.extract 0 2).toList == ([47, 47] : List UInt8))) else (none)) else (none)) else (spec_l11Steps.j0 k a0 false)
set_option maxHeartbeats 8000000 in
set_option maxRecDepth 100000 in
theorem spec_l11Steps.calls (k : Nat) (a0 : ByteArray) (r1 : List ByteArray) (r2 : Bool) (r3 : Bool) (w : World) (h : spec_l11Steps.f k a0 = some (r1, r2, r3)) :
  Calls Tryd.prog 42 #[.string a0] w fun e w' => ∃ v0_ : Value, e = .returned (.tuple #[v0_, .bool r2, .bool r3]) ∧ Kd.R Kd.string 9 w' w.heap.size (fun _ => True) v0_ r1 ∧ Below w.heap.size w w' := by
 have HB := Aside0.mk (Below.refl w.heap.size w)
 have H : (if (a0.size : Int) > 2 then (if 0 ≤ 2 then (if 2 ≤ (a0.size : Int) then (spec_l11Steps.j0 k a0 ((a0.extract 0 2).toList == ([47, 47] : List UInt8))) else (none)) else (none)) else (spec_l11Steps.j0 k a0 false)) = some (r1, r2, r3) := h
 clear h
 have HC2 := Aside0.mk H
 clear H
 go_enter Tryd.func42, Tryd.ntmps42
 go_upto_region 1 with (fail)
 go_cut [5] (fun v5 wc => ∃ (kq : Nat) (x5_1 : Bool), v5 = .bool x5_1 ∧ Aside0 (spec_l11Steps.j0 kq a0 x5_1 = some (r1, r2, r3)) ∧ Aside0 (kq ≤ k) ∧ Aside0 (Below w.heap.size w wc))
 case first =>
  have H := HC2.out
  clear HC2
  by_cases c3 : (a0.size : Int) > 2
  ·rw [if_pos c3] at H
   have c3b0 : decide (2 < (a0.size : Int)) = true := decide_eq_true c3
   have c3b1 : decide (2 < a0.size) = true := decide_eq_true (by omega)
   clear c3
   (first | rw [c3b0] | (simp only [i64_w, i32_w]; rw [c3b0]) | skip)
   by_cases c4 : 0 ≤ 2
   ·rw [if_pos c4] at H
    have c4b0 := eq_true c4
    have c4b1 : decide (0 ≤ 2) = true := decide_eq_true c4
    clear c4
    by_cases c5 : 2 ≤ (a0.size : Int)
    ·rw [if_pos c5] at H
     have c5b0 := eq_true c5
     have c5b1 : decide (2 ≤ (a0.size : Int)) = true := decide_eq_true c5
     clear c5
     have H' := Aside0.mk H
     clear H
     go_wp2
     go_meet
     case rel => exact ⟨_, (((a0.extract 0 2).toList == ([47, 47] : List UInt8))), (by first | rfl | (simp; done) | (simp [*]; done)), H', ⟨by first | omega | exact Nat.le_refl _⟩, ⟨by repeat (first | (with_reducible first | exact HB.out | apply below_alloc | apply pw_below_drewN | apply below_drew1) | exact HB.out)⟩⟩
    ·rw [if_neg c5] at H
     exact absurd H (by simp)
   ·rw [if_neg c4] at H
    exact absurd H (by simp)
  ·rw [if_neg c3] at H
   have c3b0 : decide (2 < (a0.size : Int)) = false := decide_eq_false c3
   have c3b1 : decide (2 < a0.size) = false := decide_eq_false (by omega)
   clear c3
   (first | rw [c3b0] | (simp only [i64_w, i32_w]; rw [c3b0]) | skip)
   have H' := Aside0.mk H
   clear H
   go_wp2
   go_meet
   case rel => exact ⟨_, (false), (by first | rfl | (simp; done) | (simp [*]; done)), H', ⟨by first | omega | exact Nat.le_refl _⟩, ⟨by repeat (first | (with_reducible first | exact HB.out | apply below_alloc | apply pw_below_drewN | apply below_drew1) | exact HB.out)⟩⟩
 case rest =>
  clear HC2
  try clear p2
  try clear c3
  try clear c3b0
  try clear c3b1
  try clear c4
  try clear c4b0
  try clear c4b1
  try clear c5
  try clear c5b0
  try clear c5b1
  obtain ⟨kq, x5_1, rfl, HA, HJ1, HB⟩ := hcut
  cases kq with
  | zero => exact absurd HA.out (by simp [spec_l11Steps.j0])
  | succ kj1 =>
   have H := HA.out
   clear HA
   simp only [spec_l11Steps.j0] at H
   have HC6 := Aside0.mk H
   clear H
   go_upto_if 17 with (fail)
   go_cut [0] (fun v0 wc => ∃ (kq : Nat) (x0_5 : ByteArray), v0 = .string x0_5 ∧ Aside0 (spec_l11Steps.j1 kq x0_5 x5_1 = some (r1, r2, r3)) ∧ Aside0 (kq ≤ kj1) ∧ Aside0 (Below w.heap.size w wc))
   case first =>
    have H := HC6.out
    clear HC6
    by_cases c7 : x5_1 = true
    ·subst c7
     have H1 : (if 2 ≤ (a0.size : Int) then (spec_l11Steps.j1 kj1 (a0.extract 2 a0.size) true) else (none)) = some (r1, r2, r3) := by rw [if_pos rfl] at H; exact H
     clear H
     have H := H1
     clear H1
     by_cases c8 : 2 ≤ (a0.size : Int)
     ·rw [if_pos c8] at H
      have c8b0 := eq_true c8
      have c8b1 : decide (2 ≤ (a0.size : Int)) = true := decide_eq_true c8
      clear c8
      have H' := Aside0.mk H
      clear H
      go_wp2
      go_meet
      case rel => exact ⟨_, (a0.extract 2 a0.size), (by first | rfl | (simp; done) | (simp [*]; done)), H', ⟨by have := HJ1.out; first | omega | exact Nat.le_refl _⟩, ⟨by repeat (first | (with_reducible first | exact HB.out | apply below_alloc | apply pw_below_drewN | apply below_drew1) | exact HB.out)⟩⟩
     ·rw [if_neg c8] at H
      exact absurd H (by simp)
    ·replace c7 := Bool.eq_false_iff.mpr c7
     subst c7
     have H1 : (spec_l11Steps.j1 kj1 a0 false) = some (r1, r2, r3) := by rw [if_neg (show ¬ (false = true) by decide)] at H; exact H
     clear H
     have H := H1
     clear H1
     have H' := Aside0.mk H
     clear H
     go_wp2
     go_meet
     case rel => exact ⟨_, (a0), (by first | rfl | (simp; done) | (simp [*]; done)), H', ⟨by have := HJ1.out; first | omega | exact Nat.le_refl _⟩, ⟨by repeat (first | (with_reducible first | exact HB.out | apply below_alloc | apply pw_below_drewN | apply below_drew1) | exact HB.out)⟩⟩
   case rest =>
    clear HC6
    try clear p2
    try clear c3
    try clear c3b0
    try clear c3b1
    try clear c4
    try clear c4b0
    try clear c4b1
    try clear c5
    try clear c5b0
    try clear c5b1
    try clear c7
    try clear c8
    try clear c8b0
    try clear c8b1
    try clear p2
    obtain ⟨kq, x0_5, rfl, HA, HJ5, HB⟩ := hcut
    cases kq with
    | zero => exact absurd HA.out (by simp [spec_l11Steps.j1])
    | succ kj5 =>
     have H := HA.out
     clear HA
     simp only [spec_l11Steps.j1] at H
     obtain ⟨y105, hy105⟩ : ∃ y_ : List ByteArray, y_ = (([] : List ByteArray)) := ⟨_, rfl⟩
     replace H : (spec_l11Steps.l0 kj5 x0_5 x5_1 y105 (⟨#[]⟩ : ByteArray) 0) = some (r1, r2, r3) := by first | (rw [hy105]; with_reducible exact H) | (have H2_ := (Option.bind_some _ _).symm.trans H; rw [hy105]; with_reducible exact H2_) | (have H2_ := (Option.bind_some _ _).symm.trans H; with_reducible exact H2_) | with_reducible exact H | (rw [hy105]; exact H) | exact H
     have Ny105 := Aside0.mk hy105
     clear hy105
     have H' := Aside0.mk H
     clear H
     go_wp2_with (first | ((with_reducible refine gate_dst (N := 20) rfl ?_); refine Kd.R_lit Kd.string _ 9 ?hg (N := 20) ?hd (xs := ([] : List ByteArray)) (inner := []) (ok := fun _ => True) (okp := fun _ => True) ?hr ?hp (fun _ hk => hk) trivial (Below.refl _ _) (Nat.le_refl _) (by simp) ?_; (case hd => rfl); (case hg => rfl); (case hr => first | (go_simp; done) | (go_simp; rfl)); (case hp => exact (Reps.none _ _)); intro v106 w9 ho10 hb hg_ hnew_; clear hg_ hnew_; (first | rw [← Ny105.out] at ho10 | (simp only [Int.reduceToNat] at ho10; rw [← Ny105.out] at ho10)); have n0_ := Aside0.mk (Kd.R_lower ho10 (below_size (by repeat (first | (with_reducible first | exact HB.out | apply below_alloc | apply pw_below_drewN | apply below_drew1) | exact HB.out)))); have n1_ := Aside0.mk (below_step (by repeat (first | (with_reducible first | exact HB.out | apply below_alloc | apply pw_below_drewN | apply below_drew1) | exact HB.out)) hb); clear HB; have HO107 := n0_; have HB := n1_; clear n0_ n1_; clear hb ho10))
     go_loopg [6, 7, 8] kj5 (fun kq v6 v7 v8 w' => ∃ (x6_3 : List ByteArray) (x7_3 : ByteArray) (x8_3 : Int), v7 = .string x7_3 ∧ v8 = .int .i64 x8_3 ∧ Aside0 (spec_l11Steps.l0 kq x0_5 x5_1 x6_3 x7_3 x8_3 = some (r1, r2, r3)) ∧ Aside0 (kq ≤ kj5) ∧ Aside0 (Kd.R Kd.string 9 w' w.heap.size (fun _ => True) v6 x6_3) ∧ Aside0 (Below w.heap.size w w'))
     case atStart => exact ⟨(y105), ((⟨#[]⟩ : ByteArray)), (0), (by first | rfl | (simp; done) | (simp [*]; done)), (by first | rfl | (simp; done) | (simp [*]; done)), H', ⟨Nat.le_refl _⟩, ⟨by (with_reducible repeat (first | apply Kd.R_alloc | apply Kd.R_drewN | apply Kd.R_drew)); exact HO107.out⟩, ⟨by repeat (first | (with_reducible first | exact HB.out | apply below_alloc | apply pw_below_drewN | apply below_drew1) | exact HB.out)⟩⟩
     case round =>
      clear H'
      try clear p2
      try clear c3
      try clear c3b0
      try clear c3b1
      try clear c4
      try clear c4b0
      try clear c4b1
      try clear c5
      try clear c5b0
      try clear c5b1
      try clear c7
      try clear c8
      try clear c8b0
      try clear c8b1
      try clear p2
      obtain ⟨x6_3, x7_3, x8_3, rfl, rfl, HA, HK3, HO_6, HB⟩ := hrel
      cases gk with
      | zero => exact absurd HA.out (by simp [spec_l11Steps.l0])
      | succ k3 =>
       have H := HA.out
       clear HA
       simp only [spec_l11Steps.l0] at H
       by_cases c11 : x8_3 ≤ (x0_5.size : Int)
       ·rw [if_pos c11] at H
        have c11b0 : decide (x8_3 ≤ (x0_5.size : Int)) = true := decide_eq_true c11
        clear c11
        have HC12 := Aside0.mk H
        clear H
        go_upto_region 9 with (fail)
        go_cut [36] (fun v36 wc => ∃ (kq : Nat) (x36_11 : Bool), v36 = .bool x36_11 ∧ Aside0 (spec_l11Steps.j3 kq x0_5 x5_1 x6_3 x7_3 x8_3 x36_11 = some (r1, r2, r3)) ∧ Aside0 (kq ≤ k3) ∧ Aside0 (Kd.R Kd.string 9 wc w.heap.size (fun _ => True) u6 x6_3) ∧ Aside0 (Below w.heap.size w wc))
        case first =>
         have H := HC12.out
         clear HC12
         by_cases c13 : x8_3 < (x0_5.size : Int)
         ·rw [if_pos c13] at H
          have c13b0 : decide (x8_3 < (x0_5.size : Int)) = true := decide_eq_true c13
          clear c13
          (first | rw [c13b0] | (simp only [i64_w, i32_w]; rw [c13b0]) | skip)
          by_cases c14 : 0 ≤ x8_3
          ·rw [if_pos c14] at H
           have c14b0 : decide (0 ≤ x8_3) = true := decide_eq_true c14
           clear c14
           have H' := Aside0.mk H
           clear H
           have p15 : 0 ≤ (x8_3 : Int) := of_decide_eq_true (by first | (with_reducible assumption) | assumption)
           have q15 : x8_3 < (x0_5.size : Int) := of_decide_eq_true (by first | (with_reducible assumption) | assumption)
           have hx15 := bt_at x0_5 x8_3
           replace p15 := eq_true p15
           replace q15 := eq_true q15
           go_wp2
           go_meet
           case rel => exact ⟨_, (((bt x0_5 x8_3) != 47)), (by first | rfl | (simp; done) | (simp [*]; done)), H', ⟨by have := HJ1.out; have := HJ5.out; have := HK3.out; first | omega | exact Nat.le_refl _⟩, ⟨by (with_reducible repeat (first | apply Kd.R_alloc | apply Kd.R_drewN | apply Kd.R_drew)); exact HO_6.out⟩, ⟨by repeat (first | (with_reducible first | exact HB.out | apply below_alloc | apply pw_below_drewN | apply below_drew1) | exact HB.out)⟩⟩
          ·rw [if_neg c14] at H
           exact absurd H (by simp)
         ·rw [if_neg c13] at H
          have c13b0 : decide (x8_3 < (x0_5.size : Int)) = false := decide_eq_false c13
          clear c13
          (first | rw [c13b0] | (simp only [i64_w, i32_w]; rw [c13b0]) | skip)
          have H' := Aside0.mk H
          clear H
          go_wp2
          go_meet
          case rel => exact ⟨_, (false), (by first | rfl | (simp; done) | (simp [*]; done)), H', ⟨by have := HJ1.out; have := HJ5.out; have := HK3.out; first | omega | exact Nat.le_refl _⟩, ⟨by (with_reducible repeat (first | apply Kd.R_alloc | apply Kd.R_drewN | apply Kd.R_drew)); exact HO_6.out⟩, ⟨by repeat (first | (with_reducible first | exact HB.out | apply below_alloc | apply pw_below_drewN | apply below_drew1) | exact HB.out)⟩⟩
        case rest =>
         clear HC12
         try clear c1
         try clear p1
         try clear q1
         try clear hx1
         try clear p2
         try clear c3
         try clear c3b0
         try clear c3b1
         try clear c4
         try clear c4b0
         try clear c4b1
         try clear c5
         try clear c5b0
         try clear c5b1
         try clear c7
         try clear c8
         try clear c8b0
         try clear c8b1
         try clear c11
         try clear c11b0
         try clear c13
         try clear c13b0
         try clear c14
         try clear c14b0
         try clear p15
         try clear q15
         try clear hx15
         try clear p15
         try clear p2
         try clear q15
         obtain ⟨kq, x36_11, rfl, HA, HJ11, HO_6, HB⟩ := hcut
         cases kq with
         | zero => exact absurd HA.out (by simp [spec_l11Steps.j3])
         | succ kj11 =>
          have H := HA.out
          clear HA
          simp only [spec_l11Steps.j3] at H
          by_cases c16 : x36_11 = true
          ·subst c16
           have H1 : (if 0 ≤ x8_3 then (if x8_3 ≤ (wrap64 (x8_3 + 1)) then (if (wrap64 (x8_3 + 1)) ≤ (x0_5.size : Int) then (if x7_3.size + (x0_5.extract (x8_3 : Int).toNat ((wrap64 (x8_3 + 1)) : Int).toNat).size ≤ 9223372036854775807 then (spec_l11Steps.l0 kj11 x0_5 x5_1 x6_3 (x7_3 ++ (x0_5.extract (x8_3 : Int).toNat ((wrap64 (x8_3 + 1)) : Int).toNat)) (wrap64 (x8_3 + 1))) else (none)) else (none)) else (none)) else (none)) = some (r1, r2, r3) := by rw [if_pos rfl] at H; exact H
           clear H
           have H := H1
           clear H1
           by_cases c17 : 0 ≤ x8_3
           ·rw [if_pos c17] at H
            have c17b0 := eq_true c17
            have c17b1 : decide (0 ≤ x8_3) = true := decide_eq_true c17
            clear c17
            by_cases c18 : x8_3 ≤ (wrap64 (x8_3 + 1))
            ·rw [if_pos c18] at H
             have c18b0 := eq_true c18
             have c18b1 : decide (x8_3 ≤ (wrap64 (x8_3 + 1))) = true := decide_eq_true c18
             by_cases c19 : (wrap64 (x8_3 + 1)) ≤ (x0_5.size : Int)
             ·rw [if_pos c19] at H
              have c19b0 := eq_true c19
              have c19b1 : decide ((wrap64 (x8_3 + 1)) ≤ (x0_5.size : Int)) = true := decide_eq_true c19
              by_cases c20 : x7_3.size + (x0_5.extract (x8_3 : Int).toNat ((wrap64 (x8_3 + 1)) : Int).toNat).size ≤ 9223372036854775807
              ·rw [if_pos c20] at H
               have c20b0 := eq_true c20
               have c20b1 : decide (x7_3.size + (x0_5.extract (x8_3 : Int).toNat ((wrap64 (x8_3 + 1)) : Int).toNat).size ≤ 9223372036854775807) = true := decide_eq_true c20
               try have c20b2 : (9223372036854775807 < x7_3.size + (x0_5.extract (x8_3 : Int).toNat ((wrap64 (x8_3 + 1)) : Int).toNat).size) = False := eq_false (Nat.not_lt.2 c20)
               have H' := Aside0.mk H
               clear H
               go_wp2
               go_roundg kj11
               case measure => have := HJ1.out; have := HJ5.out; have := HK3.out; have := HJ11.out; omega
               case rel => exact ⟨(x6_3), (x7_3 ++ (x0_5.extract (x8_3 : Int).toNat ((wrap64 (x8_3 + 1)) : Int).toNat)), (wrap64 (x8_3 + 1)), (by first | rfl | (simp; done) | (simp [*]; done)), (by first | rfl | (simp; done) | (simp [*]; done)), H', ⟨by have := HJ1.out; have := HJ5.out; have := HK3.out; have := HJ11.out; omega⟩, ⟨by (with_reducible repeat (first | apply Kd.R_alloc | apply Kd.R_drewN | apply Kd.R_drew)); exact HO_6.out⟩, ⟨by repeat (first | (with_reducible first | exact HB.out | apply below_alloc | apply pw_below_drewN | apply below_drew1) | exact HB.out)⟩⟩
              ·rw [if_neg c20] at H
               exact absurd H (by simp)
             ·rw [if_neg c19] at H
              exact absurd H (by simp)
            ·rw [if_neg c18] at H
             exact absurd H (by simp)
           ·rw [if_neg c17] at H
            exact absurd H (by simp)
          ·replace c16 := Bool.eq_false_iff.mpr c16
           subst c16
           have H1 : ((spec_NameOk.f kj11 x7_3).bind fun t108 => (if t108 = true then (if x6_3.length < 8796093022208 then (spec_l11Steps.l0 kj11 x0_5 x5_1 (x6_3 ++ [x7_3]) (⟨#[]⟩ : ByteArray) (wrap64 (x8_3 + 1))) else (none)) else (some (([] : List ByteArray), false, false)))) = some (r1, r2, r3) := by rw [if_neg (show ¬ (false = true) by decide)] at H; exact H
           clear H
           have H := H1
           clear H1
           replace H := Option.bind_eq_some_iff.mp H
           obtain ⟨t108, A210, H⟩ := H
           replace H : (if t108 = true then (if x6_3.length < 8796093022208 then (spec_l11Steps.l0 kj11 x0_5 x5_1 (x6_3 ++ [x7_3]) (⟨#[]⟩ : ByteArray) (wrap64 (x8_3 + 1))) else (none)) else (some (([] : List ByteArray), false, false))) = some (r1, r2, r3) := H
           have A21 := Aside0.mk A210
           clear A210
           by_cases c22 : t108 = true
           ·subst c22
            have H1 : (if x6_3.length < 8796093022208 then (spec_l11Steps.l0 kj11 x0_5 x5_1 (x6_3 ++ [x7_3]) (⟨#[]⟩ : ByteArray) (wrap64 (x8_3 + 1))) else (none)) = some (r1, r2, r3) := by rw [if_pos rfl] at H; exact H
            clear H
            have H := H1
            clear H1
            by_cases c23 : x6_3.length < 8796093022208
            ·rw [if_pos c23] at H
             have LMc23 := Aside0.mk c23
             clear c23
             obtain ⟨y109, hy109⟩ : ∃ y_ : List ByteArray, y_ = (x6_3 ++ [x7_3]) := ⟨_, rfl⟩
             replace H : (spec_l11Steps.l0 kj11 x0_5 x5_1 y109 (⟨#[]⟩ : ByteArray) (wrap64 (x8_3 + 1))) = some (r1, r2, r3) := by first | (rw [hy109]; with_reducible exact H) | (have H2_ := (Option.bind_some _ _).symm.trans H; rw [hy109]; with_reducible exact H2_) | (have H2_ := (Option.bind_some _ _).symm.trans H; with_reducible exact H2_) | with_reducible exact H | (rw [hy109]; exact H) | exact H
             have Ny109 := Aside0.mk hy109
             clear hy109
             have H' := Aside0.mk H
             clear H
             go_wp2_with (first | ((with_reducible refine gate_callee (f := 45) rfl ?_); refine goesL_ (some 45) rfl rfl Tryd.func45 (by kernel_rfl) rfl #[.string x7_3] rfl (by (try simp only [List.map_toArray, List.map_cons, List.map_nil]); first | done | rfl | (simp only [List.length_drop, List.length_take]; rfl)) ?_; (with_reducible refine (spec_NameOk.calls kj11 x7_3 true _ A21.out).mono ?_); rintro e w' ⟨rfl, ⟨nd, rfl⟩⟩; refine ⟨_, rfl, ?_⟩) | ((with_reducible refine gate_builtin (b := .append) (xs := #[.tmp 47, .tmp 49]) rfl ?_); at_builtin; refine Kd.R_append Kd.string (w0 := w) w.heap.size rfl (.tmp 47) (.tmp 49) 66 9 (.string ⟨#[]⟩) 16 rfl Tryd.underlying66 info9 rfl (by decide) (by omega) u6 x6_3 x7_3 [.string x7_3] (fun _ => True) (fun _ => False) rfl rfl ?aP (fun _ hk => hk.elim) ?aF ?aO ?aB ?aS ?aL ?_; (case aP => exact rfl); (case aB => exact (by repeat (first | (with_reducible first | exact HB.out | apply below_alloc | apply pw_below_drewN | apply below_drew1) | exact HB.out))); (case aF => exact (fun _ _ => trivial)); (case aO => exact (by (with_reducible repeat (first | apply Kd.R_alloc | apply Kd.R_drewN | apply Kd.R_drew)); exact HO_6.out)); (case aS => exact (below_size (by repeat (first | (with_reducible first | exact HB.out | apply below_alloc | apply pw_below_drewN | apply below_drew1) | exact HB.out)))); (case aL => have := LMc23.out; omega); intro v110 w24 ho hb hg hat; rw [← Ny109.out] at ho; have n0_ := Aside0.mk (hb); have n1_ := Aside0.mk (ho); clear HB; clear HO_6; have HB := n0_; have HO111 := n1_; clear n0_ n1_; clear ho hb hg hat))
             go_roundg kj11
             case measure => have := HJ1.out; have := HJ5.out; have := HK3.out; have := HJ11.out; omega
             case rel => exact ⟨(y109), ((⟨#[]⟩ : ByteArray)), (wrap64 (x8_3 + 1)), (by first | rfl | (simp; done) | (simp [*]; done)), (by first | rfl | (simp; done) | (simp [*]; done)), H', ⟨by have := HJ1.out; have := HJ5.out; have := HK3.out; have := HJ11.out; omega⟩, ⟨by (with_reducible repeat (first | apply Kd.R_alloc | apply Kd.R_drewN | apply Kd.R_drew)); exact HO111.out⟩, ⟨by repeat (first | (with_reducible first | exact HB.out | apply below_alloc | apply pw_below_drewN | apply below_drew1) | exact HB.out)⟩⟩
            ·rw [if_neg c23] at H
             exact absurd H (by simp)
           ·replace c22 := Bool.eq_false_iff.mpr c22
            subst c22
            have H1 : (some (([] : List ByteArray), false, false)) = some (r1, r2, r3) := by rw [if_neg (show ¬ (false = true) by decide)] at H; exact H
            clear H
            have H := H1
            clear H1
            simp only [Option.some.injEq, Prod.mk.injEq] at H
            obtain ⟨rfl, rfl, rfl⟩ := H
            go_wp2_with (first | ((with_reducible refine gate_callee (f := 45) rfl ?_); refine goesL_ (some 45) rfl rfl Tryd.func45 (by kernel_rfl) rfl #[.string x7_3] rfl (by (try simp only [List.map_toArray, List.map_cons, List.map_nil]); first | done | rfl | (simp only [List.length_drop, List.length_take]; rfl)) ?_; (with_reducible refine (spec_NameOk.calls kj11 x7_3 false _ A21.out).mono ?_); rintro e w' ⟨rfl, ⟨nd, rfl⟩⟩; refine ⟨_, rfl, ?_⟩))
            go_ret3
            exact ⟨_, by first | rfl | (simp [errW_none, errW_some] <;> rfl) | (simp [*, errW_none, errW_some] <;> rfl), by first | exact Kd.R_nil _ _ _ _ _ | exact Kd.N_nil _ _ _ _ _ | exact Kd.V_nil _ _ _ _ _ | exact Kd.Q_nil _ _ _ _ _ | exact Kd.S_nil _ _ _ _ _, by repeat (first | (with_reducible first | exact HB.out | apply below_alloc | apply pw_below_drewN | apply below_drew1) | exact HB.out)⟩
       ·rw [if_neg c11] at H
        have c11b0 : decide (x8_3 ≤ (x0_5.size : Int)) = false := decide_eq_false c11
        clear c11
        simp only [Option.some.injEq, Prod.mk.injEq] at H
        obtain ⟨rfl, rfl, rfl⟩ := H
        obtain ⟨Ao25, co25, eo25⟩ := Kd.R_slice HO_6.out
        subst eo25
        go_wp2
        go_ret3
        exact ⟨_, by first | rfl | (simp [errW_none, errW_some] <;> rfl) | (simp [*, errW_none, errW_some] <;> rfl), by (with_reducible repeat (first | apply Kd.R_alloc | apply Kd.R_drewN | apply Kd.R_drew)); exact HO_6.out, by repeat (first | (with_reducible first | exact HB.out | apply below_alloc | apply pw_below_drewN | apply below_drew1) | exact HB.out)⟩

/-! ### spec_PathOk: function 9 -/
def spec_PathOk.f (k : Nat) (a0 : ByteArray) : Option (Bool) := (spec_l11Steps.f k a0).bind fun bt112 => (if bt112.2.2 = true then (some (decide ((a0.size : Int) ≤ 20000))) else (some false))
set_option maxHeartbeats 8000000 in
set_option maxRecDepth 100000 in
theorem spec_PathOk.calls (k : Nat) (a0 : ByteArray) (r : Bool) (w : World) (h : spec_PathOk.f k a0 = some r) :
  Calls Tryd.prog 9 #[.string a0] w fun e w' => e = .returned (.bool r) ∧ Below w.heap.size w w' := by
 have HB := Aside0.mk (Below.refl w.heap.size w)
 have H : ((spec_l11Steps.f k a0).bind fun bt112 => (if bt112.2.2 = true then (some (decide ((a0.size : Int) ≤ 20000))) else (some false))) = some r := h
 clear h
 replace H := Option.bind_eq_some_iff.mp H
 obtain ⟨⟨t112, t113, t114⟩, A20, H⟩ := H
 replace H : (if t114 = true then (some (decide ((a0.size : Int) ≤ 20000))) else (some false)) = some r := H
 have A2 := Aside0.mk A20
 clear A20
 by_cases c3 : t114 = true
 ·subst c3
  have H1 : (some (decide ((a0.size : Int) ≤ 20000))) = some r := by rw [if_pos rfl] at H; exact H
  clear H
  have H := H1
  clear H1
  obtain rfl := Option.some.inj H
  go_enter Tryd.func9, Tryd.ntmps9
  go_wp2_with (first | ((with_reducible refine gate_callee (f := 42) rfl ?_); refine goesL_ (some 8) rfl rfl Tryd.func42 (by kernel_rfl) rfl #[.string a0] rfl (by (try simp only [List.map_toArray, List.map_cons, List.map_nil]); first | done | rfl | (simp only [List.length_drop, List.length_take]; rfl)) ?_; (with_reducible refine (spec_l11Steps.calls k a0 t112 t113 true _ A2.out).mono ?_); rintro e w4 ⟨v115, rfl, ho0, hb⟩; refine ⟨_, rfl, ?_⟩; have n0_ := Aside0.mk (Kd.R_lower ho0 (below_size (by repeat (first | (with_reducible first | exact HB.out | apply below_alloc | apply pw_below_drewN | apply below_drew1) | exact HB.out)))); have n1_ := Aside0.mk (below_step (by repeat (first | (with_reducible first | exact HB.out | apply below_alloc | apply pw_below_drewN | apply below_drew1) | exact HB.out)) hb); clear HB; have HO116 := n0_; have HB := n1_; clear n0_ n1_; (try clear hb); (try clear hb2); (try clear hk); (try clear hi); (try clear ho0)))
  go_ret
  exact ⟨by first | rfl | (simp [errW_none, errW_some] <;> rfl) | (simp [*, errW_none, errW_some] <;> rfl), by repeat (first | (with_reducible first | exact HB.out | apply below_alloc | apply pw_below_drewN | apply below_drew1) | exact HB.out)⟩
 ·replace c3 := Bool.eq_false_iff.mpr c3
  subst c3
  have H1 : (some false) = some r := by rw [if_neg (show ¬ (false = true) by decide)] at H; exact H
  clear H
  have H := H1
  clear H1
  obtain rfl := Option.some.inj H
  go_enter Tryd.func9, Tryd.ntmps9
  go_wp2_with (first | ((with_reducible refine gate_callee (f := 42) rfl ?_); refine goesL_ (some 8) rfl rfl Tryd.func42 (by kernel_rfl) rfl #[.string a0] rfl (by (try simp only [List.map_toArray, List.map_cons, List.map_nil]); first | done | rfl | (simp only [List.length_drop, List.length_take]; rfl)) ?_; (with_reducible refine (spec_l11Steps.calls k a0 t112 t113 false _ A2.out).mono ?_); rintro e w5 ⟨v115, rfl, ho0, hb⟩; refine ⟨_, rfl, ?_⟩; have n0_ := Aside0.mk (Kd.R_lower ho0 (below_size (by repeat (first | (with_reducible first | exact HB.out | apply below_alloc | apply pw_below_drewN | apply below_drew1) | exact HB.out)))); have n1_ := Aside0.mk (below_step (by repeat (first | (with_reducible first | exact HB.out | apply below_alloc | apply pw_below_drewN | apply below_drew1) | exact HB.out)) hb); clear HB; have HO116 := n0_; have HB := n1_; clear n0_ n1_; (try clear hb); (try clear hb2); (try clear hk); (try clear hi); (try clear ho0)))
  go_ret
  exact ⟨by first | rfl | (simp [errW_none, errW_some] <;> rfl) | (simp [*, errW_none, errW_some] <;> rfl), by repeat (first | (with_reducible first | exact HB.out | apply below_alloc | apply pw_below_drewN | apply below_drew1) | exact HB.out)⟩

/-! ### impl_in: function 69 -/
def impl_in.f (a0 : Int) (a1 : Int) (a2 : Int) : Option (Bool) := if a1 ≤ a0 then (some (decide (a0 ≤ a2))) else (some false)
set_option maxHeartbeats 8000000 in
set_option maxRecDepth 100000 in
theorem impl_in.calls (a0 : Int) (a1 : Int) (a2 : Int) (r : Bool) (w : World) (h : impl_in.f a0 a1 a2 = some r) :
  Calls Tryd.prog 69 #[.int .i64 a0, .int .i64 a1, .int .i64 a2] w fun e w' => e = .returned (.bool r) ∧ Drawn0 w w' := by
 have H : (if a1 ≤ a0 then (some (decide (a0 ≤ a2))) else (some false)) = some r := h
 clear h
 by_cases c4 : a1 ≤ a0
 ·rw [if_pos c4] at H
  have c4b0 : decide (a1 ≤ a0) = true := decide_eq_true c4
  clear c4
  obtain rfl := Option.some.inj H
  go_enter Tryd.func69, Tryd.ntmps69
  go_wp2
  go_ret
  exact ⟨by first | rfl | (simp; done) | (simp [*]; done), by repeat (first | exact Drawn0.refl _ | apply Drawn0.step)⟩
 ·rw [if_neg c4] at H
  have c4b0 : decide (a1 ≤ a0) = false := decide_eq_false c4
  clear c4
  obtain rfl := Option.some.inj H
  go_enter Tryd.func69, Tryd.ntmps69
  go_wp2
  go_ret
  exact ⟨by first | rfl | (simp; done) | (simp [*]; done), by repeat (first | exact Drawn0.refl _ | apply Drawn0.step)⟩

/-! ### impl_NameOk: function 76 -/
def impl_NameOk.l0 : Nat → ByteArray → Int → Int → Option (Bool)
 | 0, _, _, _ => none
 | k + 1, x0, x7, x8 => if x8 < x7 then (if 0 ≤ x8 then (if x8 < (x0.size : Int) then (if (bt x0 x8) ≥ 97 then (if (bt x0 x8) ≤ 122 then (impl_NameOk.l0 k x0 x7 (wrap64 (x8 + 1))) else (if (bt x0 x8) ≥ 65 then (if (bt x0 x8) ≤ 90 then (impl_NameOk.l0 k x0 x7 (wrap64 (x8 + 1))) else (if ((bt x0 x8) = 95) then (impl_NameOk.l0 k x0 x7 (wrap64 (x8 + 1))) else (if x8 = 0 then (some false) else (if (bt x0 x8) ≥ 48 then (if ((bt x0 x8) ≤ 57) then (impl_NameOk.l0 k x0 x7 (wrap64 (x8 + 1))) else (if (bt x0 x8) = 46 then (impl_NameOk.l0 k x0 x7 (wrap64 (x8 + 1))) else (if (bt x0 x8) = 45 then (impl_NameOk.l0 k x0 x7 (wrap64 (x8 + 1))) else (some false)))) else (if (bt x0 x8) = 46 then (impl_NameOk.l0 k x0 x7 (wrap64 (x8 + 1))) else (if (bt x0 x8) = 45 then (impl_NameOk.l0 k x0 x7 (wrap64 (x8 + 1))) else (some false))))))) else (if ((bt x0 x8) = 95) then (impl_NameOk.l0 k x0 x7 (wrap64 (x8 + 1))) else (if x8 = 0 then (some false) else (if (bt x0 x8) ≥ 48 then (if ((bt x0 x8) ≤ 57) then (impl_NameOk.l0 k x0 x7 (wrap64 (x8 + 1))) else (if (bt x0 x8) = 46 then (impl_NameOk.l0 k x0 x7 (wrap64 (x8 + 1))) else (if (bt x0 x8) = 45 then (impl_NameOk.l0 k x0 x7 (wrap64 (x8 + 1))) else (some false)))) else (if (bt x0 x8) = 46 then (impl_NameOk.l0 k x0 x7 (wrap64 (x8 + 1))) else (if (bt x0 x8) = 45 then (impl_NameOk.l0 k x0 x7 (wrap64 (x8 + 1))) else (some false)))))))) else (if (bt x0 x8) ≥ 65 then (if (bt x0 x8) ≤ 90 then (impl_NameOk.l0 k x0 x7 (wrap64 (x8 + 1))) else (if ((bt x0 x8) = 95) then (impl_NameOk.l0 k x0 x7 (wrap64 (x8 + 1))) else (if x8 = 0 then (some false) else (if (bt x0 x8) ≥ 48 then (if ((bt x0 x8) ≤ 57) then (impl_NameOk.l0 k x0 x7 (wrap64 (x8 + 1))) else (if (bt x0 x8) = 46 then (impl_NameOk.l0 k x0 x7 (wrap64 (x8 + 1))) else (if (bt x0 x8) = 45 then (impl_NameOk.l0 k x0 x7 (wrap64 (x8 + 1))) else (some false)))) else (if (bt x0 x8) = 46 then (impl_NameOk.l0 k x0 x7 (wrap64 (x8 + 1))) else (if (bt x0 x8) = 45 then (impl_NameOk.l0 k x0 x7 (wrap64 (x8 + 1))) else (some false))))))) else (if ((bt x0 x8) = 95) then (impl_NameOk.l0 k x0 x7 (wrap64 (x8 + 1))) else (if x8 = 0 then (some false) else (if (bt x0 x8) ≥ 48 then (if ((bt x0 x8) ≤ 57) then (impl_NameOk.l0 k x0 x7 (wrap64 (x8 + 1))) else (if (bt x0 x8) = 46 then (impl_NameOk.l0 k x0 x7 (wrap64 (x8 + 1))) else (if (bt x0 x8) = 45 then (impl_NameOk.l0 k x0 x7 (wrap64 (x8 + 1))) else (some false)))) else (if (bt x0 x8) = 46 then (impl_NameOk.l0 k x0 x7 (wrap64 (x8 + 1))) else (if (bt x0 x8) = 45 then (impl_NameOk.l0 k x0 x7 (wrap64 (x8 + 1))) else (some false)))))))) else (none)) else (none)) else ((impl_in.f (x0.size : Int) 1 40).bind fun t117 => (some t117))
def impl_NameOk.f (k : Nat) (a0 : ByteArray) : Option (Bool) := impl_NameOk.l0 k a0 (a0.size : Int) 0
set_option maxHeartbeats 8000000 in
set_option maxRecDepth 100000 in
theorem impl_NameOk.calls (k : Nat) (a0 : ByteArray) (r : Bool) (w : World) (h : impl_NameOk.f k a0 = some r) :
  Calls Tryd.prog 76 #[.string a0] w fun e w' => e = .returned (.bool r) ∧ Drawn0 w w' := by
 have H : (impl_NameOk.l0 k a0 (a0.size : Int) 0) = some r := h
 clear h
 have H' := Aside0.mk H
 clear H
 go_enter Tryd.func76, Tryd.ntmps76
 go_wp2
 go_loopg [8] k (fun kq v8 w' => ∃ (x8_1 : Int), v8 = .int .i64 x8_1 ∧ Aside0 (impl_NameOk.l0 kq a0 (a0.size : Int) x8_1 = some r) ∧ Aside0 (kq ≤ k) ∧ Drawn0 w w')
 case atStart => exact ⟨(0), (by first | rfl | (simp; done) | (simp [*]; done)), H', ⟨Nat.le_refl _⟩, by repeat (first | exact Drawn0.refl _ | apply Drawn0.step)⟩
 case round =>
  clear H'
  obtain ⟨x8_1, rfl, HA, HK1, ⟨m1, rfl⟩⟩ := hrel
  cases gk with
  | zero => exact absurd HA.out (by simp [impl_NameOk.l0])
  | succ k1 =>
   have H := HA.out
   clear HA
   simp only [impl_NameOk.l0] at H
   by_cases c2 : x8_1 < (a0.size : Int)
   ·rw [if_pos c2] at H
    have c2b0 : decide (x8_1 < (a0.size : Int)) = true := decide_eq_true c2
    clear c2
    by_cases c3 : 0 ≤ x8_1
    ·rw [if_pos c3] at H
     have c3b0 : decide (0 ≤ x8_1) = true := decide_eq_true c3
     clear c3
     by_cases c4 : x8_1 < (a0.size : Int)
     ·rw [if_pos c4] at H
      have c4b0 : decide (x8_1 < (a0.size : Int)) = true := decide_eq_true c4
      clear c4
      by_cases c6 : (bt a0 x8_1) ≥ 97
      ·rw [if_pos c6] at H
       have c6b0 : decide (97 ≤ (bt a0 x8_1)) = true := decide_eq_true c6
       clear c6
       by_cases c7 : (bt a0 x8_1) ≤ 122
       ·rw [if_pos c7] at H
        have c7b0 : decide ((bt a0 x8_1) ≤ 122) = true := decide_eq_true c7
        clear c7
        have H' := Aside0.mk H
        clear H
        have p5 : 0 ≤ (x8_1 : Int) := of_decide_eq_true (by first | (with_reducible assumption) | assumption)
        have q5 : x8_1 < (a0.size : Int) := of_decide_eq_true (by first | (with_reducible assumption) | assumption)
        have hx5 := bt_at a0 x8_1
        replace p5 := eq_true p5
        replace q5 := eq_true q5
        go_wp2
        go_roundg k1
        case measure => have := HK1.out; omega
        case rel => exact ⟨(wrap64 (x8_1 + 1)), (by first | rfl | (simp; done) | (simp [*]; done)), H', ⟨by have := HK1.out; omega⟩, by repeat (first | exact Drawn0.refl _ | apply Drawn0.step)⟩
       ·rw [if_neg c7] at H
        have c7b0 : decide ((bt a0 x8_1) ≤ 122) = false := decide_eq_false c7
        clear c7
        by_cases c8 : (bt a0 x8_1) ≥ 65
        ·rw [if_pos c8] at H
         have c8b0 : decide (65 ≤ (bt a0 x8_1)) = true := decide_eq_true c8
         clear c8
         by_cases c9 : (bt a0 x8_1) ≤ 90
         ·rw [if_pos c9] at H
          have c9b0 : decide ((bt a0 x8_1) ≤ 90) = true := decide_eq_true c9
          clear c9
          have H' := Aside0.mk H
          clear H
          have p5 : 0 ≤ (x8_1 : Int) := of_decide_eq_true (by first | (with_reducible assumption) | assumption)
          have q5 : x8_1 < (a0.size : Int) := of_decide_eq_true (by first | (with_reducible assumption) | assumption)
          have hx5 := bt_at a0 x8_1
          replace p5 := eq_true p5
          replace q5 := eq_true q5
          go_wp2
          go_roundg k1
          case measure => have := HK1.out; omega
          case rel => exact ⟨(wrap64 (x8_1 + 1)), (by first | rfl | (simp; done) | (simp [*]; done)), H', ⟨by have := HK1.out; omega⟩, by repeat (first | exact Drawn0.refl _ | apply Drawn0.step)⟩
         ·rw [if_neg c9] at H
          have c9b0 : decide ((bt a0 x8_1) ≤ 90) = false := decide_eq_false c9
          clear c9
          by_cases c10 : ((bt a0 x8_1) = 95)
          ·rw [if_pos c10] at H
           have c10b0 : ((bt a0 x8_1) == 95) = true := beq_iff_eq.mpr c10
           have c10b1 : ((bt a0 x8_1) != 95) = false := bne_eq_false_iff_eq.mpr c10
           clear c10
           have H' := Aside0.mk H
           clear H
           have p5 : 0 ≤ (x8_1 : Int) := of_decide_eq_true (by first | (with_reducible assumption) | assumption)
           have q5 : x8_1 < (a0.size : Int) := of_decide_eq_true (by first | (with_reducible assumption) | assumption)
           have hx5 := bt_at a0 x8_1
           replace p5 := eq_true p5
           replace q5 := eq_true q5
           go_wp2
           go_roundg k1
           case measure => have := HK1.out; omega
           case rel => exact ⟨(wrap64 (x8_1 + 1)), (by first | rfl | (simp; done) | (simp [*]; done)), H', ⟨by have := HK1.out; omega⟩, by repeat (first | exact Drawn0.refl _ | apply Drawn0.step)⟩
          ·rw [if_neg c10] at H
           have c10b0 : ((bt a0 x8_1) == 95) = false := beq_eq_false_iff_ne.mpr c10
           have c10b1 : ((bt a0 x8_1) != 95) = true := bne_iff_ne.mpr c10
           by_cases c11 : x8_1 = 0
           ·rw [if_pos c11] at H
            have c11b0 : (x8_1 == 0) = true := beq_iff_eq.mpr c11
            have c11b1 : (x8_1 != 0) = false := bne_eq_false_iff_eq.mpr c11
            clear c11
            obtain rfl := Option.some.inj H
            have p5 : 0 ≤ (x8_1 : Int) := of_decide_eq_true (by first | (with_reducible assumption) | assumption)
            have q5 : x8_1 < (a0.size : Int) := of_decide_eq_true (by first | (with_reducible assumption) | assumption)
            have hx5 := bt_at a0 x8_1
            replace p5 := eq_true p5
            replace q5 := eq_true q5
            go_wp2
            go_ret
            exact ⟨by first | rfl | (simp; done) | (simp [*]; done), by repeat (first | exact Drawn0.refl _ | apply Drawn0.step)⟩
           ·rw [if_neg c11] at H
            have c11b0 : (x8_1 == 0) = false := beq_eq_false_iff_ne.mpr c11
            have c11b1 : (x8_1 != 0) = true := bne_iff_ne.mpr c11
            by_cases c12 : (bt a0 x8_1) ≥ 48
            ·rw [if_pos c12] at H
             have c12b0 : decide (48 ≤ (bt a0 x8_1)) = true := decide_eq_true c12
             clear c12
             by_cases c13 : ((bt a0 x8_1) ≤ 57)
             ·rw [if_pos c13] at H
              have c13b0 : decide ((bt a0 x8_1) ≤ 57) = true := decide_eq_true c13
              clear c13
              have H' := Aside0.mk H
              clear H
              have p5 : 0 ≤ (x8_1 : Int) := of_decide_eq_true (by first | (with_reducible assumption) | assumption)
              have q5 : x8_1 < (a0.size : Int) := of_decide_eq_true (by first | (with_reducible assumption) | assumption)
              have hx5 := bt_at a0 x8_1
              replace p5 := eq_true p5
              replace q5 := eq_true q5
              go_wp2
              go_roundg k1
              case measure => have := HK1.out; omega
              case rel => exact ⟨(wrap64 (x8_1 + 1)), (by first | rfl | (simp; done) | (simp [*]; done)), H', ⟨by have := HK1.out; omega⟩, by repeat (first | exact Drawn0.refl _ | apply Drawn0.step)⟩
             ·rw [if_neg c13] at H
              have c13b0 : decide ((bt a0 x8_1) ≤ 57) = false := decide_eq_false c13
              clear c13
              by_cases c14 : (bt a0 x8_1) = 46
              ·rw [if_pos c14] at H
               have c14b0 : ((bt a0 x8_1) == 46) = true := beq_iff_eq.mpr c14
               have c14b1 : ((bt a0 x8_1) != 46) = false := bne_eq_false_iff_eq.mpr c14
               clear c14
               have H' := Aside0.mk H
               clear H
               have p5 : 0 ≤ (x8_1 : Int) := of_decide_eq_true (by first | (with_reducible assumption) | assumption)
               have q5 : x8_1 < (a0.size : Int) := of_decide_eq_true (by first | (with_reducible assumption) | assumption)
               have hx5 := bt_at a0 x8_1
               replace p5 := eq_true p5
               replace q5 := eq_true q5
               go_wp2
               go_roundg k1
               case measure => have := HK1.out; omega
               case rel => exact ⟨(wrap64 (x8_1 + 1)), (by first | rfl | (simp; done) | (simp [*]; done)), H', ⟨by have := HK1.out; omega⟩, by repeat (first | exact Drawn0.refl _ | apply Drawn0.step)⟩
              ·rw [if_neg c14] at H
               have c14b0 : ((bt a0 x8_1) == 46) = false := beq_eq_false_iff_ne.mpr c14
               have c14b1 : ((bt a0 x8_1) != 46) = true := bne_iff_ne.mpr c14
               by_cases c15 : (bt a0 x8_1) = 45
               ·rw [if_pos c15] at H
                have c15b0 : ((bt a0 x8_1) == 45) = true := beq_iff_eq.mpr c15
                have c15b1 : ((bt a0 x8_1) != 45) = false := bne_eq_false_iff_eq.mpr c15
                clear c15
                have H' := Aside0.mk H
                clear H
                have p5 : 0 ≤ (x8_1 : Int) := of_decide_eq_true (by first | (with_reducible assumption) | assumption)
                have q5 : x8_1 < (a0.size : Int) := of_decide_eq_true (by first | (with_reducible assumption) | assumption)
                have hx5 := bt_at a0 x8_1
                replace p5 := eq_true p5
                replace q5 := eq_true q5
                go_wp2
                go_roundg k1
                case measure => have := HK1.out; omega
                case rel => exact ⟨(wrap64 (x8_1 + 1)), (by first | rfl | (simp; done) | (simp [*]; done)), H', ⟨by have := HK1.out; omega⟩, by repeat (first | exact Drawn0.refl _ | apply Drawn0.step)⟩
               ·rw [if_neg c15] at H
                have c15b0 : ((bt a0 x8_1) == 45) = false := beq_eq_false_iff_ne.mpr c15
                have c15b1 : ((bt a0 x8_1) != 45) = true := bne_iff_ne.mpr c15
                obtain rfl := Option.some.inj H
                have p5 : 0 ≤ (x8_1 : Int) := of_decide_eq_true (by first | (with_reducible assumption) | assumption)
                have q5 : x8_1 < (a0.size : Int) := of_decide_eq_true (by first | (with_reducible assumption) | assumption)
                have hx5 := bt_at a0 x8_1
                replace p5 := eq_true p5
                replace q5 := eq_true q5
                go_wp2
                go_ret
                exact ⟨by first | rfl | (simp; done) | (simp [*]; done), by repeat (first | exact Drawn0.refl _ | apply Drawn0.step)⟩
            ·rw [if_neg c12] at H
             have c12b0 : decide (48 ≤ (bt a0 x8_1)) = false := decide_eq_false c12
             clear c12
             by_cases c16 : (bt a0 x8_1) = 46
             ·rw [if_pos c16] at H
              have c16b0 : ((bt a0 x8_1) == 46) = true := beq_iff_eq.mpr c16
              have c16b1 : ((bt a0 x8_1) != 46) = false := bne_eq_false_iff_eq.mpr c16
              clear c16
              have H' := Aside0.mk H
              clear H
              have p5 : 0 ≤ (x8_1 : Int) := of_decide_eq_true (by first | (with_reducible assumption) | assumption)
              have q5 : x8_1 < (a0.size : Int) := of_decide_eq_true (by first | (with_reducible assumption) | assumption)
              have hx5 := bt_at a0 x8_1
              replace p5 := eq_true p5
              replace q5 := eq_true q5
              go_wp2
              go_roundg k1
              case measure => have := HK1.out; omega
              case rel => exact ⟨(wrap64 (x8_1 + 1)), (by first | rfl | (simp; done) | (simp [*]; done)), H', ⟨by have := HK1.out; omega⟩, by repeat (first | exact Drawn0.refl _ | apply Drawn0.step)⟩
             ·rw [if_neg c16] at H
              have c16b0 : ((bt a0 x8_1) == 46) = false := beq_eq_false_iff_ne.mpr c16
              have c16b1 : ((bt a0 x8_1) != 46) = true := bne_iff_ne.mpr c16
              by_cases c17 : (bt a0 x8_1) = 45
              ·rw [if_pos c17] at H
               have c17b0 : ((bt a0 x8_1) == 45) = true := beq_iff_eq.mpr c17
               have c17b1 : ((bt a0 x8_1) != 45) = false := bne_eq_false_iff_eq.mpr c17
               clear c17
               have H' := Aside0.mk H
               clear H
               have p5 : 0 ≤ (x8_1 : Int) := of_decide_eq_true (by first | (with_reducible assumption) | assumption)
               have q5 : x8_1 < (a0.size : Int) := of_decide_eq_true (by first | (with_reducible assumption) | assumption)
               have hx5 := bt_at a0 x8_1
               replace p5 := eq_true p5
               replace q5 := eq_true q5
               go_wp2
               go_roundg k1
               case measure => have := HK1.out; omega
               case rel => exact ⟨(wrap64 (x8_1 + 1)), (by first | rfl | (simp; done) | (simp [*]; done)), H', ⟨by have := HK1.out; omega⟩, by repeat (first | exact Drawn0.refl _ | apply Drawn0.step)⟩
              ·rw [if_neg c17] at H
               have c17b0 : ((bt a0 x8_1) == 45) = false := beq_eq_false_iff_ne.mpr c17
               have c17b1 : ((bt a0 x8_1) != 45) = true := bne_iff_ne.mpr c17
               obtain rfl := Option.some.inj H
               have p5 : 0 ≤ (x8_1 : Int) := of_decide_eq_true (by first | (with_reducible assumption) | assumption)
               have q5 : x8_1 < (a0.size : Int) := of_decide_eq_true (by first | (with_reducible assumption) | assumption)
               have hx5 := bt_at a0 x8_1
               replace p5 := eq_true p5
               replace q5 := eq_true q5
               go_wp2
               go_ret
               exact ⟨by first | rfl | (simp; done) | (simp [*]; done), by repeat (first | exact Drawn0.refl _ | apply Drawn0.step)⟩
        ·rw [if_neg c8] at H
         have c8b0 : decide (65 ≤ (bt a0 x8_1)) = false := decide_eq_false c8
         clear c8
         by_cases c18 : ((bt a0 x8_1) = 95)
         ·rw [if_pos c18] at H
          have c18b0 : ((bt a0 x8_1) == 95) = true := beq_iff_eq.mpr c18
          have c18b1 : ((bt a0 x8_1) != 95) = false := bne_eq_false_iff_eq.mpr c18
          clear c18
          have H' := Aside0.mk H
          clear H
          have p5 : 0 ≤ (x8_1 : Int) := of_decide_eq_true (by first | (with_reducible assumption) | assumption)
          have q5 : x8_1 < (a0.size : Int) := of_decide_eq_true (by first | (with_reducible assumption) | assumption)
          have hx5 := bt_at a0 x8_1
          replace p5 := eq_true p5
          replace q5 := eq_true q5
          go_wp2
          go_roundg k1
          case measure => have := HK1.out; omega
          case rel => exact ⟨(wrap64 (x8_1 + 1)), (by first | rfl | (simp; done) | (simp [*]; done)), H', ⟨by have := HK1.out; omega⟩, by repeat (first | exact Drawn0.refl _ | apply Drawn0.step)⟩
         ·rw [if_neg c18] at H
          have c18b0 : ((bt a0 x8_1) == 95) = false := beq_eq_false_iff_ne.mpr c18
          have c18b1 : ((bt a0 x8_1) != 95) = true := bne_iff_ne.mpr c18
          by_cases c19 : x8_1 = 0
          ·rw [if_pos c19] at H
           have c19b0 : (x8_1 == 0) = true := beq_iff_eq.mpr c19
           have c19b1 : (x8_1 != 0) = false := bne_eq_false_iff_eq.mpr c19
           clear c19
           obtain rfl := Option.some.inj H
           have p5 : 0 ≤ (x8_1 : Int) := of_decide_eq_true (by first | (with_reducible assumption) | assumption)
           have q5 : x8_1 < (a0.size : Int) := of_decide_eq_true (by first | (with_reducible assumption) | assumption)
           have hx5 := bt_at a0 x8_1
           replace p5 := eq_true p5
           replace q5 := eq_true q5
           go_wp2
           go_ret
           exact ⟨by first | rfl | (simp; done) | (simp [*]; done), by repeat (first | exact Drawn0.refl _ | apply Drawn0.step)⟩
          ·rw [if_neg c19] at H
           have c19b0 : (x8_1 == 0) = false := beq_eq_false_iff_ne.mpr c19
           have c19b1 : (x8_1 != 0) = true := bne_iff_ne.mpr c19
           by_cases c20 : (bt a0 x8_1) ≥ 48
           ·rw [if_pos c20] at H
            have c20b0 : decide (48 ≤ (bt a0 x8_1)) = true := decide_eq_true c20
            clear c20
            by_cases c21 : ((bt a0 x8_1) ≤ 57)
            ·rw [if_pos c21] at H
             have c21b0 : decide ((bt a0 x8_1) ≤ 57) = true := decide_eq_true c21
             clear c21
             have H' := Aside0.mk H
             clear H
             have p5 : 0 ≤ (x8_1 : Int) := of_decide_eq_true (by first | (with_reducible assumption) | assumption)
             have q5 : x8_1 < (a0.size : Int) := of_decide_eq_true (by first | (with_reducible assumption) | assumption)
             have hx5 := bt_at a0 x8_1
             replace p5 := eq_true p5
             replace q5 := eq_true q5
             go_wp2
             go_roundg k1
             case measure => have := HK1.out; omega
             case rel => exact ⟨(wrap64 (x8_1 + 1)), (by first | rfl | (simp; done) | (simp [*]; done)), H', ⟨by have := HK1.out; omega⟩, by repeat (first | exact Drawn0.refl _ | apply Drawn0.step)⟩
            ·rw [if_neg c21] at H
             have c21b0 : decide ((bt a0 x8_1) ≤ 57) = false := decide_eq_false c21
             clear c21
             by_cases c22 : (bt a0 x8_1) = 46
             ·rw [if_pos c22] at H
              have c22b0 : ((bt a0 x8_1) == 46) = true := beq_iff_eq.mpr c22
              have c22b1 : ((bt a0 x8_1) != 46) = false := bne_eq_false_iff_eq.mpr c22
              clear c22
              have H' := Aside0.mk H
              clear H
              have p5 : 0 ≤ (x8_1 : Int) := of_decide_eq_true (by first | (with_reducible assumption) | assumption)
              have q5 : x8_1 < (a0.size : Int) := of_decide_eq_true (by first | (with_reducible assumption) | assumption)
              have hx5 := bt_at a0 x8_1
              replace p5 := eq_true p5
              replace q5 := eq_true q5
              go_wp2
              go_roundg k1
              case measure => have := HK1.out; omega
              case rel => exact ⟨(wrap64 (x8_1 + 1)), (by first | rfl | (simp; done) | (simp [*]; done)), H', ⟨by have := HK1.out; omega⟩, by repeat (first | exact Drawn0.refl _ | apply Drawn0.step)⟩
             ·rw [if_neg c22] at H
              have c22b0 : ((bt a0 x8_1) == 46) = false := beq_eq_false_iff_ne.mpr c22
              have c22b1 : ((bt a0 x8_1) != 46) = true := bne_iff_ne.mpr c22
              by_cases c23 : (bt a0 x8_1) = 45
              ·rw [if_pos c23] at H
               have c23b0 : ((bt a0 x8_1) == 45) = true := beq_iff_eq.mpr c23
               have c23b1 : ((bt a0 x8_1) != 45) = false := bne_eq_false_iff_eq.mpr c23
               clear c23
               have H' := Aside0.mk H
               clear H
               have p5 : 0 ≤ (x8_1 : Int) := of_decide_eq_true (by first | (with_reducible assumption) | assumption)
               have q5 : x8_1 < (a0.size : Int) := of_decide_eq_true (by first | (with_reducible assumption) | assumption)
               have hx5 := bt_at a0 x8_1
               replace p5 := eq_true p5
               replace q5 := eq_true q5
               go_wp2
               go_roundg k1
               case measure => have := HK1.out; omega
               case rel => exact ⟨(wrap64 (x8_1 + 1)), (by first | rfl | (simp; done) | (simp [*]; done)), H', ⟨by have := HK1.out; omega⟩, by repeat (first | exact Drawn0.refl _ | apply Drawn0.step)⟩
              ·rw [if_neg c23] at H
               have c23b0 : ((bt a0 x8_1) == 45) = false := beq_eq_false_iff_ne.mpr c23
               have c23b1 : ((bt a0 x8_1) != 45) = true := bne_iff_ne.mpr c23
               obtain rfl := Option.some.inj H
               have p5 : 0 ≤ (x8_1 : Int) := of_decide_eq_true (by first | (with_reducible assumption) | assumption)
               have q5 : x8_1 < (a0.size : Int) := of_decide_eq_true (by first | (with_reducible assumption) | assumption)
               have hx5 := bt_at a0 x8_1
               replace p5 := eq_true p5
               replace q5 := eq_true q5
               go_wp2
               go_ret
               exact ⟨by first | rfl | (simp; done) | (simp [*]; done), by repeat (first | exact Drawn0.refl _ | apply Drawn0.step)⟩
           ·rw [if_neg c20] at H
            have c20b0 : decide (48 ≤ (bt a0 x8_1)) = false := decide_eq_false c20
            clear c20
            by_cases c24 : (bt a0 x8_1) = 46
            ·rw [if_pos c24] at H
             have c24b0 : ((bt a0 x8_1) == 46) = true := beq_iff_eq.mpr c24
             have c24b1 : ((bt a0 x8_1) != 46) = false := bne_eq_false_iff_eq.mpr c24
             clear c24
             have H' := Aside0.mk H
             clear H
             have p5 : 0 ≤ (x8_1 : Int) := of_decide_eq_true (by first | (with_reducible assumption) | assumption)
             have q5 : x8_1 < (a0.size : Int) := of_decide_eq_true (by first | (with_reducible assumption) | assumption)
             have hx5 := bt_at a0 x8_1
             replace p5 := eq_true p5
             replace q5 := eq_true q5
             go_wp2
             go_roundg k1
             case measure => have := HK1.out; omega
             case rel => exact ⟨(wrap64 (x8_1 + 1)), (by first | rfl | (simp; done) | (simp [*]; done)), H', ⟨by have := HK1.out; omega⟩, by repeat (first | exact Drawn0.refl _ | apply Drawn0.step)⟩
            ·rw [if_neg c24] at H
             have c24b0 : ((bt a0 x8_1) == 46) = false := beq_eq_false_iff_ne.mpr c24
             have c24b1 : ((bt a0 x8_1) != 46) = true := bne_iff_ne.mpr c24
             by_cases c25 : (bt a0 x8_1) = 45
             ·rw [if_pos c25] at H
              have c25b0 : ((bt a0 x8_1) == 45) = true := beq_iff_eq.mpr c25
              have c25b1 : ((bt a0 x8_1) != 45) = false := bne_eq_false_iff_eq.mpr c25
              clear c25
              have H' := Aside0.mk H
              clear H
              have p5 : 0 ≤ (x8_1 : Int) := of_decide_eq_true (by first | (with_reducible assumption) | assumption)
              have q5 : x8_1 < (a0.size : Int) := of_decide_eq_true (by first | (with_reducible assumption) | assumption)
              have hx5 := bt_at a0 x8_1
              replace p5 := eq_true p5
              replace q5 := eq_true q5
              go_wp2
              go_roundg k1
              case measure => have := HK1.out; omega
              case rel => exact ⟨(wrap64 (x8_1 + 1)), (by first | rfl | (simp; done) | (simp [*]; done)), H', ⟨by have := HK1.out; omega⟩, by repeat (first | exact Drawn0.refl _ | apply Drawn0.step)⟩
             ·rw [if_neg c25] at H
              have c25b0 : ((bt a0 x8_1) == 45) = false := beq_eq_false_iff_ne.mpr c25
              have c25b1 : ((bt a0 x8_1) != 45) = true := bne_iff_ne.mpr c25
              obtain rfl := Option.some.inj H
              have p5 : 0 ≤ (x8_1 : Int) := of_decide_eq_true (by first | (with_reducible assumption) | assumption)
              have q5 : x8_1 < (a0.size : Int) := of_decide_eq_true (by first | (with_reducible assumption) | assumption)
              have hx5 := bt_at a0 x8_1
              replace p5 := eq_true p5
              replace q5 := eq_true q5
              go_wp2
              go_ret
              exact ⟨by first | rfl | (simp; done) | (simp [*]; done), by repeat (first | exact Drawn0.refl _ | apply Drawn0.step)⟩
      ·rw [if_neg c6] at H
       have c6b0 : decide (97 ≤ (bt a0 x8_1)) = false := decide_eq_false c6
       clear c6
       by_cases c26 : (bt a0 x8_1) ≥ 65
       ·rw [if_pos c26] at H
        have c26b0 : decide (65 ≤ (bt a0 x8_1)) = true := decide_eq_true c26
        clear c26
        by_cases c27 : (bt a0 x8_1) ≤ 90
        ·rw [if_pos c27] at H
         have c27b0 : decide ((bt a0 x8_1) ≤ 90) = true := decide_eq_true c27
         clear c27
         have H' := Aside0.mk H
         clear H
         have p5 : 0 ≤ (x8_1 : Int) := of_decide_eq_true (by first | (with_reducible assumption) | assumption)
         have q5 : x8_1 < (a0.size : Int) := of_decide_eq_true (by first | (with_reducible assumption) | assumption)
         have hx5 := bt_at a0 x8_1
         replace p5 := eq_true p5
         replace q5 := eq_true q5
         go_wp2
         go_roundg k1
         case measure => have := HK1.out; omega
         case rel => exact ⟨(wrap64 (x8_1 + 1)), (by first | rfl | (simp; done) | (simp [*]; done)), H', ⟨by have := HK1.out; omega⟩, by repeat (first | exact Drawn0.refl _ | apply Drawn0.step)⟩
        ·rw [if_neg c27] at H
         have c27b0 : decide ((bt a0 x8_1) ≤ 90) = false := decide_eq_false c27
         clear c27
         by_cases c28 : ((bt a0 x8_1) = 95)
         ·rw [if_pos c28] at H
          have c28b0 : ((bt a0 x8_1) == 95) = true := beq_iff_eq.mpr c28
          have c28b1 : ((bt a0 x8_1) != 95) = false := bne_eq_false_iff_eq.mpr c28
          clear c28
          have H' := Aside0.mk H
          clear H
          have p5 : 0 ≤ (x8_1 : Int) := of_decide_eq_true (by first | (with_reducible assumption) | assumption)
          have q5 : x8_1 < (a0.size : Int) := of_decide_eq_true (by first | (with_reducible assumption) | assumption)
          have hx5 := bt_at a0 x8_1
          replace p5 := eq_true p5
          replace q5 := eq_true q5
          go_wp2
          go_roundg k1
          case measure => have := HK1.out; omega
          case rel => exact ⟨(wrap64 (x8_1 + 1)), (by first | rfl | (simp; done) | (simp [*]; done)), H', ⟨by have := HK1.out; omega⟩, by repeat (first | exact Drawn0.refl _ | apply Drawn0.step)⟩
         ·rw [if_neg c28] at H
          have c28b0 : ((bt a0 x8_1) == 95) = false := beq_eq_false_iff_ne.mpr c28
          have c28b1 : ((bt a0 x8_1) != 95) = true := bne_iff_ne.mpr c28
          by_cases c29 : x8_1 = 0
          ·rw [if_pos c29] at H
           have c29b0 : (x8_1 == 0) = true := beq_iff_eq.mpr c29
           have c29b1 : (x8_1 != 0) = false := bne_eq_false_iff_eq.mpr c29
           clear c29
           obtain rfl := Option.some.inj H
           have p5 : 0 ≤ (x8_1 : Int) := of_decide_eq_true (by first | (with_reducible assumption) | assumption)
           have q5 : x8_1 < (a0.size : Int) := of_decide_eq_true (by first | (with_reducible assumption) | assumption)
           have hx5 := bt_at a0 x8_1
           replace p5 := eq_true p5
           replace q5 := eq_true q5
           go_wp2
           go_ret
           exact ⟨by first | rfl | (simp; done) | (simp [*]; done), by repeat (first | exact Drawn0.refl _ | apply Drawn0.step)⟩
          ·rw [if_neg c29] at H
           have c29b0 : (x8_1 == 0) = false := beq_eq_false_iff_ne.mpr c29
           have c29b1 : (x8_1 != 0) = true := bne_iff_ne.mpr c29
           by_cases c30 : (bt a0 x8_1) ≥ 48
           ·rw [if_pos c30] at H
            have c30b0 : decide (48 ≤ (bt a0 x8_1)) = true := decide_eq_true c30
            clear c30
            by_cases c31 : ((bt a0 x8_1) ≤ 57)
            ·rw [if_pos c31] at H
             have c31b0 : decide ((bt a0 x8_1) ≤ 57) = true := decide_eq_true c31
             clear c31
             have H' := Aside0.mk H
             clear H
             have p5 : 0 ≤ (x8_1 : Int) := of_decide_eq_true (by first | (with_reducible assumption) | assumption)
             have q5 : x8_1 < (a0.size : Int) := of_decide_eq_true (by first | (with_reducible assumption) | assumption)
             have hx5 := bt_at a0 x8_1
             replace p5 := eq_true p5
             replace q5 := eq_true q5
             go_wp2
             go_roundg k1
             case measure => have := HK1.out; omega
             case rel => exact ⟨(wrap64 (x8_1 + 1)), (by first | rfl | (simp; done) | (simp [*]; done)), H', ⟨by have := HK1.out; omega⟩, by repeat (first | exact Drawn0.refl _ | apply Drawn0.step)⟩
            ·rw [if_neg c31] at H
             have c31b0 : decide ((bt a0 x8_1) ≤ 57) = false := decide_eq_false c31
             clear c31
             by_cases c32 : (bt a0 x8_1) = 46
             ·rw [if_pos c32] at H
              have c32b0 : ((bt a0 x8_1) == 46) = true := beq_iff_eq.mpr c32
              have c32b1 : ((bt a0 x8_1) != 46) = false := bne_eq_false_iff_eq.mpr c32
              clear c32
              have H' := Aside0.mk H
              clear H
              have p5 : 0 ≤ (x8_1 : Int) := of_decide_eq_true (by first | (with_reducible assumption) | assumption)
              have q5 : x8_1 < (a0.size : Int) := of_decide_eq_true (by first | (with_reducible assumption) | assumption)
              have hx5 := bt_at a0 x8_1
              replace p5 := eq_true p5
              replace q5 := eq_true q5
              go_wp2
              go_roundg k1
              case measure => have := HK1.out; omega
              case rel => exact ⟨(wrap64 (x8_1 + 1)), (by first | rfl | (simp; done) | (simp [*]; done)), H', ⟨by have := HK1.out; omega⟩, by repeat (first | exact Drawn0.refl _ | apply Drawn0.step)⟩
             ·rw [if_neg c32] at H
              have c32b0 : ((bt a0 x8_1) == 46) = false := beq_eq_false_iff_ne.mpr c32
              have c32b1 : ((bt a0 x8_1) != 46) = true := bne_iff_ne.mpr c32
              by_cases c33 : (bt a0 x8_1) = 45
              ·rw [if_pos c33] at H
               have c33b0 : ((bt a0 x8_1) == 45) = true := beq_iff_eq.mpr c33
               have c33b1 : ((bt a0 x8_1) != 45) = false := bne_eq_false_iff_eq.mpr c33
               clear c33
               have H' := Aside0.mk H
               clear H
               have p5 : 0 ≤ (x8_1 : Int) := of_decide_eq_true (by first | (with_reducible assumption) | assumption)
               have q5 : x8_1 < (a0.size : Int) := of_decide_eq_true (by first | (with_reducible assumption) | assumption)
               have hx5 := bt_at a0 x8_1
               replace p5 := eq_true p5
               replace q5 := eq_true q5
               go_wp2
               go_roundg k1
               case measure => have := HK1.out; omega
               case rel => exact ⟨(wrap64 (x8_1 + 1)), (by first | rfl | (simp; done) | (simp [*]; done)), H', ⟨by have := HK1.out; omega⟩, by repeat (first | exact Drawn0.refl _ | apply Drawn0.step)⟩
              ·rw [if_neg c33] at H
               have c33b0 : ((bt a0 x8_1) == 45) = false := beq_eq_false_iff_ne.mpr c33
               have c33b1 : ((bt a0 x8_1) != 45) = true := bne_iff_ne.mpr c33
               obtain rfl := Option.some.inj H
               have p5 : 0 ≤ (x8_1 : Int) := of_decide_eq_true (by first | (with_reducible assumption) | assumption)
               have q5 : x8_1 < (a0.size : Int) := of_decide_eq_true (by first | (with_reducible assumption) | assumption)
               have hx5 := bt_at a0 x8_1
               replace p5 := eq_true p5
               replace q5 := eq_true q5
               go_wp2
               go_ret
               exact ⟨by first | rfl | (simp; done) | (simp [*]; done), by repeat (first | exact Drawn0.refl _ | apply Drawn0.step)⟩
           ·rw [if_neg c30] at H
            have c30b0 : decide (48 ≤ (bt a0 x8_1)) = false := decide_eq_false c30
            clear c30
            by_cases c34 : (bt a0 x8_1) = 46
            ·rw [if_pos c34] at H
             have c34b0 : ((bt a0 x8_1) == 46) = true := beq_iff_eq.mpr c34
             have c34b1 : ((bt a0 x8_1) != 46) = false := bne_eq_false_iff_eq.mpr c34
             clear c34
             have H' := Aside0.mk H
             clear H
             have p5 : 0 ≤ (x8_1 : Int) := of_decide_eq_true (by first | (with_reducible assumption) | assumption)
             have q5 : x8_1 < (a0.size : Int) := of_decide_eq_true (by first | (with_reducible assumption) | assumption)
             have hx5 := bt_at a0 x8_1
             replace p5 := eq_true p5
             replace q5 := eq_true q5
             go_wp2
             go_roundg k1
             case measure => have := HK1.out; omega
             case rel => exact ⟨(wrap64 (x8_1 + 1)), (by first | rfl | (simp; done) | (simp [*]; done)), H', ⟨by have := HK1.out; omega⟩, by repeat (first | exact Drawn0.refl _ | apply Drawn0.step)⟩
            ·rw [if_neg c34] at H
             have c34b0 : ((bt a0 x8_1) == 46) = false := beq_eq_false_iff_ne.mpr c34
             have c34b1 : ((bt a0 x8_1) != 46) = true := bne_iff_ne.mpr c34
             by_cases c35 : (bt a0 x8_1) = 45
             ·rw [if_pos c35] at H
              have c35b0 : ((bt a0 x8_1) == 45) = true := beq_iff_eq.mpr c35
              have c35b1 : ((bt a0 x8_1) != 45) = false := bne_eq_false_iff_eq.mpr c35
              clear c35
              have H' := Aside0.mk H
              clear H
              have p5 : 0 ≤ (x8_1 : Int) := of_decide_eq_true (by first | (with_reducible assumption) | assumption)
              have q5 : x8_1 < (a0.size : Int) := of_decide_eq_true (by first | (with_reducible assumption) | assumption)
              have hx5 := bt_at a0 x8_1
              replace p5 := eq_true p5
              replace q5 := eq_true q5
              go_wp2
              go_roundg k1
              case measure => have := HK1.out; omega
              case rel => exact ⟨(wrap64 (x8_1 + 1)), (by first | rfl | (simp; done) | (simp [*]; done)), H', ⟨by have := HK1.out; omega⟩, by repeat (first | exact Drawn0.refl _ | apply Drawn0.step)⟩
             ·rw [if_neg c35] at H
              have c35b0 : ((bt a0 x8_1) == 45) = false := beq_eq_false_iff_ne.mpr c35
              have c35b1 : ((bt a0 x8_1) != 45) = true := bne_iff_ne.mpr c35
              obtain rfl := Option.some.inj H
              have p5 : 0 ≤ (x8_1 : Int) := of_decide_eq_true (by first | (with_reducible assumption) | assumption)
              have q5 : x8_1 < (a0.size : Int) := of_decide_eq_true (by first | (with_reducible assumption) | assumption)
              have hx5 := bt_at a0 x8_1
              replace p5 := eq_true p5
              replace q5 := eq_true q5
              go_wp2
              go_ret
              exact ⟨by first | rfl | (simp; done) | (simp [*]; done), by repeat (first | exact Drawn0.refl _ | apply Drawn0.step)⟩
       ·rw [if_neg c26] at H
        have c26b0 : decide (65 ≤ (bt a0 x8_1)) = false := decide_eq_false c26
        clear c26
        by_cases c36 : ((bt a0 x8_1) = 95)
        ·rw [if_pos c36] at H
         have c36b0 : ((bt a0 x8_1) == 95) = true := beq_iff_eq.mpr c36
         have c36b1 : ((bt a0 x8_1) != 95) = false := bne_eq_false_iff_eq.mpr c36
         clear c36
         have H' := Aside0.mk H
         clear H
         have p5 : 0 ≤ (x8_1 : Int) := of_decide_eq_true (by first | (with_reducible assumption) | assumption)
         have q5 : x8_1 < (a0.size : Int) := of_decide_eq_true (by first | (with_reducible assumption) | assumption)
         have hx5 := bt_at a0 x8_1
         replace p5 := eq_true p5
         replace q5 := eq_true q5
         go_wp2
         go_roundg k1
         case measure => have := HK1.out; omega
         case rel => exact ⟨(wrap64 (x8_1 + 1)), (by first | rfl | (simp; done) | (simp [*]; done)), H', ⟨by have := HK1.out; omega⟩, by repeat (first | exact Drawn0.refl _ | apply Drawn0.step)⟩
        ·rw [if_neg c36] at H
         have c36b0 : ((bt a0 x8_1) == 95) = false := beq_eq_false_iff_ne.mpr c36
         have c36b1 : ((bt a0 x8_1) != 95) = true := bne_iff_ne.mpr c36
         by_cases c37 : x8_1 = 0
         ·rw [if_pos c37] at H
          have c37b0 : (x8_1 == 0) = true := beq_iff_eq.mpr c37
          have c37b1 : (x8_1 != 0) = false := bne_eq_false_iff_eq.mpr c37
          clear c37
          obtain rfl := Option.some.inj H
          have p5 : 0 ≤ (x8_1 : Int) := of_decide_eq_true (by first | (with_reducible assumption) | assumption)
          have q5 : x8_1 < (a0.size : Int) := of_decide_eq_true (by first | (with_reducible assumption) | assumption)
          have hx5 := bt_at a0 x8_1
          replace p5 := eq_true p5
          replace q5 := eq_true q5
          go_wp2
          go_ret
          exact ⟨by first | rfl | (simp; done) | (simp [*]; done), by repeat (first | exact Drawn0.refl _ | apply Drawn0.step)⟩
         ·rw [if_neg c37] at H
          have c37b0 : (x8_1 == 0) = false := beq_eq_false_iff_ne.mpr c37
          have c37b1 : (x8_1 != 0) = true := bne_iff_ne.mpr c37
          by_cases c38 : (bt a0 x8_1) ≥ 48
          ·rw [if_pos c38] at H
           have c38b0 : decide (48 ≤ (bt a0 x8_1)) = true := decide_eq_true c38
           clear c38
           by_cases c39 : ((bt a0 x8_1) ≤ 57)
           ·rw [if_pos c39] at H
            have c39b0 : decide ((bt a0 x8_1) ≤ 57) = true := decide_eq_true c39
            clear c39
            have H' := Aside0.mk H
            clear H
            have p5 : 0 ≤ (x8_1 : Int) := of_decide_eq_true (by first | (with_reducible assumption) | assumption)
            have q5 : x8_1 < (a0.size : Int) := of_decide_eq_true (by first | (with_reducible assumption) | assumption)
            have hx5 := bt_at a0 x8_1
            replace p5 := eq_true p5
            replace q5 := eq_true q5
            go_wp2
            go_roundg k1
            case measure => have := HK1.out; omega
            case rel => exact ⟨(wrap64 (x8_1 + 1)), (by first | rfl | (simp; done) | (simp [*]; done)), H', ⟨by have := HK1.out; omega⟩, by repeat (first | exact Drawn0.refl _ | apply Drawn0.step)⟩
           ·rw [if_neg c39] at H
            have c39b0 : decide ((bt a0 x8_1) ≤ 57) = false := decide_eq_false c39
            clear c39
            by_cases c40 : (bt a0 x8_1) = 46
            ·rw [if_pos c40] at H
             have c40b0 : ((bt a0 x8_1) == 46) = true := beq_iff_eq.mpr c40
             have c40b1 : ((bt a0 x8_1) != 46) = false := bne_eq_false_iff_eq.mpr c40
             clear c40
             have H' := Aside0.mk H
             clear H
             have p5 : 0 ≤ (x8_1 : Int) := of_decide_eq_true (by first | (with_reducible assumption) | assumption)
             have q5 : x8_1 < (a0.size : Int) := of_decide_eq_true (by first | (with_reducible assumption) | assumption)
             have hx5 := bt_at a0 x8_1
             replace p5 := eq_true p5
             replace q5 := eq_true q5
             go_wp2
             go_roundg k1
             case measure => have := HK1.out; omega
             case rel => exact ⟨(wrap64 (x8_1 + 1)), (by first | rfl | (simp; done) | (simp [*]; done)), H', ⟨by have := HK1.out; omega⟩, by repeat (first | exact Drawn0.refl _ | apply Drawn0.step)⟩
            ·rw [if_neg c40] at H
             have c40b0 : ((bt a0 x8_1) == 46) = false := beq_eq_false_iff_ne.mpr c40
             have c40b1 : ((bt a0 x8_1) != 46) = true := bne_iff_ne.mpr c40
             by_cases c41 : (bt a0 x8_1) = 45
             ·rw [if_pos c41] at H
              have c41b0 : ((bt a0 x8_1) == 45) = true := beq_iff_eq.mpr c41
              have c41b1 : ((bt a0 x8_1) != 45) = false := bne_eq_false_iff_eq.mpr c41
              clear c41
              have H' := Aside0.mk H
              clear H
              have p5 : 0 ≤ (x8_1 : Int) := of_decide_eq_true (by first | (with_reducible assumption) | assumption)
              have q5 : x8_1 < (a0.size : Int) := of_decide_eq_true (by first | (with_reducible assumption) | assumption)
              have hx5 := bt_at a0 x8_1
              replace p5 := eq_true p5
              replace q5 := eq_true q5
              go_wp2
              go_roundg k1
              case measure => have := HK1.out; omega
              case rel => exact ⟨(wrap64 (x8_1 + 1)), (by first | rfl | (simp; done) | (simp [*]; done)), H', ⟨by have := HK1.out; omega⟩, by repeat (first | exact Drawn0.refl _ | apply Drawn0.step)⟩
             ·rw [if_neg c41] at H
              have c41b0 : ((bt a0 x8_1) == 45) = false := beq_eq_false_iff_ne.mpr c41
              have c41b1 : ((bt a0 x8_1) != 45) = true := bne_iff_ne.mpr c41
              obtain rfl := Option.some.inj H
              have p5 : 0 ≤ (x8_1 : Int) := of_decide_eq_true (by first | (with_reducible assumption) | assumption)
              have q5 : x8_1 < (a0.size : Int) := of_decide_eq_true (by first | (with_reducible assumption) | assumption)
              have hx5 := bt_at a0 x8_1
              replace p5 := eq_true p5
              replace q5 := eq_true q5
              go_wp2
              go_ret
              exact ⟨by first | rfl | (simp; done) | (simp [*]; done), by repeat (first | exact Drawn0.refl _ | apply Drawn0.step)⟩
          ·rw [if_neg c38] at H
           have c38b0 : decide (48 ≤ (bt a0 x8_1)) = false := decide_eq_false c38
           clear c38
           by_cases c42 : (bt a0 x8_1) = 46
           ·rw [if_pos c42] at H
            have c42b0 : ((bt a0 x8_1) == 46) = true := beq_iff_eq.mpr c42
            have c42b1 : ((bt a0 x8_1) != 46) = false := bne_eq_false_iff_eq.mpr c42
            clear c42
            have H' := Aside0.mk H
            clear H
            have p5 : 0 ≤ (x8_1 : Int) := of_decide_eq_true (by first | (with_reducible assumption) | assumption)
            have q5 : x8_1 < (a0.size : Int) := of_decide_eq_true (by first | (with_reducible assumption) | assumption)
            have hx5 := bt_at a0 x8_1
            replace p5 := eq_true p5
            replace q5 := eq_true q5
            go_wp2
            go_roundg k1
            case measure => have := HK1.out; omega
            case rel => exact ⟨(wrap64 (x8_1 + 1)), (by first | rfl | (simp; done) | (simp [*]; done)), H', ⟨by have := HK1.out; omega⟩, by repeat (first | exact Drawn0.refl _ | apply Drawn0.step)⟩
           ·rw [if_neg c42] at H
            have c42b0 : ((bt a0 x8_1) == 46) = false := beq_eq_false_iff_ne.mpr c42
            have c42b1 : ((bt a0 x8_1) != 46) = true := bne_iff_ne.mpr c42
            by_cases c43 : (bt a0 x8_1) = 45
            ·rw [if_pos c43] at H
             have c43b0 : ((bt a0 x8_1) == 45) = true := beq_iff_eq.mpr c43
             have c43b1 : ((bt a0 x8_1) != 45) = false := bne_eq_false_iff_eq.mpr c43
             clear c43
             have H' := Aside0.mk H
             clear H
             have p5 : 0 ≤ (x8_1 : Int) := of_decide_eq_true (by first | (with_reducible assumption) | assumption)
             have q5 : x8_1 < (a0.size : Int) := of_decide_eq_true (by first | (with_reducible assumption) | assumption)
             have hx5 := bt_at a0 x8_1
             replace p5 := eq_true p5
             replace q5 := eq_true q5
             go_wp2
             go_roundg k1
             case measure => have := HK1.out; omega
             case rel => exact ⟨(wrap64 (x8_1 + 1)), (by first | rfl | (simp; done) | (simp [*]; done)), H', ⟨by have := HK1.out; omega⟩, by repeat (first | exact Drawn0.refl _ | apply Drawn0.step)⟩
            ·rw [if_neg c43] at H
             have c43b0 : ((bt a0 x8_1) == 45) = false := beq_eq_false_iff_ne.mpr c43
             have c43b1 : ((bt a0 x8_1) != 45) = true := bne_iff_ne.mpr c43
             obtain rfl := Option.some.inj H
             have p5 : 0 ≤ (x8_1 : Int) := of_decide_eq_true (by first | (with_reducible assumption) | assumption)
             have q5 : x8_1 < (a0.size : Int) := of_decide_eq_true (by first | (with_reducible assumption) | assumption)
             have hx5 := bt_at a0 x8_1
             replace p5 := eq_true p5
             replace q5 := eq_true q5
             go_wp2
             go_ret
             exact ⟨by first | rfl | (simp; done) | (simp [*]; done), by repeat (first | exact Drawn0.refl _ | apply Drawn0.step)⟩
     ·rw [if_neg c4] at H
      exact absurd H (by simp)
    ·rw [if_neg c3] at H
     exact absurd H (by simp)
   ·rw [if_neg c2] at H
    have c2b0 : decide (x8_1 < (a0.size : Int)) = false := decide_eq_false c2
    clear c2
    replace H := Option.bind_eq_some_iff.mp H
    obtain ⟨t117, A440, H⟩ := H
    replace H : (some t117) = some r := H
    have A44 := Aside0.mk A440
    clear A440
    obtain rfl := Option.some.inj H
    go_wp2_with (first | ((with_reducible refine gate_callee (f := 69) rfl ?_); refine goesL_ (some 58) rfl rfl Tryd.func69 (by kernel_rfl) rfl #[.int .i64 (a0.size : Int), .int .i64 1, .int .i64 40] rfl (by (try simp only [List.map_toArray, List.map_cons, List.map_nil]); first | done | rfl | (simp only [List.length_drop, List.length_take]; rfl)) ?_; (with_reducible refine (impl_in.calls (a0.size : Int) 1 40 t117 _ A44.out).mono ?_); rintro e w' ⟨rfl, ⟨nd, rfl⟩⟩; refine ⟨_, rfl, ?_⟩))
    go_ret
    exact ⟨by first | rfl | (simp; done) | (simp [*]; done), by repeat (first | exact Drawn0.refl _ | apply Drawn0.step)⟩

/-! ### stringslite_HasPrefix: function 135 -/
def stringslite_HasPrefix.f (a0 : ByteArray) (a1 : ByteArray) : Option (Bool) := if (a0.size : Int) ≥ (a1.size : Int) then (if 0 ≤ (a1.size : Int) then (if (a1.size : Int) ≤ (a0.size : Int) then (some ((a0.extract 0 ((a1.size : Int) : Int).toNat).toList == a1.toList)) else (none)) else (none)) else (some false)
set_option maxHeartbeats 8000000 in
set_option maxRecDepth 100000 in
theorem stringslite_HasPrefix.calls (a0 : ByteArray) (a1 : ByteArray) (r : Bool) (w : World) (h : stringslite_HasPrefix.f a0 a1 = some r) :
  Calls Tryd.prog 135 #[.string a0, .string a1] w fun e w' => e = .returned (.bool r) ∧ Drawn0 w w' := by
 have H : (if (a0.size : Int) ≥ (a1.size : Int) then (if 0 ≤ (a1.size : Int) then (if (a1.size : Int) ≤ (a0.size : Int) then (some ((a0.extract 0 ((a1.size : Int) : Int).toNat).toList == a1.toList)) else (none)) else (none)) else (some false)) = some r := h
 clear h
 by_cases c3 : (a0.size : Int) ≥ (a1.size : Int)
 ·rw [if_pos c3] at H
  have c3b0 : decide ((a1.size : Int) ≤ (a0.size : Int)) = true := decide_eq_true c3
  have c3b1 : decide (a1.size ≤ a0.size) = true := decide_eq_true (Int.ofNat_le.mp c3)
  clear c3
  by_cases c4 : 0 ≤ (a1.size : Int)
  ·rw [if_pos c4] at H
   have c4b0 := eq_true c4
   have c4b1 : decide (0 ≤ (a1.size : Int)) = true := decide_eq_true c4
   clear c4
   by_cases c5 : (a1.size : Int) ≤ (a0.size : Int)
   ·rw [if_pos c5] at H
    have c5b0 := eq_true c5
    have c5b1 : decide ((a1.size : Int) ≤ (a0.size : Int)) = true := decide_eq_true c5
    clear c5
    obtain rfl := Option.some.inj H
    go_enter Tryd.func135, Tryd.ntmps135
    go_wp2
    go_ret
    exact ⟨by first | rfl | (simp; done) | (simp [*]; done), by repeat (first | exact Drawn0.refl _ | apply Drawn0.step)⟩
   ·rw [if_neg c5] at H
    exact absurd H (by simp)
  ·rw [if_neg c4] at H
   exact absurd H (by simp)
 ·rw [if_neg c3] at H
  have c3b0 : decide ((a1.size : Int) ≤ (a0.size : Int)) = false := decide_eq_false c3
  have c3b1 : decide (a1.size ≤ a0.size) = false := decide_eq_false (fun h => c3 (Int.ofNat_le.mpr h))
  clear c3
  obtain rfl := Option.some.inj H
  go_enter Tryd.func135, Tryd.ntmps135
  go_wp2
  go_ret
  exact ⟨by first | rfl | (simp; done) | (simp [*]; done), by repeat (first | exact Drawn0.refl _ | apply Drawn0.step)⟩

/-! ### stringslite_CutPrefix: function 119 -/
def stringslite_CutPrefix.f (a0 : ByteArray) (a1 : ByteArray) : Option (ByteArray × Bool) := (stringslite_HasPrefix.f a0 a1).bind fun t118 => (if t118 = true then (if 0 ≤ (a1.size : Int) then (if (a1.size : Int) ≤ (a0.size : Int) then (some (a0.extract ((a1.size : Int) : Int).toNat a0.size, true)) else (none)) else (none)) else (some (a0, false)))
set_option maxHeartbeats 8000000 in
set_option maxRecDepth 100000 in
theorem stringslite_CutPrefix.calls (a0 : ByteArray) (a1 : ByteArray) (r1 : ByteArray) (r2 : Bool) (w : World) (h : stringslite_CutPrefix.f a0 a1 = some (r1, r2)) :
  Calls Tryd.prog 119 #[.string a0, .string a1] w fun e w' => e = .returned (.tuple #[.string r1, .bool r2]) ∧ Drawn0 w w' := by
 have H : ((stringslite_HasPrefix.f a0 a1).bind fun t118 => (if t118 = true then (if 0 ≤ (a1.size : Int) then (if (a1.size : Int) ≤ (a0.size : Int) then (some (a0.extract ((a1.size : Int) : Int).toNat a0.size, true)) else (none)) else (none)) else (some (a0, false)))) = some (r1, r2) := h
 clear h
 replace H := Option.bind_eq_some_iff.mp H
 obtain ⟨t118, A30, H⟩ := H
 replace H : (if t118 = true then (if 0 ≤ (a1.size : Int) then (if (a1.size : Int) ≤ (a0.size : Int) then (some (a0.extract ((a1.size : Int) : Int).toNat a0.size, true)) else (none)) else (none)) else (some (a0, false))) = some (r1, r2) := H
 have A3 := Aside0.mk A30
 clear A30
 by_cases c4 : t118 = true
 ·subst c4
  have H1 : (if 0 ≤ (a1.size : Int) then (if (a1.size : Int) ≤ (a0.size : Int) then (some (a0.extract ((a1.size : Int) : Int).toNat a0.size, true)) else (none)) else (none)) = some (r1, r2) := by rw [if_pos rfl] at H; exact H
  clear H
  have H := H1
  clear H1
  by_cases c5 : 0 ≤ (a1.size : Int)
  ·rw [if_pos c5] at H
   have c5b0 := eq_true c5
   have c5b1 : decide (0 ≤ (a1.size : Int)) = true := decide_eq_true c5
   clear c5
   by_cases c6 : (a1.size : Int) ≤ (a0.size : Int)
   ·rw [if_pos c6] at H
    have c6b0 := eq_true c6
    have c6b1 : decide ((a1.size : Int) ≤ (a0.size : Int)) = true := decide_eq_true c6
    clear c6
    simp only [Option.some.injEq, Prod.mk.injEq] at H
    obtain ⟨rfl, rfl⟩ := H
    go_enter Tryd.func119, Tryd.ntmps119
    go_wp2_with (first | ((with_reducible refine gate_callee (f := 135) rfl ?_); refine goesL_ (some 8) rfl rfl Tryd.func135 (by kernel_rfl) rfl #[.string a0, .string a1] rfl (by (try simp only [List.map_toArray, List.map_cons, List.map_nil]); first | done | rfl | (simp only [List.length_drop, List.length_take]; rfl)) ?_; (with_reducible refine (stringslite_HasPrefix.calls a0 a1 true _ A3.out).mono ?_); rintro e w' ⟨rfl, ⟨nd, rfl⟩⟩; refine ⟨_, rfl, ?_⟩))
    go_ret2
    exact ⟨by first | rfl | (simp; done) | (simp [*]; done), by repeat (first | exact Drawn0.refl _ | apply Drawn0.step)⟩
   ·rw [if_neg c6] at H
    exact absurd H (by simp)
  ·rw [if_neg c5] at H
   exact absurd H (by simp)
 ·replace c4 := Bool.eq_false_iff.mpr c4
  subst c4
  have H1 : (some (a0, false)) = some (r1, r2) := by rw [if_neg (show ¬ (false = true) by decide)] at H; exact H
  clear H
  have H := H1
  clear H1
  simp only [Option.some.injEq, Prod.mk.injEq] at H
  obtain ⟨rfl, rfl⟩ := H
  go_enter Tryd.func119, Tryd.ntmps119
  go_wp2_with (first | ((with_reducible refine gate_callee (f := 135) rfl ?_); refine goesL_ (some 8) rfl rfl Tryd.func135 (by kernel_rfl) rfl #[.string a0, .string a1] rfl (by (try simp only [List.map_toArray, List.map_cons, List.map_nil]); first | done | rfl | (simp only [List.length_drop, List.length_take]; rfl)) ?_; (with_reducible refine (stringslite_HasPrefix.calls a0 a1 false _ A3.out).mono ?_); rintro e w' ⟨rfl, ⟨nd, rfl⟩⟩; refine ⟨_, rfl, ?_⟩))
  go_ret2
  exact ⟨by first | rfl | (simp; done) | (simp [*]; done), by repeat (first | exact Drawn0.refl _ | apply Drawn0.step)⟩

/-! ### strings_CutPrefix: function 85 -/
def strings_CutPrefix.f (a0 : ByteArray) (a1 : ByteArray) : Option (ByteArray × Bool) := (stringslite_CutPrefix.f a0 a1).bind fun bt119 => (some (bt119.1, bt119.2))
set_option maxHeartbeats 8000000 in
set_option maxRecDepth 100000 in
theorem strings_CutPrefix.calls (a0 : ByteArray) (a1 : ByteArray) (r1 : ByteArray) (r2 : Bool) (w : World) (h : strings_CutPrefix.f a0 a1 = some (r1, r2)) :
  Calls Tryd.prog 85 #[.string a0, .string a1] w fun e w' => e = .returned (.tuple #[.string r1, .bool r2]) ∧ Drawn0 w w' := by
 have H : ((stringslite_CutPrefix.f a0 a1).bind fun bt119 => (some (bt119.1, bt119.2))) = some (r1, r2) := h
 clear h
 replace H := Option.bind_eq_some_iff.mp H
 obtain ⟨⟨t119, t120⟩, A30, H⟩ := H
 replace H : (some (t119, t120)) = some (r1, r2) := H
 have A3 := Aside0.mk A30
 clear A30
 simp only [Option.some.injEq, Prod.mk.injEq] at H
 obtain ⟨rfl, rfl⟩ := H
 go_enter Tryd.func85, Tryd.ntmps85
 go_wp2_with (first | ((with_reducible refine gate_callee (f := 119) rfl ?_); refine goesL_ (some 8) rfl rfl Tryd.func119 (by kernel_rfl) rfl #[.string a0, .string a1] rfl (by (try simp only [List.map_toArray, List.map_cons, List.map_nil]); first | done | rfl | (simp only [List.length_drop, List.length_take]; rfl)) ?_; (with_reducible refine (stringslite_CutPrefix.calls a0 a1 t119 t120 _ A3.out).mono ?_); rintro e w' ⟨rfl, ⟨nd, rfl⟩⟩; refine ⟨_, rfl, ?_⟩))
 go_ret2
 exact ⟨by first | rfl | (simp; done) | (simp [*]; done), by repeat (first | exact Drawn0.refl _ | apply Drawn0.step)⟩

end Go.Proofs.YtdicaljeegaieaaDoor.L

namespace Go.Proofs.YtdicaljeegaieaaDoor.L
open Go.RowKit Go.Proofs.YtdicaljeegaieaaDoorW.PrintWords Go.Proofs.YtdicaljeegaieaaDoorW.PrintLast Go.Proofs.YtdicaljeegaieaaDoorW.PrintMore
set_option linter.unusedVariables false

structure Gl (w : World) : Prop where
  tabs : Lib.Utf8Tabs 1 2 w
  most : ∃ m : Int, w.cell? ⟨0, 0, none⟩ = some (.int .i64 m)
theorem cell_lt' {w : World} {p : Addr} {v : Value} (h : w.cell? p = some v) : p.block < w.heap.size := by
  rcases Nat.lt_or_ge p.block w.heap.size with h' | h'
  · exact h'
  · simp [World.cell?, Array.getElem?_eq_none h'] at h
theorem Gl_below {w w' : World} (h : Gl w) (hb : Below w.heap.size w w') : Gl w' := by
  obtain ⟨h1, m, h2⟩ := h
  exact ⟨Go.Proofs.Utf8Tabs_below h1 hb, m, (hb.cell (p := ⟨0, 0, none⟩) (cell_lt' h2)).trans h2⟩
end Go.Proofs.YtdicaljeegaieaaDoor.L

namespace Go.Proofs
open Go.Shelf
def Tryd.lays146_ren : Go.Shelf.Ren := ⟨fun | 146 => 86 | 221 => 120 | 268 => 136 | 138 => 137 | 143 => 138 | 195 => 147 | 197 => 148 | 218 => 149 | 219 => 131 | 260 => 154 | 217 => 143 | 225 => 144 | 224 => 145 | 267 => 146 | 266 => 152 | 314 => 153 | n => n, fun | 9 => 9 | 31 => 66 | 3 => 3 | 4 => 4 | 0 => 0 | 105 => 156 | 21 => 21 | 5 => 5 | 46 => 140 | 119 => 159 | 139 => 162 | 138 => 161 | 146 => 164 | 51 => 163 | n => n, fun | 1 => 0 | 3 => 1 | 4 => 2 | n => n⟩
theorem Tryd.lays146 : Go.Proofs.Lays.n146 Tryd.prog Tryd.lays146_ren := {
  mixed := by kernel_rfl
  f138 := Tryd.func137.trans (congrArg some (by kernel_rfl))
  f143 := Tryd.func138.trans (congrArg some (by kernel_rfl))
  f146 := Tryd.func86.trans (congrArg some (by kernel_rfl))
  f195 := Tryd.func147.trans (congrArg some (by kernel_rfl))
  f197 := Tryd.func148.trans (congrArg some (by kernel_rfl))
  f217 := Tryd.func143.trans (congrArg some (by kernel_rfl))
  f218 := Tryd.func149.trans (congrArg some (by kernel_rfl))
  f219 := Tryd.func131.trans (congrArg some (by kernel_rfl))
  f221 := Tryd.func120.trans (congrArg some (by kernel_rfl))
  f224 := Tryd.func145.trans (congrArg some (by kernel_rfl))
  f225 := Tryd.func144.trans (congrArg some (by kernel_rfl))
  f260 := Tryd.func154.trans (congrArg some (by kernel_rfl))
  f266 := Tryd.func152.trans (congrArg some (by kernel_rfl))
  f267 := Tryd.func146.trans (congrArg some (by kernel_rfl))
  f268 := Tryd.func136.trans (congrArg some (by kernel_rfl))
  f314 := Tryd.func153.trans (congrArg some (by kernel_rfl))
  t0 := Tryd.underlying0
  a0 := Tryd.isAgg0
  z0 := Tryd.sizeOf0
  v0 := Tryd.zeroValue0
  t3 := Tryd.underlying3
  a3 := Tryd.isAgg3
  z3 := Tryd.sizeOf3
  v3 := Tryd.zeroValue3
  t4 := Tryd.underlying4
  a4 := Tryd.isAgg4
  z4 := Tryd.sizeOf4
  v4 := Tryd.zeroValue4
  t5 := Tryd.underlying5
  a5 := Tryd.isAgg5
  z5 := Tryd.sizeOf5
  v5 := Tryd.zeroValue5
  t9 := Tryd.underlying9
  a9 := Tryd.isAgg9
  z9 := Tryd.sizeOf9
  v9 := Tryd.zeroValue9
  t21 := Tryd.underlying21
  a21 := Tryd.isAgg21
  z21 := Tryd.sizeOf21
  v21 := Tryd.zeroValue21
  t31 := Tryd.underlying66
  a31 := Tryd.isAgg66
  z31 := Tryd.sizeOf66
  v31 := Tryd.zeroValue66
  t46 := Tryd.underlying140
  a46 := Tryd.isAgg140
  z46 := Tryd.sizeOf140
  v46 := Tryd.zeroValue140
  t51 := Tryd.underlying163
  a51 := Tryd.isAgg163
  z51 := Tryd.sizeOf163
  v51 := Tryd.zeroValue163
  t105 := Tryd.underlying156
  a105 := Tryd.isAgg156
  z105 := Tryd.sizeOf156
  v105 := Tryd.zeroValue156
  t119 := Tryd.underlying159
  a119 := Tryd.isAgg159
  z119 := Tryd.sizeOf159
  t138 := Tryd.underlying161
  a138 := Tryd.isAgg161
  z138 := Tryd.sizeOf161
  v138 := Tryd.zeroValue161
  t139 := Tryd.underlying162
  a139 := Tryd.isAgg162
  z139 := Tryd.sizeOf162
  v139 := Tryd.zeroValue162
  t146 := Tryd.underlying164
  a146 := Tryd.isAgg164
  z146 := Tryd.sizeOf164
  v146 := Tryd.zeroValue164
  g1 := by kernel_rfl
  g3 := by kernel_rfl
  g4 := by kernel_rfl }
open Go.RowKit Go.Lib in
/-- strings.Split. (LAID: no walk: one application.) -/
theorem Tryd.strings_Split (s sep : ByteArray) (m : Int) (w : World) (hs : s.size < 4294967281) (hm : w.cell? ⟨0, 0, none⟩ = some (.int .i64 m)) (h1 : 1 ≤ sep.size) :
    Calls Tryd.prog 86 #[.string s, .string sep] w fun e w' =>
      e = .returned (.slice (some ⟨w.heap.size, 0, none⟩) (Lib.countB s sep + 1) (Lib.countB s sep + 1)) ∧ w' = w.alloc (.cells ((Lib.splitB sep 0 (Lib.countB s sep) s).map Value.string).toArray 9) := Any.strings_Split Tryd.lays146 (by kernel_rfl) s sep m w hs hm h1
def Tryd.laysM146_ren : Go.Shelf.Ren := ⟨fun | 146 => 86 | 221 => 120 | 268 => 136 | 138 => 137 | 143 => 138 | 195 => 147 | 197 => 148 | 218 => 149 | 219 => 131 | 260 => 154 | 217 => 143 | 225 => 144 | 224 => 145 | 267 => 146 | 266 => 152 | 314 => 153 | n => n, fun | 9 => 9 | 31 => 66 | 3 => 3 | 4 => 4 | 0 => 0 | 105 => 156 | 21 => 21 | 5 => 5 | 46 => 140 | 119 => 159 | 139 => 162 | 138 => 161 | 146 => 164 | 51 => 163 | n => n, fun | 1 => 0 | 3 => 1 | 4 => 2 | n => n⟩
theorem Tryd.laysM146 : Go.Proofs.LaysM.n146 Tryd.prog Tryd.laysM146_ren := {
  mixed := by kernel_rfl
  f138 := Tryd.func137.trans (congrArg some (by kernel_rfl))
  f143 := Tryd.func138.trans (congrArg some (by kernel_rfl))
  f146 := Tryd.func86.trans (congrArg some (by kernel_rfl))
  f195 := Tryd.func147.trans (congrArg some (by kernel_rfl))
  f197 := Tryd.func148.trans (congrArg some (by kernel_rfl))
  f217 := Tryd.func143.trans (congrArg some (by kernel_rfl))
  f218 := Tryd.func149.trans (congrArg some (by kernel_rfl))
  f219 := Tryd.func131.trans (congrArg some (by kernel_rfl))
  f221 := Tryd.func120.trans (congrArg some (by kernel_rfl))
  f224 := Tryd.func145.trans (congrArg some (by kernel_rfl))
  f225 := Tryd.func144.trans (congrArg some (by kernel_rfl))
  f260 := Tryd.func154.trans (congrArg some (by kernel_rfl))
  f266 := Tryd.func152.trans (congrArg some (by kernel_rfl))
  f267 := Tryd.func146.trans (congrArg some (by kernel_rfl))
  f268 := Tryd.func136.trans (congrArg some (by kernel_rfl))
  f314 := Tryd.func153.trans (congrArg some (by kernel_rfl))
  t0 := Tryd.underlying0
  a0 := Tryd.isAgg0
  z0 := Tryd.sizeOf0
  v0 := Tryd.zeroValue0
  t3 := Tryd.underlying3
  a3 := Tryd.isAgg3
  z3 := Tryd.sizeOf3
  v3 := Tryd.zeroValue3
  t4 := Tryd.underlying4
  a4 := Tryd.isAgg4
  z4 := Tryd.sizeOf4
  v4 := Tryd.zeroValue4
  t5 := Tryd.underlying5
  a5 := Tryd.isAgg5
  z5 := Tryd.sizeOf5
  v5 := Tryd.zeroValue5
  t9 := Tryd.underlying9
  a9 := Tryd.isAgg9
  z9 := Tryd.sizeOf9
  v9 := Tryd.zeroValue9
  t21 := Tryd.underlying21
  a21 := Tryd.isAgg21
  z21 := Tryd.sizeOf21
  v21 := Tryd.zeroValue21
  t31 := Tryd.underlying66
  a31 := Tryd.isAgg66
  z31 := Tryd.sizeOf66
  v31 := Tryd.zeroValue66
  t46 := Tryd.underlying140
  a46 := Tryd.isAgg140
  z46 := Tryd.sizeOf140
  v46 := Tryd.zeroValue140
  t51 := Tryd.underlying163
  a51 := Tryd.isAgg163
  z51 := Tryd.sizeOf163
  v51 := Tryd.zeroValue163
  t105 := Tryd.underlying156
  a105 := Tryd.isAgg156
  z105 := Tryd.sizeOf156
  v105 := Tryd.zeroValue156
  t119 := Tryd.underlying159
  a119 := Tryd.isAgg159
  z119 := Tryd.sizeOf159
  t138 := Tryd.underlying161
  a138 := Tryd.isAgg161
  z138 := Tryd.sizeOf161
  v138 := Tryd.zeroValue161
  t139 := Tryd.underlying162
  a139 := Tryd.isAgg162
  z139 := Tryd.sizeOf162
  v139 := Tryd.zeroValue162
  t146 := Tryd.underlying164
  a146 := Tryd.isAgg164
  z146 := Tryd.sizeOf164
  v146 := Tryd.zeroValue164
  g1 := by kernel_rfl
  g3 := by kernel_rfl
  g4 := by kernel_rfl
  i0 := by kernel_rfl
  i3 := by kernel_rfl
  i4 := by kernel_rfl
  i5 := by kernel_rfl
  i9 := by kernel_rfl
  i21 := by kernel_rfl
  i31 := by kernel_rfl
  i46 := by kernel_rfl
  i51 := by kernel_rfl
  i105 := by kernel_rfl
  i138 := by kernel_rfl
  i139 := by kernel_rfl
  i146 := by kernel_rfl
  m1 := by kernel_rfl
  s1_3 := fun w h => Go.Proofs.cell_of_shapedOpen_int (zero := #[.int .i64 0]) (t := 3) h (of_decide_eq_true (by kernel_rfl)) (by kernel_rfl) rfl (by kernel_rfl) (by kernel_rfl) Tryd.underlying3
  m3 := by kernel_rfl
  m4 := by kernel_rfl }
def Tryd.lays260_ren : Go.Shelf.Ren := ⟨fun | 260 => 154 | n => n, fun | 9 => 9 | 21 => 21 | 3 => 3 | 4 => 4 | 5 => 5 | 119 => 159 | 0 => 0 | 46 => 140 | 139 => 162 | 138 => 161 | n => n, fun | 3 => 1 | 4 => 2 | n => n⟩
theorem Tryd.lays260 : Go.Proofs.Lays.n260 Tryd.prog Tryd.lays260_ren := {
  mixed := by kernel_rfl
  f260 := Tryd.func154.trans (congrArg some (by kernel_rfl))
  t0 := Tryd.underlying0
  a0 := Tryd.isAgg0
  z0 := Tryd.sizeOf0
  v0 := Tryd.zeroValue0
  t3 := Tryd.underlying3
  a3 := Tryd.isAgg3
  z3 := Tryd.sizeOf3
  v3 := Tryd.zeroValue3
  t4 := Tryd.underlying4
  a4 := Tryd.isAgg4
  z4 := Tryd.sizeOf4
  v4 := Tryd.zeroValue4
  t5 := Tryd.underlying5
  a5 := Tryd.isAgg5
  z5 := Tryd.sizeOf5
  v5 := Tryd.zeroValue5
  t9 := Tryd.underlying9
  a9 := Tryd.isAgg9
  z9 := Tryd.sizeOf9
  v9 := Tryd.zeroValue9
  t21 := Tryd.underlying21
  a21 := Tryd.isAgg21
  z21 := Tryd.sizeOf21
  v21 := Tryd.zeroValue21
  t46 := Tryd.underlying140
  a46 := Tryd.isAgg140
  z46 := Tryd.sizeOf140
  v46 := Tryd.zeroValue140
  t119 := Tryd.underlying159
  a119 := Tryd.isAgg159
  z119 := Tryd.sizeOf159
  t138 := Tryd.underlying161
  a138 := Tryd.isAgg161
  z138 := Tryd.sizeOf161
  v138 := Tryd.zeroValue161
  t139 := Tryd.underlying162
  a139 := Tryd.isAgg162
  z139 := Tryd.sizeOf162
  v139 := Tryd.zeroValue162
  g3 := by kernel_rfl
  g4 := by kernel_rfl }
end Go.Proofs

namespace Go.Proofs.YtdicaljeegaieaaDoor.L
open Go.RowKit Go.Proofs.YtdicaljeegaieaaDoorW.PrintWords Go.Proofs.YtdicaljeegaieaaDoorW.PrintLast Go.Proofs.YtdicaljeegaieaaDoorW.PrintMore
set_option linter.unusedVariables false
set_option linter.unusedSimpArgs false

def slash : ByteArray := ⟨#[47]⟩
def namesOf (s : ByteArray) : List ByteArray := Lib.splitB slash 0 (Lib.countB s slash) s
def nameK (k : Nat) (s : ByteArray) : Bool := (impl_NameOk.f k s).getD false
def impl_stepsOf.f (k : Nat) (a0 : ByteArray) : Option (List ByteArray × Bool × Bool) :=
  (strings_CutPrefix.f a0 ⟨#[47, 47]⟩).bind fun t =>
    if t.1.size < 4294967281 ∧ (namesOf t.1).length = Lib.countB t.1 slash + 1 ∧ (namesOf t.1).length ≤ 4294967281 then
      if a0.size > 20000 then some ([], false, false)
      else if (namesOf t.1).length > 6 then some ([], false, false)
      else if (namesOf t.1).all (fun s => (impl_NameOk.f k s).isSome) = true then
        if (namesOf t.1).any (fun s => !nameK k s) = true then some ([], false, false) else some (namesOf t.1, t.2, true)
      else none
    else none
theorem steps_not (k : Nat) (s : ByteArray) (h : (impl_NameOk.f k s).isSome = true) (w : World) :
    Calls Tryd.prog 88 #[.string s] w fun e w' => e = .returned (.bool (!nameK k s)) ∧ ∃ q, w' = w.drewN q := by
  obtain ⟨b, hb⟩ := Option.isSome_iff_exists.1 h
  have e : nameK k s = b := by unfold nameK; rw [hb]; rfl
  have HB := Lib.hid hb
  clear hb h
  rw [e]
  go_enter Tryd.func88, Tryd.ntmps88
  go_wp2_with (go_at_call 76; refine (impl_NameOk.calls k s b _ HB.out).mono ?_; rintro e w' ⟨rfl, ⟨nd, rfl⟩⟩)
  go_ret
  exact ⟨rfl, nd, rfl⟩
set_option maxHeartbeats 1000000 in
theorem steps_index (p : ByteArray → Bool) (b n c : Nat) (zs : List ByteArray) (w : World)
    (hp : ∀ x ∈ zs, ∀ q, Calls Tryd.prog 88 #[.string x] (w.drewN q) fun e w' => e = .returned (.bool (p x)) ∧ ∃ q', w' = (w.drewN q).drewN q')
    (hz : n = zs.length) (hbig : n ≤ 9223372036854775807) (hc : ∀ j, j < zs.length → w.cell? ⟨b, j, none⟩ = some (.string zs[j]!)) :
    Calls Tryd.prog 121 #[.slice (some ⟨b, 0, none⟩) n c, .func (.func 88) #[] #[]] w fun e w' => e = .returned (.int .i64 (Lib.idxBy (fun _ y => p y) (zs.take n) default)) ∧ ∃ q, w' = w.drewN q := by
  have eg := enters_of Tryd.func88 (by kernel_rfl) rfl
  have HZ := Lib.hid hz
  clear hz
  go_enter Tryd.func121, Tryd.ntmps121
  go_wp2
  go_loopg [5, 8] n (fun gg _ s8 wr => ∃ kk q : Nat, kk ≤ n ∧ n - kk ≤ gg ∧ s8 = .int .i64 kk ∧ wr = w.drewN q ∧ Aside (∀ j, j < kk → p zs[j]! = false))
  case atStart => exact ⟨0, 0, Nat.zero_le _, by omega, rfl, rfl, fun j hj => absurd hj (Nat.not_lt_zero _)⟩
  case round =>
    obtain ⟨kk, q, hkk, hg, rfl, rfl, A⟩ := hrel
    by_cases hlt : kk < n
    · have hltz : (kk : Int) < (n : Int) := by omega
      have hcell : w.cell? ⟨b, kk, none⟩ = some (.string zs[kk]!) := hc kk (by have := HZ.out; omega)
      have hmem : zs[kk]! ∈ zs := by rw [getElem!_pos zs kk (by have := HZ.out; omega)]; exact List.getElem_mem _
      have hcall := hp zs[kk]! hmem
      clear hc hp hmem
      generalize hy : zs[kk]! = y at hcell hcall
      have B : Aside (zs[kk]! = y) := hy
      clear hy
      cases hq : p y with
      | true =>
        rw [hq] at hcall
        go_wp2_with (go_at_call 88; refine (hcall _).mono ?_; rintro e w' ⟨rfl, q', rfl⟩)
        go_ret
        refine ⟨?_, _, rfl⟩
        rw [Lib.idxBy_hit (fun _ y => p y) zs n kk default hlt (by have := HZ.out; omega) (by show p zs[kk]! = true; rw [B.out]; exact hq) A.out]
        rfl
      | false =>
        rw [hq] at hcall
        go_wp2_with (go_at_call 88; refine (hcall _).mono ?_; rintro e w' ⟨rfl, q', rfl⟩)
        go_roundg (n - (kk + 1))
        case measure => omega
        case rel =>
          refine ⟨kk + 1, _, by omega, by omega, by go_num, rfl, (show Aside _ from fun j hj => ?_)⟩
          by_cases e : j = kk
          · subst e
            rw [B.out]; exact hq
          · exact A.out j (by omega)
    · have hltz : ¬ (kk : Int) < (n : Int) := by omega
      have : kk = n := by omega
      subst this
      go_wp2
      go_ret
      refine ⟨?_, q, rfl⟩
      rw [Lib.idxBy_miss (fun _ y => p y) zs kk default A.out]
      rfl
theorem steps_any (p : ByteArray → Bool) (b n c : Nat) (zs : List ByteArray) (w : World)
    (hp : ∀ x ∈ zs, ∀ q, Calls Tryd.prog 88 #[.string x] (w.drewN q) fun e w' => e = .returned (.bool (p x)) ∧ ∃ q', w' = (w.drewN q).drewN q')
    (hz : n = zs.length) (hbig : n ≤ 9223372036854775807) (hc : ∀ j, j < zs.length → w.cell? ⟨b, j, none⟩ = some (.string zs[j]!)) :
    Calls Tryd.prog 87 #[.slice (some ⟨b, 0, none⟩) n c, .func (.func 88) #[] #[]] w fun e w' => e = .returned (.bool (zs.any p)) ∧ ∃ q, w' = w.drewN q := by
  have ez : zs.any p = decide (0 ≤ Lib.idxBy (fun _ y => p y) (zs.take n) default) := by
    rw [hz, List.take_length]; exact (Lib.idxBy_nonneg_iff (fun _ y => p y) zs default).symm
  rw [ez]
  have HZ := Lib.hid hz
  clear hz ez
  go_enter Tryd.func87, Tryd.ntmps87
  go_wp2_with (go_at_call 121; refine (steps_index p b n c zs _ hp HZ.out hbig hc).mono ?_; rintro e w' ⟨rfl, q, rfl⟩)
  go_ret
  exact ⟨rfl, q, rfl⟩
theorem R_names (L : List ByteArray) (w : World) (n : Nat) (hn : n = L.length) (hbig : n ≤ 9223372036854775807) :
    Kd.R Kd.string 9 (w.alloc (.cells (L.map Value.string).toArray 9)) w.heap.size (fun _ => True) (.slice (some ⟨w.heap.size, 0, none⟩) n n) L := by
  refine ⟨fun _ _ => trivial, L.map Value.string, ?_, ?_⟩
  · have h2 := World.ownsRow_lit (base := w.heap.size) (e := 9) (size := 1) w (L.map Value.string).toArray n (Nat.le_refl _) (by simpa [maxLen] using hbig) (by simp [hn])
    subst hn
    have h3 : (w.alloc (.cells (L.map Value.string).toArray 9)).ownsRow w.heap.size 9 1 (.slice (some ⟨w.heap.size, 0, none⟩) L.length L.length) L.length (L.map Value.string) := by simpa using h2
    exact h3
  · refine ⟨by simp [Kd.string, Kd.scalar], fun j x hj => ?_⟩
    obtain ⟨hjl, hx⟩ := List.getElem?_eq_some_iff.1 hj
    subst hx
    simp only [Kd.string, Kd.scalar, Nat.mul_one]
    rw [List.drop_eq_getElem_cons (by simpa using hjl)]
    simp
theorem cells_names (L : List ByteArray) (w : World) (q : Nat) : ∀ j, j < L.length → ((w.alloc (.cells (L.map Value.string).toArray 9)).drewN q).cell? ⟨w.heap.size, j, none⟩ = some (.string L[j]!) := by
  intro j hj
  rw [getElem!_pos L j hj]
  exact (blk_cell (blk_drewN (blk_new w _) q) j).trans (by simp [hj])
set_option maxHeartbeats 1000000 in
theorem impl_stepsOf.calls (k : Nat) (a0 : ByteArray) (r1 : List ByteArray) (r2 : Bool) (r3 : Bool) (w : World) (hT : Gl w) (h : impl_stepsOf.f k a0 = some (r1, r2, r3)) :
    Calls Tryd.prog 43 #[.string a0] w fun e w' => ∃ v0_ : Value, e = .returned (.tuple #[v0_, .bool r2, .bool r3]) ∧ Kd.R Kd.string 9 w' w.heap.size (fun _ => True) v0_ r1 ∧ Below w.heap.size w w' := by
  obtain ⟨m, hm⟩ := hT.most
  have HM := Lib.hid hm
  clear hm hT
  unfold impl_stepsOf.f at h
  obtain ⟨⟨t1, t2⟩, hcut, h⟩ := Option.bind_eq_some_iff.1 h
  have HC := Lib.hid hcut
  clear hcut
  simp only at h
  by_cases c0 : t1.size < 4294967281 ∧ (namesOf t1).length = Lib.countB t1 slash + 1 ∧ (namesOf t1).length ≤ 4294967281
  · rw [if_pos c0] at h
    obtain ⟨hs, hlen, hmost⟩ := c0
    obtain ⟨L, hL⟩ : ∃ L, namesOf t1 = L := ⟨_, rfl⟩
    obtain ⟨n, hn⟩ : ∃ n, Lib.countB t1 slash + 1 = n := ⟨_, rfl⟩
    rw [hL] at h hlen hmost
    rw [hn] at hlen
    have HS : ∀ q, Calls Tryd.prog 86 #[.string t1, .string ⟨#[47]⟩] (w.drewN q) fun e w' => e = .returned (.slice (some ⟨(w.drewN q).heap.size, 0, none⟩) n n) ∧ w' = (w.drewN q).alloc (.cells (L.map Value.string).toArray 9) := by
      intro q
      have := Tryd.strings_Split t1 slash m (w.drewN q) hs HM.out (by decide)
      rw [hn] at this
      unfold namesOf at hL
      rw [← hL]
      exact this
    have hbig : n ≤ 9223372036854775807 := by omega
    have HL := Lib.hid hlen
    clear hL hn hlen
    by_cases c1 : a0.size > 20000
    · rw [if_pos c1] at h
      simp only [Option.some.injEq, Prod.mk.injEq] at h
      obtain ⟨rfl, rfl, rfl⟩ := h
      have d1 : decide ((20000 : Int) < (a0.size : Int)) = true := decide_eq_true (by omega)
      go_enter Tryd.func43, Tryd.ntmps43
      go_wp2_with (first | (go_at_call 85; refine (strings_CutPrefix.calls a0 _ t1 t2 _ HC.out).mono ?_; rintro e w' ⟨rfl, ⟨nd, rfl⟩⟩) | (go_at_call 86; refine (HS _).mono ?_; rintro e w' ⟨rfl, rfl⟩))
      go_ret3
      exact ⟨_, rfl, Kd.R_nil _ _ _ _ _, pw_below_drewN (below_alloc (Below.refl _ _) _) _⟩
    · rw [if_neg c1] at h
      have d1 : decide ((20000 : Int) < (a0.size : Int)) = false := decide_eq_false (by omega)
      by_cases c2 : L.length > 6
      · rw [if_pos c2] at h
        simp only [Option.some.injEq, Prod.mk.injEq] at h
        obtain ⟨rfl, rfl, rfl⟩ := h
        have d2 : decide ((6 : Int) < (n : Int)) = true := decide_eq_true (by have := HL.out; omega)
        go_enter Tryd.func43, Tryd.ntmps43
        go_wp2_with (first | (go_at_call 85; refine (strings_CutPrefix.calls a0 _ t1 t2 _ HC.out).mono ?_; rintro e w' ⟨rfl, ⟨nd, rfl⟩⟩) | (go_at_call 86; refine (HS _).mono ?_; rintro e w' ⟨rfl, rfl⟩))
        go_ret3
        exact ⟨_, rfl, Kd.R_nil _ _ _ _ _, pw_below_drewN (below_alloc (Below.refl _ _) _) _⟩
      · rw [if_neg c2] at h
        have d2 : decide ((6 : Int) < (n : Int)) = false := decide_eq_false (by have := HL.out; omega)
        by_cases c3 : L.all (fun s => (impl_NameOk.f k s).isSome) = true
        · rw [if_pos c3] at h
          have HA : ∀ q, Calls Tryd.prog 87 #[.slice (some ⟨w.heap.size, 0, none⟩) n n, .func (.func 88) #[] #[]] ((w.alloc (.cells (L.map Value.string).toArray 9)).drewN q) fun e w' => e = .returned (.bool (L.any fun s => !nameK k s)) ∧ ∃ q', w' = ((w.alloc (.cells (L.map Value.string).toArray 9)).drewN q).drewN q' := fun q =>
            steps_any (fun s => !nameK k s) w.heap.size n n L _ (fun x hx q2 => steps_not k x (List.all_eq_true.1 c3 x hx) _) HL.out.symm hbig (cells_names L w q)
          clear c3
          cases hq : (L.any fun s => !nameK k s) with
          | true =>
            rw [hq] at h HA
            simp only [if_true, Option.some.injEq, Prod.mk.injEq] at h
            obtain ⟨rfl, rfl, rfl⟩ := h
            clear hq
            go_enter Tryd.func43, Tryd.ntmps43
            go_wp2_with (first | (go_at_call 85; refine (strings_CutPrefix.calls a0 _ t1 t2 _ HC.out).mono ?_; rintro e w' ⟨rfl, ⟨nd, rfl⟩⟩) | (go_at_call 86; refine (HS _).mono ?_; rintro e w' ⟨rfl, rfl⟩) | (go_at_call 87; refine (HA _).mono ?_; rintro e w' ⟨rfl, q', rfl⟩))
            go_ret3
            exact ⟨_, rfl, Kd.R_nil _ _ _ _ _, pw_below_drewN (below_alloc (Below.refl _ _) _) _⟩
          | false =>
            rw [hq] at h HA
            simp only [Bool.false_eq_true, if_false, Option.some.injEq, Prod.mk.injEq] at h
            obtain ⟨rfl, rfl, rfl⟩ := h
            clear hq
            go_enter Tryd.func43, Tryd.ntmps43
            go_wp2_with (first | (go_at_call 85; refine (strings_CutPrefix.calls a0 _ t1 t2 _ HC.out).mono ?_; rintro e w' ⟨rfl, ⟨nd, rfl⟩⟩) | (go_at_call 86; refine (HS _).mono ?_; rintro e w' ⟨rfl, rfl⟩) | (go_at_call 87; refine (HA _).mono ?_; rintro e w' ⟨rfl, q', rfl⟩))
            go_ret3
            exact ⟨_, rfl, Kd.R_drewN (R_names L w n HL.out.symm hbig) _, pw_below_drewN (below_alloc (Below.refl _ _) _) _⟩
        · rw [if_neg c3] at h
          cases h
  · rw [if_neg c0] at h
    cases h
end Go.Proofs.YtdicaljeegaieaaDoor.L

namespace Go.Proofs.YtdicaljeegaieaaDoor.L
open Go.RowKit Go.Proofs.YtdicaljeegaieaaDoorW.PrintWords Go.Proofs.YtdicaljeegaieaaDoorW.PrintLast Go.Proofs.YtdicaljeegaieaaDoorW.PrintMore
attribute [local go_sem] max2_int min2_int max_two min_two max_three min_three max_four min_four
set_option linter.unusedVariables false
set_option linter.unusedSimpArgs false

/-! ### impl_PathOk: function 10 -/
def impl_PathOk.f (k : Nat) (a0 : ByteArray) : Option (Bool) := (impl_stepsOf.f k a0).bind fun bt121 => (some bt121.2.2)
set_option maxHeartbeats 8000000 in
set_option maxRecDepth 100000 in
theorem impl_PathOk.calls (k : Nat) (a0 : ByteArray) (r : Bool) (w : World) (hT : Gl w) (h : impl_PathOk.f k a0 = some r) :
  Calls Tryd.prog 10 #[.string a0] w fun e w' => e = .returned (.bool r) ∧ Below w.heap.size w w' := by
 have HT := Aside0.mk hT
 clear hT
 have HB := Aside0.mk (Below.refl w.heap.size w)
 have H : ((impl_stepsOf.f k a0).bind fun bt121 => (some bt121.2.2)) = some r := h
 clear h
 replace H := Option.bind_eq_some_iff.mp H
 obtain ⟨⟨t121, t122, t123⟩, A20, H⟩ := H
 replace H : (some t123) = some r := H
 have A2 := Aside0.mk A20
 clear A20
 obtain rfl := Option.some.inj H
 go_enter Tryd.func10, Tryd.ntmps10
 go_wp2_with (first | ((with_reducible refine gate_callee (f := 43) rfl ?_); refine goesL_ (some 8) rfl rfl Tryd.func43 (by kernel_rfl) rfl #[.string a0] rfl (by (try simp only [List.map_toArray, List.map_cons, List.map_nil]); first | done | rfl | (simp only [List.length_drop, List.length_take]; rfl)) ?_; (with_reducible refine (impl_stepsOf.calls k a0 t121 t122 t123 _ ?side1 A2.out).mono ?_); (case side1 => exact Gl_below HT.out (by repeat (first | (with_reducible first | exact HB.out | apply below_alloc | apply pw_below_drewN | apply below_drew1) | exact HB.out))); rintro e w3 ⟨v124, rfl, ho0, hb⟩; refine ⟨_, rfl, ?_⟩; have n0_ := Aside0.mk (Kd.R_lower ho0 (below_size (by repeat (first | (with_reducible first | exact HB.out | apply below_alloc | apply pw_below_drewN | apply below_drew1) | exact HB.out)))); have n1_ := Aside0.mk (below_step (by repeat (first | (with_reducible first | exact HB.out | apply below_alloc | apply pw_below_drewN | apply below_drew1) | exact HB.out)) hb); clear HB; have HO125 := n0_; have HB := n1_; clear n0_ n1_; (try clear hb); (try clear hb2); (try clear hk); (try clear hi); (try clear ho0)))
 go_ret
 exact ⟨by first | rfl | (simp [errW_none, errW_some] <;> rfl) | (simp [*, errW_none, errW_some] <;> rfl), by repeat (first | (with_reducible first | exact HB.out | apply below_alloc | apply pw_below_drewN | apply below_drew1) | exact HB.out)⟩

/-! ### laws_FnExactPathOk: function 3 -/
def laws_FnExactPathOk.f (k : Nat) (a0 : ByteArray) : Option (Bool) := if (a0.size : Int) > 1048576 then (some true) else ((spec_PathOk.f k a0).bind fun t126 => ((impl_PathOk.f k a0).bind fun t127 => (if (t127 != t126) = true then (some false) else (some true))))
set_option maxHeartbeats 8000000 in
set_option maxRecDepth 100000 in
theorem laws_FnExactPathOk.calls (k : Nat) (a0 : ByteArray) (r : Bool) (w : World) (hT : Gl w) (h : laws_FnExactPathOk.f k a0 = some r) :
  Calls Tryd.prog 3 #[.string a0] w fun e w' => e = .returned (.bool r) ∧ Below w.heap.size w w' := by
 have HT := Aside0.mk hT
 clear hT
 have HB := Aside0.mk (Below.refl w.heap.size w)
 have H : (if (a0.size : Int) > 1048576 then (some true) else ((spec_PathOk.f k a0).bind fun t126 => ((impl_PathOk.f k a0).bind fun t127 => (if (t127 != t126) = true then (some false) else (some true))))) = some r := h
 clear h
 by_cases c2 : (a0.size : Int) > 1048576
 ·rw [if_pos c2] at H
  have c2b0 : decide (1048576 < (a0.size : Int)) = true := decide_eq_true c2
  have c2b1 : decide (1048576 < a0.size) = true := decide_eq_true (by omega)
  clear c2
  obtain rfl := Option.some.inj H
  go_enter Tryd.func3, Tryd.ntmps3
  go_wp2
  go_ret
  exact ⟨by first | rfl | (simp [errW_none, errW_some] <;> rfl) | (simp [*, errW_none, errW_some] <;> rfl), by repeat (first | (with_reducible first | exact HB.out | apply below_alloc | apply pw_below_drewN | apply below_drew1) | exact HB.out)⟩
 ·rw [if_neg c2] at H
  have c2b0 : decide (1048576 < (a0.size : Int)) = false := decide_eq_false c2
  have c2b1 : decide (1048576 < a0.size) = false := decide_eq_false (by omega)
  clear c2
  replace H := Option.bind_eq_some_iff.mp H
  obtain ⟨t126, A30, H⟩ := H
  replace H : ((impl_PathOk.f k a0).bind fun t127 => (if (t127 != t126) = true then (some false) else (some true))) = some r := H
  have A3 := Aside0.mk A30
  clear A30
  replace H := Option.bind_eq_some_iff.mp H
  obtain ⟨t127, A40, H⟩ := H
  replace H : (if (t127 != t126) = true then (some false) else (some true)) = some r := H
  have A4 := Aside0.mk A40
  clear A40
  by_cases c5 : (t127 != t126) = true
  ·rw [if_pos c5] at H
   have c5b0 : (t127 != t126) = true := c5
   (try (have c5b1 : decide (t127 = t126) = false := by simpa using c5))
   (try (have c5b2 : (t127 == t126) = false := by simpa using c5))
   (try (have c5b3 : ¬ (t127 = t126) := by simpa using c5))
   clear c5
   obtain rfl := Option.some.inj H
   go_enter Tryd.func3, Tryd.ntmps3
   go_wp2_with (first | ((with_reducible refine gate_callee (f := 9) rfl ?_); refine goesL_ (some 9) rfl rfl Tryd.func9 (by kernel_rfl) rfl #[.string a0] rfl (by (try simp only [List.map_toArray, List.map_cons, List.map_nil]); first | done | rfl | (simp only [List.length_drop, List.length_take]; rfl)) ?_; (with_reducible refine (spec_PathOk.calls k a0 t126 _ A3.out).mono ?_); rintro e w6 ⟨rfl, hb⟩; refine ⟨_, rfl, ?_⟩; have n0_ := Aside0.mk (below_step (by repeat (first | (with_reducible first | exact HB.out | apply below_alloc | apply pw_below_drewN | apply below_drew1) | exact HB.out)) hb); clear HB; have HB := n0_; clear n0_; (try clear hb); (try clear hb2); (try clear hk); (try clear hi)) | ((with_reducible refine gate_callee (f := 10) rfl ?_); refine goesL_ (some 11) rfl rfl Tryd.func10 (by kernel_rfl) rfl #[.string a0] rfl (by (try simp only [List.map_toArray, List.map_cons, List.map_nil]); first | done | rfl | (simp only [List.length_drop, List.length_take]; rfl)) ?_; (with_reducible refine (impl_PathOk.calls k a0 t127 _ ?side1 A4.out).mono ?_); (case side1 => exact Gl_below HT.out (by repeat (first | (with_reducible first | exact HB.out | apply below_alloc | apply pw_below_drewN | apply below_drew1) | exact HB.out))); rintro e w7 ⟨rfl, hb⟩; refine ⟨_, rfl, ?_⟩; have n0_ := Aside0.mk (below_step (by repeat (first | (with_reducible first | exact HB.out | apply below_alloc | apply pw_below_drewN | apply below_drew1) | exact HB.out)) hb); clear HB; have HB := n0_; clear n0_; (try clear hb); (try clear hb2); (try clear hk); (try clear hi)))
   go_ret
   exact ⟨by first | rfl | (simp [errW_none, errW_some] <;> rfl) | (simp [*, errW_none, errW_some] <;> rfl), by repeat (first | (with_reducible first | exact HB.out | apply below_alloc | apply pw_below_drewN | apply below_drew1) | exact HB.out)⟩
  ·rw [if_neg c5] at H
   have c5b0 : (t127 != t126) = false := by simpa using c5
   (try (have c5b1 : decide (t127 = t126) = true := by simpa using c5))
   (try (have c5b2 : (t127 == t126) = true := by simpa using c5))
   clear c5
   obtain rfl := Option.some.inj H
   go_enter Tryd.func3, Tryd.ntmps3
   go_wp2_with (first | ((with_reducible refine gate_callee (f := 9) rfl ?_); refine goesL_ (some 9) rfl rfl Tryd.func9 (by kernel_rfl) rfl #[.string a0] rfl (by (try simp only [List.map_toArray, List.map_cons, List.map_nil]); first | done | rfl | (simp only [List.length_drop, List.length_take]; rfl)) ?_; (with_reducible refine (spec_PathOk.calls k a0 t126 _ A3.out).mono ?_); rintro e w8 ⟨rfl, hb⟩; refine ⟨_, rfl, ?_⟩; have n0_ := Aside0.mk (below_step (by repeat (first | (with_reducible first | exact HB.out | apply below_alloc | apply pw_below_drewN | apply below_drew1) | exact HB.out)) hb); clear HB; have HB := n0_; clear n0_; (try clear hb); (try clear hb2); (try clear hk); (try clear hi)) | ((with_reducible refine gate_callee (f := 10) rfl ?_); refine goesL_ (some 11) rfl rfl Tryd.func10 (by kernel_rfl) rfl #[.string a0] rfl (by (try simp only [List.map_toArray, List.map_cons, List.map_nil]); first | done | rfl | (simp only [List.length_drop, List.length_take]; rfl)) ?_; (with_reducible refine (impl_PathOk.calls k a0 t127 _ ?side1 A4.out).mono ?_); (case side1 => exact Gl_below HT.out (by repeat (first | (with_reducible first | exact HB.out | apply below_alloc | apply pw_below_drewN | apply below_drew1) | exact HB.out))); rintro e w9 ⟨rfl, hb⟩; refine ⟨_, rfl, ?_⟩; have n0_ := Aside0.mk (below_step (by repeat (first | (with_reducible first | exact HB.out | apply below_alloc | apply pw_below_drewN | apply below_drew1) | exact HB.out)) hb); clear HB; have HB := n0_; clear n0_; (try clear hb); (try clear hb2); (try clear hk); (try clear hi)))
   go_ret
   exact ⟨by first | rfl | (simp [errW_none, errW_some] <;> rfl) | (simp [*, errW_none, errW_some] <;> rfl), by repeat (first | (with_reducible first | exact HB.out | apply below_alloc | apply pw_below_drewN | apply below_drew1) | exact HB.out)⟩

/-- THE ONE PURE STATEMENT of laws_FnExactPathOk: yours. -/
def laws_FnExactPathOk.Pure : Prop := ∀ (a0 : ByteArray), a0.size ≤ 140737488351232 → ∃ k, laws_FnExactPathOk.f k a0 = some true
theorem laws_FnExactPathOk.walk (P : laws_FnExactPathOk.Pure) (a0 : ByteArray) (w : World) (hT : Gl w) (w0 : a0.size ≤ 140737488351232) :
  Calls Tryd.prog 3 #[.string a0] w fun e w' => e = .returned (.bool true) ∧ Below w.heap.size w w' := by
 obtain ⟨k, h⟩ := P a0 w0
 refine (laws_FnExactPathOk.calls k a0 true w hT h).mono ?_
 rintro e w' ⟨rfl, hd⟩
 exact ⟨rfl, hd⟩

end Go.Proofs.YtdicaljeegaieaaDoor.L

namespace Go.Proofs.YtdicaljeegaieaaDoor.Pure
open Go.RowKit Go.Proofs.YtdicaljeegaieaaDoor.L Go.Proofs.YtdicaljeegaieaaDoorW.PrintWords Go.Proofs.YtdicaljeegaieaaDoorW.PrintLast Go.Proofs.YtdicaljeegaieaaDoorW.PrintMore
set_option linter.unusedVariables false
set_option linter.unusedSimpArgs false

theorem ba_ext {a b : ByteArray} (h : a.data.toList = b.data.toList) : a = b := by
  cases a; cases b; simp only [ByteArray.mk.injEq]; exact Array.toList_inj.mp h
theorem ba_app (a b : ByteArray) : (a ++ b).data.toList = a.data.toList ++ b.data.toList := by
  rw [ByteArray.data_append, Array.toList_append]
theorem sz (a : ByteArray) : a.size = a.data.toList.length := (data_length a).symm
theorem w64 {n : Int} (h : -9223372036854775808 ≤ n) (h' : n ≤ 9223372036854775807) : wrap64 n = n := by unfold wrap64; omega
theorem bt_nat (s : ByteArray) (i : Nat) (h : i < s.data.toList.length) : bt s (i : Int) = ((s.data.toList[i]).toNat : Int) := by
  have h' : i < s.size := by rw [sz]; exact h
  unfold bt
  rw [dif_pos (by simpa using h')]
  simp only [Int.toNat_natCast]
  rfl
theorem first_bt (s : ByteArray) (b : UInt8) (l : List UInt8) (h : s.data.toList = b :: l) : bt s 0 = (b.toNat : Int) := by
  have := bt_nat s 0 (by rw [h]; simp)
  simp only [h, Int.ofNat_zero, List.getElem_cons_zero] at this
  simpa using this
def mkB (l : List UInt8) : ByteArray := ⟨l.toArray⟩
theorem mkB_list (l : List UInt8) : (mkB l).data.toList = l := by simp [mkB]
theorem mkB_of (s : ByteArray) : mkB s.data.toList = s := ba_ext (mkB_list _)
theorem byte_is (b : UInt8) (n : Nat) (hn : n < 256) : ((b.toNat : Int) = (n : Int)) ↔ b = UInt8.ofNat n := by
  constructor
  · intro h
    apply UInt8.toNat.inj
    rw [UInt8.toNat_ofNat']
    omega
  · intro h; subst h; rw [UInt8.toNat_ofNat']; omega
/-- The pieces of a row of bytes between strokes, the first one behind what was gathered. -/
def segs : List UInt8 → List UInt8 → List (List UInt8)
  | acc, [] => [acc]
  | acc, b :: t => if b = 47 then acc :: segs [] t else segs (acc ++ [b]) t
theorem segs_miss : ∀ (l acc : List UInt8), (∀ k : Nat, l[k]? ≠ some 47) → segs acc l = [acc ++ l]
  | [], acc, _ => by simp [segs]
  | b :: t, acc, h => by
    have hb : b ≠ 47 := fun e => h 0 (by simp [e])
    have ht : ∀ k : Nat, t[k]? ≠ some 47 := fun k => by simpa using h (k + 1)
    unfold segs
    rw [if_neg hb, segs_miss t (acc ++ [b]) ht]
    simp
theorem segs_hit : ∀ (i : Nat) (l acc : List UInt8), l[i]? = some 47 → (∀ k : Nat, k < i → l[k]? ≠ some 47) → segs acc l = (acc ++ l.take i) :: segs [] (l.drop (i + 1))
  | i, [], acc, h, _ => by simp at h
  | 0, b :: t, acc, h, _ => by
    have hb : b = 47 := by simpa using h
    rw [segs, if_pos hb]
    simp
  | i + 1, b :: t, acc, h, h2 => by
    have hb : b ≠ 47 := fun e => h2 0 (by omega) (by simp [e])
    have h' : t[i]? = some 47 := by simpa using h
    have h2' : ∀ k : Nat, k < i → t[k]? ≠ some 47 := fun k hk => by simpa using h2 (k + 1) (by omega)
    rw [segs, if_neg hb, segs_hit i t (acc ++ [b]) h' h2']
    simp
theorem slash_size : slash.size = 1 := rfl
theorem slash_index (s : ByteArray) : Lib.indexB s slash = Lib.indexByte s.data.toList 47 := by
  rw [Lib.one s slash slash_size]
  rfl
theorem names_of_aux : ∀ (n : Nat) (s : ByteArray), s.size ≤ n → (namesOf s).map (fun x => x.data.toList) = segs [] s.data.toList := by
  intro n
  induction n with
  | zero =>
    intro s hs
    rcases Lib.indexB_cases s slash with hix | ⟨i, _, hroom⟩
    · unfold namesOf
      rw [Lib.splitB_miss slash 0 _ s hix]
      rw [slash_index] at hix
      rw [segs_miss _ _ (Lib.indexByte_none hix)]
      simp
    · rw [slash_size] at hroom; omega
  | succ n ih =>
    intro s hs
    rcases Lib.indexB_cases s slash with hix | ⟨i, hix, hroom⟩
    · unfold namesOf
      rw [Lib.splitB_miss slash 0 _ s hix]
      rw [slash_index] at hix
      rw [segs_miss _ _ (Lib.indexByte_none hix)]
      simp
    · rw [slash_size] at hroom
      have e2 : (s.extract (i + 1) s.size).size = s.size - (i + 1) := by rw [ByteArray.size_extract]; omega
      have := ih (s.extract (i + 1) s.size) (by omega)
      unfold namesOf at this ⊢
      rw [Lib.countB_hit s slash i (by decide) hix, Nat.add_comm, Lib.splitB_hit slash 0 _ s i hix]
      rw [slash_size, List.map_cons, this]
      rw [slash_index] at hix
      obtain ⟨h1, h2⟩ := Lib.indexByte_some hix
      rw [segs_hit i _ [] h1 h2]
      congr 1
      · simp
      · rw [Lib.extract_to_end]
theorem names_of (s : ByteArray) : (namesOf s).map (fun x => x.data.toList) = segs [] s.data.toList := names_of_aux s.size s (Nat.le_refl _)
theorem names_len (s : ByteArray) : (namesOf s).length = Lib.countB s slash + 1 := Lib.splitB_all slash (by decide) 0 _ s rfl
theorem names_most (s : ByteArray) : (namesOf s).length ≤ s.size + 1 := by
  rw [names_len]
  have := Lib.countB_le slash (by decide) s.size s (Nat.le_refl _)
  omega

/-- A row of bytes that is a name. -/
def fstB (b : UInt8) : Bool := decide (97 ≤ b.toNat ∧ b.toNat ≤ 122) || decide (65 ≤ b.toNat ∧ b.toNat ≤ 90) || decide (b.toNat = 95)
def moreB (b : UInt8) : Bool := fstB b || decide (48 ≤ b.toNat ∧ b.toNat ≤ 57) || decide (b.toNat = 46) || decide (b.toNat = 45)
def nameB : List UInt8 → Bool
  | [] => false
  | b :: t => fstB b && t.all moreB && decide (t.length + 1 ≤ 40)
theorem u8_all {p : UInt8 → Prop} (h : ∀ n : Fin 256, p (UInt8.ofNat n.val)) (b : UInt8) : p b := by
  have := h ⟨b.toNat, b.toNat_lt⟩
  simpa using this
theorem first_f (b : UInt8) : spec_l1First.f (b.toNat : Int) = some (fstB b) := by
  revert b
  refine u8_all ?_
  decide +kernel
theorem more_f (b : UInt8) : spec_l1More.f (b.toNat : Int) = some (moreB b) := by
  revert b
  refine u8_all ?_
  decide +kernel
theorem spec_name_l0 (s : ByteArray) (hs : s.data.toList.length ≤ 9223372036854775806) : ∀ (n i : Nat), i + n = s.data.toList.length →
    Ev (fun k => spec_NameOk.l0 k s (i : Int)) ((s.data.toList.drop i).all moreB) := by
  intro n
  induction n with
  | zero =>
    intro i hi
    refine Ev.step (f := fun _ => some true) (fun k => ?_) ?_
    · unfold spec_NameOk.l0
      rw [if_neg (by rw [sz]; omega)]
    · rw [List.drop_of_length_le (by omega)]; exact Ev.now _
  | succ n ih =>
    intro i hi
    have hlt : i < s.data.toList.length := by omega
    have e : spec_l1More.f (bt s (i : Int)) = some (moreB (s.data.toList[i])) := by rw [bt_nat s i hlt]; exact more_f _
    have hd : s.data.toList.drop i = s.data.toList[i] :: s.data.toList.drop (i + 1) := List.drop_eq_getElem_cons hlt
    have w : wrap64 ((i : Int) + 1) = ((i + 1 : Nat) : Int) := by rw [w64] <;> omega
    by_cases c : moreB (s.data.toList[i]) = true
    · refine Ev.step (f := fun k => spec_NameOk.l0 k s ((i + 1 : Nat) : Int)) (fun k => ?_) ?_
      · conv => lhs; unfold spec_NameOk.l0
        rw [if_pos (by rw [sz]; omega), if_pos (by omega), e]
        simp only [Option.bind_some, if_pos c, w]
      · rw [hd, List.all_cons, c, Bool.true_and]; exact ih (i + 1) (by omega)
    · refine Ev.step (f := fun _ => some false) (fun k => ?_) ?_
      · conv => lhs; unfold spec_NameOk.l0
        rw [if_pos (by rw [sz]; omega), if_pos (by omega), e]
        simp only [Option.bind_some, if_neg c]
      · rw [hd, List.all_cons]
        rw [Bool.not_eq_true] at c
        rw [c, Bool.false_and]; exact Ev.now _
theorem spec_name (s : ByteArray) : Ev (fun k => spec_NameOk.f k s) (nameB s.data.toList) := by
  cases hl : s.data.toList with
  | nil =>
    refine Ev.congr (f := fun k => spec_NameOk.j0 k s true) (fun k => ?_) ?_
    · unfold spec_NameOk.f
      rw [if_pos (by rw [sz, hl]; decide)]
    · refine Ev.step (f := fun _ => some false) (fun k => ?_) (Ev.now _)
      rfl
  | cons b t =>
    have hz : (s.size : Int) = (t.length : Int) + 1 := by rw [sz, hl]; simp
    by_cases c : t.length + 1 ≤ 40
    · refine Ev.congr (f := fun k => spec_NameOk.j0 k s (!fstB b)) (fun k => ?_) ?_
      · unfold spec_NameOk.f
        rw [if_neg (by omega), if_neg (by omega), if_pos (by omega), first_bt s b t hl, first_f]
        rfl
      · by_cases d : fstB b = true
        · refine Ev.step (f := fun k => spec_NameOk.l0 k s ((1 : Nat) : Int)) (fun k => ?_) ?_
          · rw [d]; rfl
          · have := spec_name_l0 s (by rw [hl]; simp; omega) t.length 1 (by rw [hl]; simp; omega)
            rw [hl] at this
            have e : nameB (b :: t) = ((b :: t).drop 1).all moreB := by simp [nameB, d, c]
            rw [e]; exact this
        · rw [Bool.not_eq_true] at d
          have e : nameB (b :: t) = false := by simp [nameB, d]
          rw [e]
          refine Ev.step (f := fun _ => some false) (fun k => ?_) (Ev.now _)
          rw [d]; rfl
    · have e : nameB (b :: t) = false := by simp [nameB, c]
      rw [e]
      refine Ev.congr (f := fun k => spec_NameOk.j0 k s true) (fun k => ?_) ?_
      · unfold spec_NameOk.f
        rw [if_neg (by omega), if_pos (by omega)]
      · refine Ev.step (f := fun _ => some false) (fun k => ?_) (Ev.now _)
        rfl

def lenB (n : Nat) : Bool := decide (1 ≤ n) && decide (n ≤ 40)
theorem in_len (n : Nat) : impl_in.f (n : Int) 1 40 = some (lenB n) := by
  unfold impl_in.f lenB
  by_cases h : 1 ≤ n
  · rw [if_pos (by omega)]; simp [h]; omega
  · rw [if_neg (by omega)]; simp [h]
theorem fst_iff (b : UInt8) : fstB b = true ↔ ((97 ≤ (b.toNat : Int) ∧ (b.toNat : Int) ≤ 122) ∨ (65 ≤ (b.toNat : Int) ∧ (b.toNat : Int) ≤ 90) ∨ (b.toNat : Int) = 95) := by
  unfold fstB
  simp only [Bool.or_eq_true, decide_eq_true_eq]
  omega
theorem more_iff (b : UInt8) : moreB b = true ↔ (((97 ≤ (b.toNat : Int) ∧ (b.toNat : Int) ≤ 122) ∨ (65 ≤ (b.toNat : Int) ∧ (b.toNat : Int) ≤ 90) ∨ (b.toNat : Int) = 95) ∨ (48 ≤ (b.toNat : Int) ∧ (b.toNat : Int) ≤ 57) ∨ (b.toNat : Int) = 46 ∨ (b.toNat : Int) = 45) := by
  unfold moreB
  simp only [Bool.or_eq_true, decide_eq_true_eq, fst_iff]
  omega
theorem impl_name_l0 (s : ByteArray) (hs : s.data.toList.length ≤ 9223372036854775806) : ∀ (n i : Nat), 1 ≤ i → i + n = s.data.toList.length →
    Ev (fun k => impl_NameOk.l0 k s (s.size : Int) (i : Int)) ((s.data.toList.drop i).all moreB && lenB s.data.toList.length) := by
  intro n
  induction n with
  | zero =>
    intro i h1 hi
    refine Ev.step (f := fun _ => some (lenB s.data.toList.length)) (fun k => ?_) ?_
    · unfold impl_NameOk.l0
      rw [if_neg (by rw [sz]; omega), sz, in_len]
      rfl
    · rw [List.drop_of_length_le (by omega)]; exact Ev.now _
  | succ n ih =>
    intro i h1 hi
    have hlt : i < s.data.toList.length := by omega
    have hd : s.data.toList.drop i = s.data.toList[i] :: s.data.toList.drop (i + 1) := List.drop_eq_getElem_cons hlt
    have w : wrap64 ((i : Int) + 1) = ((i + 1 : Nat) : Int) := by rw [w64] <;> omega
    have hm := more_iff (s.data.toList[i])
    by_cases c : moreB (s.data.toList[i]) = true
    · have hv := hm.1 c
      refine Ev.step (f := fun k => impl_NameOk.l0 k s (s.size : Int) ((i + 1 : Nat) : Int)) (fun k => ?_) ?_
      · conv => lhs; unfold impl_NameOk.l0
        rw [if_pos (by rw [sz]; omega), if_pos (by omega), if_pos (by rw [sz]; omega), bt_nat s i hlt, w]
        generalize impl_NameOk.l0 k s (s.size : Int) ((i + 1 : Nat) : Int) = X
        generalize ((s.data.toList[i]).toNat : Int) = v at hv
        clear hm ih c hd w hs hi hlt
        have hi0 : ¬ (i : Int) = 0 := by omega
        simp only [if_neg hi0]
        clear hi0 h1
        repeat' split
        all_goals first | rfl | (exfalso; omega)
      · rw [hd, List.all_cons, c, Bool.true_and]; exact ih (i + 1) (by omega) (by omega)
    · have hv := mt hm.2 c
      refine Ev.step (f := fun _ => some false) (fun k => ?_) ?_
      · conv => lhs; unfold impl_NameOk.l0
        rw [if_pos (by rw [sz]; omega), if_pos (by omega), if_pos (by rw [sz]; omega), bt_nat s i hlt, w]
        generalize impl_NameOk.l0 k s (s.size : Int) ((i + 1 : Nat) : Int) = X
        generalize ((s.data.toList[i]).toNat : Int) = v at hv
        clear hm ih c hd w hs hi hlt
        have hi0 : ¬ (i : Int) = 0 := by omega
        simp only [if_neg hi0]
        clear hi0 h1
        repeat' split
        all_goals first | rfl | (exfalso; omega)
      · rw [hd, List.all_cons]
        rw [Bool.not_eq_true] at c
        rw [c, Bool.false_and, Bool.false_and]; exact Ev.now _
theorem impl_name (s : ByteArray) (hs : s.data.toList.length ≤ 9223372036854775806) : Ev (fun k => impl_NameOk.f k s) (nameB s.data.toList) := by
  cases hl : s.data.toList with
  | nil =>
    unfold impl_NameOk.f
    refine Ev.step (f := fun _ => some false) (fun k => ?_) (Ev.now _)
    unfold impl_NameOk.l0
    have hz : s.size = 0 := by rw [sz, hl]; rfl
    rw [if_neg (by omega), hz]
    rfl
  | cons b t =>
    have hlt : 0 < s.data.toList.length := by rw [hl]; simp
    have hlen : s.data.toList.length = t.length + 1 := by rw [hl]; simp
    have w : wrap64 ((0 : Int) + 1) = ((1 : Nat) : Int) := by rw [w64 (by omega) (by omega)]; rfl
    have hm := fst_iff b
    have eb : bt s 0 = (b.toNat : Int) := first_bt s b t hl
    unfold impl_NameOk.f
    by_cases c : fstB b = true
    · have hv := hm.1 c
      refine Ev.step (f := fun k => impl_NameOk.l0 k s (s.size : Int) ((1 : Nat) : Int)) (fun k => ?_) ?_
      · conv => lhs; unfold impl_NameOk.l0
        rw [if_pos (by rw [sz]; omega), if_pos (by omega), if_pos (by rw [sz]; omega), eb, w]
        generalize impl_NameOk.l0 k s (s.size : Int) ((1 : Nat) : Int) = X
        generalize (b.toNat : Int) = v at hv
        clear hm c eb w hs hlt hlen hl
        simp only [if_true]
        repeat' split
        all_goals first | rfl | (exfalso; omega)
      · have := impl_name_l0 s hs t.length 1 (by omega) (by omega)
        rw [hl] at this
        have e : nameB (b :: t) = (((b :: t).drop 1).all moreB && lenB (b :: t).length) := by
          simp [nameB, lenB, c]
        rw [e]; exact this
    · have hv := mt hm.2 c
      refine Ev.step (f := fun _ => some false) (fun k => ?_) ?_
      · conv => lhs; unfold impl_NameOk.l0
        rw [if_pos (by rw [sz]; omega), if_pos (by omega), if_pos (by rw [sz]; omega), eb, w]
        generalize impl_NameOk.l0 k s (s.size : Int) ((1 : Nat) : Int) = X
        generalize (b.toNat : Int) = v at hv
        clear hm c eb w hs hlt hlen hl
        simp only [if_true]
        repeat' split
        all_goals first | rfl | (exfalso; omega)
      · rw [Bool.not_eq_true] at c
        have e : nameB (b :: t) = false := by simp [nameB, c]
        rw [e]; exact Ev.now _
theorem segs_len : ∀ (l acc : List UInt8) (x : List UInt8), x ∈ segs acc l → x.length ≤ acc.length + l.length
  | [], acc, x, h => by simp [segs] at h; subst h; simp
  | b :: t, acc, x, h => by
    rw [segs] at h
    by_cases c : b = 47
    · rw [if_pos c] at h
      rcases List.mem_cons.1 h with h | h
      · subst h; simp
      · have := segs_len t [] x h; simp at this ⊢; omega
    · rw [if_neg c] at h
      have := segs_len t _ x h
      simp at this ⊢; omega
def stepsV (deep : Bool) (out : List ByteArray) (L : List (List UInt8)) : List ByteArray × Bool × Bool :=
  if L.all nameB = true then (out ++ L.map mkB, deep, decide (((out ++ L.map mkB).length : Int) ≤ 6)) else ([], false, false)
theorem stepsV_cons (deep : Bool) (out : List ByteArray) (x : ByteArray) (L : List (List UInt8)) (h : nameB x.data.toList = true) : stepsV deep out (x.data.toList :: L) = stepsV deep (out ++ [x]) L := by
  unfold stepsV
  rw [List.all_cons, h, Bool.true_and, List.map_cons, mkB_of]
  simp only [List.append_assoc, List.singleton_append]
theorem stepsV_bad (deep : Bool) (out : List ByteArray) (x : List UInt8) (L : List (List UInt8)) (h : nameB x = false) : stepsV deep out (x :: L) = ([], false, false) := by
  unfold stepsV
  rw [List.all_cons, h, Bool.false_and, if_neg (by decide)]
theorem ex1 (s : ByteArray) (i : Nat) (h : i < s.data.toList.length) : (s.extract i (i + 1)).data.toList = [s.data.toList[i]] := by
  rw [ByteArray.data_extract, Array.toList_extract]
  simp only [List.extract_eq_take_drop, Nat.add_sub_cancel_left]
  rw [List.drop_eq_getElem_cons h]
  rfl
theorem w47 (b : UInt8) : ((b.toNat : Int) != 47) = !(decide (b = 47)) := by
  have := byte_is b 47 (by decide)
  by_cases c : b = 47
  · subst c; rfl
  · have h2 : ¬ (b.toNat : Int) = 47 := fun h => c (this.1 h)
    simp [c, h2]
theorem spec_steps_l0 (p : ByteArray) (hp : p.data.toList.length ≤ 1048576) (deep : Bool) : ∀ (n i : Nat) (out : List ByteArray) (x : ByteArray), i + n = p.data.toList.length → out.length ≤ i → x.data.toList.length ≤ i →
    Ev (fun k => spec_l11Steps.l0 k p deep out x (i : Int)) (stepsV deep out (segs x.data.toList (p.data.toList.drop i))) := by
  have hend : ∀ (i : Nat) (out : List ByteArray) (x : ByteArray), p.data.toList.length < i → Ev (fun k => spec_l11Steps.l0 k p deep out x (i : Int)) (out, deep, decide ((out.length : Int) ≤ 6)) := by
    intro i out x hi
    refine Ev.step (f := fun _ => some (out, deep, decide ((out.length : Int) ≤ 6))) (fun k => ?_) (Ev.now _)
    unfold spec_l11Steps.l0
    rw [if_neg (by rw [sz]; omega)]
  intro n
  induction n with
  | zero =>
    intro i out x hi ho hx
    rw [List.drop_of_length_le (by omega), segs]
    refine Ev.step (f := fun k => spec_l11Steps.j3 k p deep out x (i : Int) false) (fun k => ?_) ?_
    · conv => lhs; unfold spec_l11Steps.l0
      rw [if_pos (by rw [sz]; omega), if_neg (by rw [sz]; omega)]
    · refine Ev.step (f := fun k => (spec_NameOk.f k x).bind fun t108 => (if t108 = true then (spec_l11Steps.l0 k p deep (out ++ [x]) (⟨#[]⟩ : ByteArray) ((i + 1 : Nat) : Int)) else (some (([] : List ByteArray), false, false)))) (fun k => ?_) ?_
      · have w : wrap64 ((i : Int) + 1) = ((i + 1 : Nat) : Int) := by rw [w64] <;> omega
        conv => lhs; unfold spec_l11Steps.j3
        rw [if_neg (by decide), w]
        simp only [if_pos (show out.length < 8796093022208 by omega)]
      · refine Ev.bind (spec_name x) ?_
        by_cases c : nameB x.data.toList = true
        · rw [stepsV_cons _ _ _ _ c]
          simp only [c, if_true]
          have := hend (i + 1) (out ++ [x]) ⟨#[]⟩ (by omega)
          simpa [stepsV] using this
        · rw [Bool.not_eq_true] at c
          rw [stepsV_bad _ _ _ _ c]
          simp only [c, Bool.false_eq_true, if_false]
          exact Ev.now _
  | succ n ih =>
    intro i out x hi ho hx
    have hlt : i < p.data.toList.length := by omega
    have hd : p.data.toList.drop i = p.data.toList[i] :: p.data.toList.drop (i + 1) := List.drop_eq_getElem_cons hlt
    have w : wrap64 ((i : Int) + 1) = ((i + 1 : Nat) : Int) := by rw [w64] <;> omega
    refine Ev.step (f := fun k => spec_l11Steps.j3 k p deep out x (i : Int) (!(decide (p.data.toList[i] = 47)))) (fun k => ?_) ?_
    · conv => lhs; unfold spec_l11Steps.l0
      rw [if_pos (by rw [sz]; omega), if_pos (by rw [sz]; omega), if_pos (by omega), bt_nat p i hlt, w47]
    · rw [hd, segs]
      by_cases c : p.data.toList[i] = 47
      · rw [if_pos c]
        refine Ev.step (f := fun k => (spec_NameOk.f k x).bind fun t108 => (if t108 = true then (spec_l11Steps.l0 k p deep (out ++ [x]) (⟨#[]⟩ : ByteArray) ((i + 1 : Nat) : Int)) else (some (([] : List ByteArray), false, false)))) (fun k => ?_) ?_
        · conv => lhs; unfold spec_l11Steps.j3
          rw [if_neg (by rw [decide_eq_true c]; decide), w]
          simp only [if_pos (show out.length < 8796093022208 by omega)]
        · refine Ev.bind (spec_name x) ?_
          by_cases d : nameB x.data.toList = true
          · rw [stepsV_cons _ _ _ _ d]
            simp only [d, if_true]
            exact ih (i + 1) (out ++ [x]) ⟨#[]⟩ (by omega) (by simp; omega) (by simp)
          · rw [Bool.not_eq_true] at d
            rw [stepsV_bad _ _ _ _ d]
            simp only [d, Bool.false_eq_true, if_false]
            exact Ev.now _
      · rw [if_neg c]
        have hx2 : (x ++ p.extract i (i + 1)).data.toList = x.data.toList ++ [p.data.toList[i]] := by rw [ba_app, ex1 p i hlt]
        have hz : (p.extract i (i + 1)).size = 1 := by rw [sz, ex1 p i hlt]; rfl
        refine Ev.step (f := fun k => spec_l11Steps.l0 k p deep out (x ++ p.extract i (i + 1)) ((i + 1 : Nat) : Int)) (fun k => ?_) ?_
        · conv => lhs; unfold spec_l11Steps.j3
          have e1 : ((i : Int)).toNat = i := by omega
          have e2 : (((i + 1 : Nat) : Int)).toNat = i + 1 := by omega
          rw [if_pos (by rw [decide_eq_false c]; rfl), if_pos (by omega), w, if_pos (show (i : Int) ≤ ((i + 1 : Nat) : Int) by omega), if_pos (show ((i + 1 : Nat) : Int) ≤ (p.size : Int) by rw [sz]; omega), e1, e2, if_pos (show x.size + (p.extract i (i + 1)).size ≤ 9223372036854775807 by rw [hz, sz x]; omega)]
        · have := ih (i + 1) out (x ++ p.extract i (i + 1)) (by omega) (by omega) (by rw [hx2, List.length_append, List.length_singleton]; omega)
          rw [hx2] at this
          exact this

/-- Whether two strokes stand ahead, and the rest. -/
def twoB : List UInt8 → Bool
  | a :: b :: _ => decide (a = 47) && decide (b = 47)
  | _ => false
theorem two_iff (l : List UInt8) : twoB l = (l.take 2 == [47, 47]) := by
  match l with
  | [] => rfl
  | [a] => simp [twoB]
  | a :: b :: t =>
    simp only [twoB, List.take_succ_cons, List.take_zero]
    by_cases h1 : a = 47 <;> by_cases h2 : b = 47 <;> simp [h1, h2]
theorem two_len (l : List UInt8) (h : twoB l = true) : 2 ≤ l.length := by
  match l, h with
  | a :: b :: t, _ => simp
theorem ex_take (s : ByteArray) (n : Nat) : (s.extract 0 n).data.toList = s.data.toList.take n := by
  rw [ByteArray.data_extract, Array.toList_extract]
  simp [List.extract_eq_take_drop]
def deepS (l : List UInt8) : Bool := decide (2 < l.length) && twoB l
def specSteps (l : List UInt8) : List ByteArray × Bool × Bool := stepsV (deepS l) [] (segs [] (if deepS l = true then l.drop 2 else l))
theorem spec_steps (s : ByteArray) (hs : s.data.toList.length ≤ 1048576) : Ev (fun k => spec_l11Steps.f k s) (specSteps s.data.toList) := by
  refine Ev.congr (f := fun k => spec_l11Steps.j0 k s (deepS s.data.toList)) (fun k => ?_) ?_
  · unfold spec_l11Steps.f deepS
    by_cases c : 2 < s.data.toList.length
    · rw [if_pos (by rw [sz]; omega), if_pos (by omega), if_pos (by rw [sz]; omega), Lib.toList_data, ex_take, two_iff, decide_eq_true c, Bool.true_and]
    · rw [if_neg (by rw [sz]; omega), decide_eq_false c, Bool.false_and]
  · cases hd : deepS s.data.toList with
    | true =>
      have h2 : 2 ≤ s.data.toList.length := by
        unfold deepS at hd
        simp only [Bool.and_eq_true, decide_eq_true_eq] at hd
        omega
      refine Ev.step (f := fun k => spec_l11Steps.j1 k (s.extract 2 s.size) true) (fun k => ?_) ?_
      · have e : spec_l11Steps.j0 (k + 1) s true = (if 2 ≤ (s.size : Int) then spec_l11Steps.j1 k (s.extract 2 s.size) true else none) := rfl
        rw [e, if_pos (by rw [sz]; omega)]
      · refine Ev.step (f := fun k => spec_l11Steps.l0 k (s.extract 2 s.size) true [] (⟨#[]⟩ : ByteArray) ((0 : Nat) : Int)) (fun k => ?_) ?_
        · rfl
        · have e : (s.extract 2 s.size).data.toList = s.data.toList.drop 2 := Lib.extract_to_end s 2
          have := spec_steps_l0 (s.extract 2 s.size) (by rw [e, List.length_drop]; omega) true _ 0 [] ⟨#[]⟩ (by rw [Nat.zero_add]) (by simp) (by simp)
          rw [e] at this
          unfold specSteps
          rw [hd]
          simpa using this
    | false =>
      refine Ev.step (f := fun k => spec_l11Steps.j1 k s false) (fun k => ?_) ?_
      · rfl
      · refine Ev.step (f := fun k => spec_l11Steps.l0 k s false [] (⟨#[]⟩ : ByteArray) ((0 : Nat) : Int)) (fun k => ?_) ?_
        · rfl
        · have := spec_steps_l0 s hs false _ 0 [] ⟨#[]⟩ (by rw [Nat.zero_add]) (by simp) (by simp)
          unfold specSteps
          rw [hd]
          simpa using this

/-- What the program's reader of paths answers. -/
def implSteps (s : ByteArray) : List ByteArray × Bool × Bool :=
  if 20000 < s.data.toList.length then ([], false, false)
  else if 6 < (segs [] (if twoB s.data.toList = true then s.data.toList.drop 2 else s.data.toList)).length then ([], false, false)
  else if (segs [] (if twoB s.data.toList = true then s.data.toList.drop 2 else s.data.toList)).all nameB = true then
    ((segs [] (if twoB s.data.toList = true then s.data.toList.drop 2 else s.data.toList)).map mkB, twoB s.data.toList, true)
  else ([], false, false)
theorem cut_two (s : ByteArray) : strings_CutPrefix.f s ⟨#[47, 47]⟩ = some (if twoB s.data.toList = true then s.extract 2 s.size else s, twoB s.data.toList) := by
  have e2 : (((⟨#[47, 47]⟩ : ByteArray).size : Nat) : Int) = 2 := rfl
  have e3 : (⟨#[47, 47]⟩ : ByteArray).toList = [47, 47] := by rw [Lib.toList_data]
  unfold strings_CutPrefix.f stringslite_CutPrefix.f stringslite_HasPrefix.f
  rw [e2, e3]
  by_cases c : 2 ≤ s.data.toList.length
  · rw [if_pos (by rw [sz]; omega), if_pos (by omega), if_pos (by rw [sz]; omega)]
    have e4 : (s.extract 0 ((2 : Int)).toNat).toList = s.data.toList.take 2 := by
      rw [Lib.toList_data]; exact ex_take s 2
    rw [e4, ← two_iff]
    simp only [Option.bind_some]
    cases ht : twoB s.data.toList with
    | true =>
      simp only [if_true]
      rw [if_pos (by omega), if_pos (by rw [sz]; omega)]
      rfl
    | false => rfl
  · have ht : twoB s.data.toList = false := by
      cases hh : twoB s.data.toList with
      | true => exact absurd (two_len _ hh) c
      | false => rfl
    rw [if_neg (by rw [sz]; omega), ht]
    rfl
theorem names_all (hb : Nat) (hbb : hb ≤ 9223372036854775806) : ∀ L : List ByteArray, (∀ x ∈ L, x.data.toList.length ≤ hb) → ∃ K, ∀ k, K ≤ k → ∀ x ∈ L, impl_NameOk.f k x = some (nameB x.data.toList)
  | [], _ => ⟨0, fun _ _ _ h => by cases h⟩
  | x :: L, h => by
    obtain ⟨K1, h1⟩ := impl_name x (Nat.le_trans (h x (by simp)) hbb)
    obtain ⟨K2, h2⟩ := names_all hb hbb L fun y hy => h y (by simp [hy])
    refine ⟨max K1 K2, fun k hk y hy => ?_⟩
    rcases List.mem_cons.1 hy with e | hy
    · subst e; exact h1 k (by omega)
    · exact h2 k (by omega) y hy
theorem any_same {α : Type} {f g : α → Bool} : ∀ L : List α, (∀ x ∈ L, f x = g x) → L.any f = L.any g
  | [], _ => rfl
  | x :: L, h => by
    rw [List.any_cons, List.any_cons, h x (by simp), any_same L fun y hy => h y (by simp [hy])]
theorem impl_steps (s : ByteArray) (hs : s.data.toList.length ≤ 1048576) : Ev (fun k => impl_stepsOf.f k s) (implSteps s) := by
  obtain ⟨t, ht⟩ : ∃ t, (if twoB s.data.toList = true then s.extract 2 s.size else s) = t := ⟨_, rfl⟩
  have htl : t.data.toList = (if twoB s.data.toList = true then s.data.toList.drop 2 else s.data.toList) := by
    rw [← ht]
    split
    · exact Lib.extract_to_end s 2
    · rfl
  have htn : t.data.toList.length ≤ 1048576 := by
    rw [htl]; split
    · rw [List.length_drop]; omega
    · exact hs
  have hno := names_of t
  have hlen : (namesOf t).length = (segs [] t.data.toList).length := by rw [← hno, List.length_map]
  have hmost := names_most t
  have hsmall : ∀ x ∈ namesOf t, x.data.toList.length ≤ 1048576 := by
    intro x hx
    have : x.data.toList ∈ segs [] t.data.toList := by rw [← hno]; exact List.mem_map_of_mem hx
    have := segs_len _ _ _ this
    simp at this ⊢
    simp at htn
    omega
  obtain ⟨K, hK⟩ := names_all 1048576 (by decide) (namesOf t) hsmall
  refine ⟨K, fun k hk => ?_⟩
  show impl_stepsOf.f k s = _
  unfold impl_stepsOf.f
  rw [cut_two, ht]
  simp only [Option.bind_some]
  rw [if_pos ⟨by rw [sz]; omega, names_len t, by rw [sz] at hmost; omega⟩]
  unfold implSteps
  rw [← htl, ← hlen]
  by_cases c1 : 20000 < s.data.toList.length
  · rw [if_pos (by rw [sz]; omega), if_pos c1]
  · rw [if_neg (by rw [sz]; omega), if_neg c1]
    by_cases c2 : 6 < (namesOf t).length
    · rw [if_pos (by omega), if_pos c2]
    · rw [if_neg (by omega), if_neg c2]
      have hall : (namesOf t).all (fun s => (impl_NameOk.f k s).isSome) = true := by
        rw [List.all_eq_true]; intro x hx; rw [hK k hk x hx]; rfl
      rw [if_pos hall]
      have hq : (namesOf t).any (fun s => !nameK k s) = !((segs [] t.data.toList).all nameB) := by
        rw [← hno, List.all_map, List.not_all_eq_any_not]
        refine any_same _ fun x hx => ?_
        unfold nameK
        rw [hK k hk x hx]
        rfl
      rw [hq]
      cases ha : (segs [] t.data.toList).all nameB with
      | true =>
        simp only [Bool.not_true, Bool.false_eq_true, if_false, if_true]
        congr 2
        rw [← hno, List.map_map]
        conv => lhs; rw [← List.map_id (namesOf t)]
        refine List.map_congr_left fun x _ => ?_
        exact (mkB_of x).symm
      | false => simp
def pathB (l : List UInt8) : Bool := (specSteps l).2.2 && decide (l.length ≤ 20000)
theorem spec_path (s : ByteArray) (hs : s.data.toList.length ≤ 1048576) : Ev (fun k => spec_PathOk.f k s) (pathB s.data.toList) := by
  unfold spec_PathOk.f pathB
  refine Ev.bind (spec_steps s hs) ?_
  cases h : (specSteps s.data.toList).2.2 with
  | true =>
    refine Ev.congr (f := fun _ => some (decide (s.data.toList.length ≤ 20000))) (fun k => ?_) (Ev.now _)
    rw [if_pos rfl]
    congr 1
    rw [sz]
    simp only [decide_eq_decide]
    omega
  | false =>
    refine Ev.congr (f := fun _ => some false) (fun k => ?_) (Ev.now _)
    rw [if_neg (by decide)]
/-- The two readers say alike whether a path is one; where it is one they tell the same names. -/
theorem steps_alike (s : ByteArray) : (implSteps s).2.2 = pathB s.data.toList ∧ (pathB s.data.toList = true → (implSteps s).1 = (specSteps s.data.toList).1 ∧ (implSteps s).2.1 = (specSteps s.data.toList).2.1) := by
  unfold pathB implSteps
  by_cases c1 : 20000 < s.data.toList.length
  · rw [if_pos c1]
    have : decide (s.data.toList.length ≤ 20000) = false := decide_eq_false (by omega)
    rw [this, Bool.and_false]
    exact ⟨rfl, fun h => by cases h⟩
  · rw [if_neg c1]
    have : decide (s.data.toList.length ≤ 20000) = true := decide_eq_true (by omega)
    rw [this, Bool.and_true]
    by_cases c2 : 2 < s.data.toList.length
    · have e : deepS s.data.toList = twoB s.data.toList := by unfold deepS; rw [decide_eq_true c2, Bool.true_and]
      unfold specSteps stepsV
      rw [e, List.nil_append]
      generalize hS : segs [] (if twoB s.data.toList = true then s.data.toList.drop 2 else s.data.toList) = S
      clear hS
      cases ha : S.all nameB with
      | true =>
        simp only [if_true, List.length_map]
        by_cases c3 : 6 < S.length
        · rw [if_pos c3]
          have : decide ((S.length : Int) ≤ 6) = false := decide_eq_false (by omega)
          rw [this]
          exact ⟨rfl, fun h => by cases h⟩
        · rw [if_neg c3]
          have : decide ((S.length : Int) ≤ 6) = true := decide_eq_true (by omega)
          rw [this]
          exact ⟨rfl, fun _ => ⟨rfl, rfl⟩⟩
      | false =>
        simp only [Bool.false_eq_true, if_false]
        refine ⟨?_, fun h => by cases h⟩
        split <;> rfl
    · have e : deepS s.data.toList = false := by unfold deepS; rw [decide_eq_false c2, Bool.false_and]
      unfold specSteps stepsV
      rw [e, List.nil_append]
      simp only [Bool.false_eq_true, if_false]
      cases ht : twoB s.data.toList with
      | true =>
        have hl : s.data.toList = [47, 47] := by
          match hm : s.data.toList, ht, c2 with
          | [a, b], ht, _ =>
            simp only [twoB, Bool.and_eq_true, decide_eq_true_eq] at ht
            rw [ht.1, ht.2]
          | a :: b :: c :: t, _, c2 => simp at c2
        rw [hl]
        exact ⟨by decide, fun h => absurd h (by decide)⟩
      | false =>
        simp only [Bool.false_eq_true, if_false]
        generalize segs [] s.data.toList = S
        cases ha : S.all nameB with
        | true =>
          simp only [if_true, List.length_map]
          by_cases c3 : 6 < S.length
          · rw [if_pos c3]
            have : decide ((S.length : Int) ≤ 6) = false := decide_eq_false (by omega)
            rw [this]
            exact ⟨rfl, fun h => by cases h⟩
          · rw [if_neg c3]
            have : decide ((S.length : Int) ≤ 6) = true := decide_eq_true (by omega)
            rw [this]
            exact ⟨rfl, fun _ => ⟨rfl, rfl⟩⟩
        | false =>
          simp only [Bool.false_eq_true, if_false]
          refine ⟨?_, fun h => by cases h⟩
          split <;> rfl
theorem impl_path (s : ByteArray) (hs : s.data.toList.length ≤ 1048576) : Ev (fun k => impl_PathOk.f k s) (pathB s.data.toList) := by
  unfold impl_PathOk.f
  refine Ev.bind (impl_steps s hs) ?_
  rw [← (steps_alike s).1]
  exact Ev.now _
theorem FnExactPathOk : laws_FnExactPathOk.Pure := by
  intro a0 hsz
  by_cases c : a0.data.toList.length ≤ 1048576
  · have : Ev (fun k => laws_FnExactPathOk.f k a0) true := by
      unfold laws_FnExactPathOk.f
      refine Ev.congr (f := fun k => (spec_PathOk.f k a0).bind fun t126 => ((impl_PathOk.f k a0).bind fun t127 => (if (t127 != t126) = true then (some false) else (some true)))) (fun k => ?_) ?_
      · rw [if_neg (by rw [sz]; omega)]
      · refine Ev.bind (spec_path a0 c) (Ev.bind (impl_path a0 c) ?_)
        refine Ev.congr (f := fun _ => some true) (fun k => ?_) (Ev.now _)
        simp
    exact this.rounds
  · refine ⟨0, ?_⟩
    unfold laws_FnExactPathOk.f
    rw [if_pos (by rw [sz]; omega)]
end Go.Proofs.YtdicaljeegaieaaDoor.Pure
