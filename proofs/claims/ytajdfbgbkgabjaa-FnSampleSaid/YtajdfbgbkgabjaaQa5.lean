/- Words and contracts for the row RowFnSample; printed, and merged. -/
import Derived.Test.YtajdfbgbkgabjaaQa4
set_option linter.unusedVariables false
set_option linter.unusedSimpArgs false
set_option maxHeartbeats 16000000
set_option maxRecDepth 100000
namespace Go.Proofs.Ytajdfbgbkgabjaa.L
open Go.RowKit YtajdfbgbkgabjaaW.PrintWords YtajdfbgbkgabjaaW.PrintLast YtajdfbgbkgabjaaW.PrintMore
attribute [local go_sem] max2_int min2_int max_two min_two max_three min_three max_four min_four

/-! ### spec_l1Rd_model: function 65 -/
mutual
def spec_l1Rd_model.j0 : Nat → List (S42) → List Int → Int → Option ((List (S42)) × Int)
 | 0, _, _, _ => none
 | k + 1, x3, x1000, x1001 => (spec_l1Rd_once.f x1000 x1001 30).bind fun bt219 => (if bt219.1 = true then (spec_l1Rd_model.j1 k x3 (decide ((x3.length : Int) > 0)) x1000 bt219.2) else (spec_l1Rd_model.j1 k x3 false x1000 bt219.2))
def spec_l1Rd_model.j1 : Nat → List (S42) → Bool → List Int → Int → Option ((List (S42)) × Int)
 | 0, _, _, _, _ => none
 | k + 1, x3, x46, x1000, x1001 => if x46 = true then ((spec_l1Rd_below.f x1000 x1001 (x3.length : Int)).bind fun bt221 => ((spec_l1Rd_below.f x1000 bt221.2 3).bind fun bt223 => (if bt223.1 = 0 then ((spec_l1Rd_off.f k x1000 bt223.2 0 3).bind fun bt225 => (if 0 ≤ bt221.1 then (if bt221.1 < (x3.length : Int) then (some ((x3.set (bt221.1 : Int).toNat (⟨(rd_T42 x3 bt221.1).f0, (rd_T42 x3 bt221.1).f1, (rd_T42 x3 bt221.1).f2, bt225.1⟩ : S42)), bt225.2)) else (none)) else (none))) else (if bt223.1 = 1 then ((spec_l1Rd_off.f k x1000 bt223.2 1 4).bind fun bt228 => (if 0 ≤ bt221.1 then (if bt221.1 < (x3.length : Int) then (some ((x3.set (bt221.1 : Int).toNat (⟨bt228.1, (rd_T42 x3 bt221.1).f1, (rd_T42 x3 bt221.1).f2, (rd_T42 x3 bt221.1).f3⟩ : S42)), bt228.2)) else (none)) else (none))) else (if bt223.1 = 2 then (if 0 ≤ bt221.1 then (if bt221.1 < (x3.length : Int) then ((spec_l1Rd_off.f k x1000 bt223.2 0 bt221.1).bind fun bt232 => (if ((rd_T42 x3 bt221.1).f2).length < 17592186044416 then (some ((x3.set (bt221.1 : Int).toNat (⟨(rd_T42 x3 bt221.1).f0, (rd_T42 x3 bt221.1).f1, (((rd_T42 x3 bt221.1).f2) ++ [bt232.1]), (rd_T42 x3 bt221.1).f3⟩ : S42)), bt232.2)) else (none))) else (none)) else (none)) else (some (x3, bt223.2))))))) else (some (x3, x1001))
end
def spec_l1Rd_model.f (k : Nat) (s0_0 : List Int) (s0_1 : Int) : Option ((List (S42)) × Int) := (spec_l1Rd_mtext.f k s0_0 s0_1 2).bind fun bt187 => (if 1 + bt187.1.size ≤ 9223372036854775807 then ((some (([(⟨#[44]⟩ : ByteArray), (⟨#[124]⟩ : ByteArray)] : List ByteArray) : List ByteArray)).bind fun y189 => ((spec_l1Rd_below.f s0_0 bt187.2 2).bind fun bt192 => (if 0 ≤ bt192.1 then (if bt192.1 < (y189.length : Int) then (if ((⟨#[40]⟩ : ByteArray) ++ bt187.1).size + (rdOf ByteArray.empty y189 bt192.1).size ≤ 9223372036854775807 then ((spec_l1Rd_mtext.f k s0_0 bt192.2 2).bind fun bt195 => (if (((⟨#[40]⟩ : ByteArray) ++ bt187.1) ++ (rdOf ByteArray.empty y189 bt192.1)).size + bt195.1.size ≤ 9223372036854775807 then (if ((((⟨#[40]⟩ : ByteArray) ++ bt187.1) ++ (rdOf ByteArray.empty y189 bt192.1)) ++ bt195.1).size + 1 ≤ 9223372036854775807 then ((some (([(⟨#[]⟩ : ByteArray), (⟨#[63]⟩ : ByteArray), (⟨#[42]⟩ : ByteArray)] : List ByteArray) : List ByteArray)).bind fun y197 => ((spec_l1Rd_below.f s0_0 bt195.2 3).bind fun bt200 => (if 0 ≤ bt200.1 then (if bt200.1 < (y197.length : Int) then (if (((((⟨#[40]⟩ : ByteArray) ++ bt187.1) ++ (rdOf ByteArray.empty y189 bt192.1)) ++ bt195.1) ++ (⟨#[41]⟩ : ByteArray)).size + (rdOf ByteArray.empty y197 bt200.1).size ≤ 9223372036854775807 then ((spec_ReadModel.f k ((((((⟨#[40]⟩ : ByteArray) ++ bt187.1) ++ (rdOf ByteArray.empty y189 bt192.1)) ++ bt195.1) ++ (⟨#[41]⟩ : ByteArray)) ++ (rdOf ByteArray.empty y197 bt200.1))).bind fun bt203 => ((spec_l1Rd_once.f s0_0 bt200.2 3).bind fun bt207 => (if bt207.1 = true then ((some (([(⟨#[40, 41]⟩ : ByteArray), (⟨#[40, 97, 41]⟩ : ByteArray), (⟨#[40, 97, 44, 98, 63, 44, 99, 42, 41]⟩ : ByteArray), (⟨#[40, 97, 124, 98, 41, 42]⟩ : ByteArray), (⟨#[40, 97, 44, 40, 98, 124, 99, 41, 43, 44, 100, 63, 41]⟩ : ByteArray), (⟨#[40, 40, 97, 44, 98, 41, 124, 40, 99, 44, 100, 41, 41, 42]⟩ : ByteArray), (⟨#[40, 97, 63, 44, 98, 63, 44, 99, 63, 41]⟩ : ByteArray)] : List ByteArray) : List ByteArray)).bind fun y209 => ((spec_l1Rd_below.f s0_0 bt207.2 7).bind fun bt212 => (if 0 ≤ bt212.1 then (if bt212.1 < (y209.length : Int) then ((spec_ReadModel.f k (rdOf ByteArray.empty y209 bt212.1)).bind fun bt215 => (spec_l1Rd_model.j0 k bt215.1 s0_0 bt212.2)) else (none)) else (none)))) else (spec_l1Rd_model.j0 k bt203.1 s0_0 bt207.2)))) else (none)) else (none)) else (none)))) else (none)) else (none))) else (none)) else (none)) else (none)))) else (none))
def spec_l1Rd_model.T1 : Bool × List (List Nat × List Nat) := (true, [([], []), ([0], [0]), ([1], [1]), ([], []), ([], []), ([4, 1], [4]), ([3, 5], [3, 5]), ([6], [6]), ([2, 7], [2, 7]), ([], []), ([9, 5], [9]), ([8, 10], [8, 10]), ([11], [11]), ([], []), ([], []), ([14, 10], [14]), ([13, 15], [13, 15]), ([16], [16]), ([12, 17], [12, 17]), ([18, 15], [18]), ([19], [19]), ([20], [20]), ([20], [20]), ([21, 19, 0, 1, 2, 3, 4, 5, 6, 7, 8, 9, 10, 11, 12, 13, 14, 15, 16, 17, 18, 19, 20, 21], [21]), ([22, 23, 0, 1, 2, 3, 4, 5, 6, 7, 8, 9, 10, 11, 12, 13, 14, 15, 16, 17, 18, 19, 20, 21, 22, 23], [22])])
def spec_l1Rd_model.B1 : List Nat := [0, 1, 3, 0, 0, 19, 59, 123, 255, 0, 563, 2047, 4095, 0, 0, 17971, 58931, 124467, 262143, 524287, 1048575, 2097151, 2097151, 4194303, 16777215]
theorem spec_l1Rd_model.tab1 : rtab .any (opsOf Try.f65 1) = spec_l1Rd_model.T1 := by kernel_rfl
theorem spec_l1Rd_model.bits1 : waitsOk spec_l1Rd_model.T1.2 spec_l1Rd_model.B1 = true := by kernel_rfl
def spec_l1Rd_model.T12 : Bool × List (List Nat × List Nat) := (true, [([], []), ([], []), ([], []), ([], []), ([2, 3], [2, 3]), ([4], [4]), ([5], [5]), ([], []), ([], []), ([7, 8], [7, 8]), ([9], [9]), ([6, 10, 9], [6, 10]), ([0, 1, 0, 1, 2, 3, 4, 5, 6, 7, 8, 9, 10, 11], [0, 1]), ([12, 0, 1, 2, 3, 4, 5, 6, 7, 8, 9, 10, 11], [12]), ([13, 11, 11, 0, 1, 2, 3, 4, 5, 6, 7, 8, 9, 10, 11], [11, 13])])
def spec_l1Rd_model.B12 : List Nat := [0, 0, 0, 0, 12, 28, 60, 0, 0, 384, 896, 2044, 4095, 8191, 16383]
theorem spec_l1Rd_model.tab12 : rtab .any (opsOf Try.f65 12) = spec_l1Rd_model.T12 := by kernel_rfl
theorem spec_l1Rd_model.bits12 : waitsOk spec_l1Rd_model.T12.2 spec_l1Rd_model.B12 = true := by kernel_rfl
theorem spec_l1Rd_model.calls (k : Nat) (g : Nat) (s0_0 : List Int) (s0_1 : Int) (r1 : List (S42)) (r2 : Int) (w0 w : World) (hI : IsS101 w0 w g s0_0 s0_1) (hB : Below w0.heap.size w0 w) (h : spec_l1Rd_model.f k s0_0 s0_1 = some (r1, r2)) :
  Calls Try.prog 65 #[.pointer (some ⟨g, 0, none⟩)] w fun e w' => ∃ v0_ : Value, e = .returned (v0_) ∧ Kd.S k42 42 w' w.heap.size (fun _ => True) v0_ r1 ∧ IsS101 w0 w' g s0_0 r2 ∧ Below w0.heap.size w0 w' ∧ KeepBut w w' g none := by
 have HI0 := Zq.i hI
 have HK := Zq.i (KeepBut.refl w g none)
 have HL := Zq.i hB.size
 clear hI
 have HW0 := Zq.i hB.size
 have HB := Zq.i hB
 clear hB
 have H := h
 unfold spec_l1Rd_model.f at H
 clear h
 replace H := bM H
 obtain ⟨⟨t187, t188⟩, A20, H⟩ := H
 try dsimp only at H
 have A2 := Zq.i A20
 clear A20
 by_cases c3 : 1 + t187.size ≤ 9223372036854775807
 rotate_left
 ·rw [if_neg c3] at H
  exact absurd H dq15
 rw [if_pos c3] at H
 have c3b0 := eq_true c3
 have c3b1 := dT c3
 try have c3b2 : (9223372036854775807 < 1 + t187.size) = False := eq_false (Nat.not_lt.2 c3)
 obtain ⟨y189, hy189⟩ : ∃ y_ : List ByteArray, y_ = (([(⟨#[44]⟩ : ByteArray), (⟨#[124]⟩ : ByteArray)] : List ByteArray)) := ⟨_, rfl⟩
 replace H : ((spec_l1Rd_below.f s0_0 t188 2).bind fun bt192 => (if 0 ≤ bt192.1 then (if bt192.1 < (y189.length : Int) then (if ((⟨#[40]⟩ : ByteArray) ++ t187).size + (rdOf ByteArray.empty y189 bt192.1).size ≤ 9223372036854775807 then ((spec_l1Rd_mtext.f k s0_0 bt192.2 2).bind fun bt195 => (if (((⟨#[40]⟩ : ByteArray) ++ t187) ++ (rdOf ByteArray.empty y189 bt192.1)).size + bt195.1.size ≤ 9223372036854775807 then (if ((((⟨#[40]⟩ : ByteArray) ++ t187) ++ (rdOf ByteArray.empty y189 bt192.1)) ++ bt195.1).size + 1 ≤ 9223372036854775807 then ((some (([(⟨#[]⟩ : ByteArray), (⟨#[63]⟩ : ByteArray), (⟨#[42]⟩ : ByteArray)] : List ByteArray) : List ByteArray)).bind fun y197 => ((spec_l1Rd_below.f s0_0 bt195.2 3).bind fun bt200 => (if 0 ≤ bt200.1 then (if bt200.1 < (y197.length : Int) then (if (((((⟨#[40]⟩ : ByteArray) ++ t187) ++ (rdOf ByteArray.empty y189 bt192.1)) ++ bt195.1) ++ (⟨#[41]⟩ : ByteArray)).size + (rdOf ByteArray.empty y197 bt200.1).size ≤ 9223372036854775807 then ((spec_ReadModel.f k ((((((⟨#[40]⟩ : ByteArray) ++ t187) ++ (rdOf ByteArray.empty y189 bt192.1)) ++ bt195.1) ++ (⟨#[41]⟩ : ByteArray)) ++ (rdOf ByteArray.empty y197 bt200.1))).bind fun bt203 => ((spec_l1Rd_once.f s0_0 bt200.2 3).bind fun bt207 => (if bt207.1 = true then ((some (([(⟨#[40, 41]⟩ : ByteArray), (⟨#[40, 97, 41]⟩ : ByteArray), (⟨#[40, 97, 44, 98, 63, 44, 99, 42, 41]⟩ : ByteArray), (⟨#[40, 97, 124, 98, 41, 42]⟩ : ByteArray), (⟨#[40, 97, 44, 40, 98, 124, 99, 41, 43, 44, 100, 63, 41]⟩ : ByteArray), (⟨#[40, 40, 97, 44, 98, 41, 124, 40, 99, 44, 100, 41, 41, 42]⟩ : ByteArray), (⟨#[40, 97, 63, 44, 98, 63, 44, 99, 63, 41]⟩ : ByteArray)] : List ByteArray) : List ByteArray)).bind fun y209 => ((spec_l1Rd_below.f s0_0 bt207.2 7).bind fun bt212 => (if 0 ≤ bt212.1 then (if bt212.1 < (y209.length : Int) then ((spec_ReadModel.f k (rdOf ByteArray.empty y209 bt212.1)).bind fun bt215 => (spec_l1Rd_model.j0 k bt215.1 s0_0 bt212.2)) else (none)) else (none)))) else (spec_l1Rd_model.j0 k bt203.1 s0_0 bt207.2)))) else (none)) else (none)) else (none)))) else (none)) else (none))) else (none)) else (none)) else (none))) = some (r1, r2) := by first | (rw [hy189]; with_reducible exact H) | (have H2_ := oS H; rw [hy189]; with_reducible exact H2_) | (have H2_ := oS H; with_reducible exact H2_) | with_reducible exact H | (rw [hy189]; exact H) | exact H
 have Ny189 := Zq.i hy189
 clear hy189
 replace H := bM H
 obtain ⟨⟨t192, t193⟩, A40, H⟩ := H
 try dsimp only at H
 have A4 := Zq.i A40
 clear A40
 by_cases c5 : 0 ≤ t192
 rotate_left
 ·rw [if_neg c5] at H
  exact absurd H dq15
 rw [if_pos c5] at H
 have c5b0 := dT c5
 clear c5
 by_cases c6 : t192 < (y189.length : Int)
 rotate_left
 ·rw [if_neg c6] at H
  exact absurd H dq15
 rw [if_pos c6] at H
 have c6b0 := dT c6
 clear c6
 by_cases c7 : ((⟨#[40]⟩ : ByteArray) ++ t187).size + (rdOf ByteArray.empty y189 t192).size ≤ 9223372036854775807
 rotate_left
 ·rw [if_neg c7] at H
  exact absurd H dq15
 rw [if_pos c7] at H
 have c7b0 := eq_true c7
 have c7b1 := dT c7
 try have c7b2 : (9223372036854775807 < ((⟨#[40]⟩ : ByteArray) ++ t187).size + (rdOf ByteArray.empty y189 t192).size) = False := eq_false (Nat.not_lt.2 c7)
 try have c7b9 : (9223372036854775807 < ((1 + t187.size) + (rdOf ByteArray.empty y189 t192).size)) = False := eq_false (Nat.not_lt.2 (by have h_ := c7; simp only [ByteArray.size_append] at h_; exact h_))
 replace H := bM H
 obtain ⟨⟨t195, t196⟩, A80, H⟩ := H
 try dsimp only at H
 have A8 := Zq.i A80
 clear A80
 by_cases c9 : (((⟨#[40]⟩ : ByteArray) ++ t187) ++ (rdOf ByteArray.empty y189 t192)).size + t195.size ≤ 9223372036854775807
 rotate_left
 ·rw [if_neg c9] at H
  exact absurd H dq15
 rw [if_pos c9] at H
 have c9b0 := eq_true c9
 have c9b1 := dT c9
 try have c9b2 : (9223372036854775807 < (((⟨#[40]⟩ : ByteArray) ++ t187) ++ (rdOf ByteArray.empty y189 t192)).size + t195.size) = False := eq_false (Nat.not_lt.2 c9)
 try have c9b9 : (9223372036854775807 < (((1 + t187.size) + (rdOf ByteArray.empty y189 t192).size) + t195.size)) = False := eq_false (Nat.not_lt.2 (by have h_ := c9; simp only [ByteArray.size_append] at h_; exact h_))
 by_cases c10 : ((((⟨#[40]⟩ : ByteArray) ++ t187) ++ (rdOf ByteArray.empty y189 t192)) ++ t195).size + 1 ≤ 9223372036854775807
 rotate_left
 ·rw [if_neg c10] at H
  exact absurd H dq15
 rw [if_pos c10] at H
 have c10b0 := eq_true c10
 have c10b1 := dT c10
 try have c10b2 : (9223372036854775807 < ((((⟨#[40]⟩ : ByteArray) ++ t187) ++ (rdOf ByteArray.empty y189 t192)) ++ t195).size + 1) = False := eq_false (Nat.not_lt.2 c10)
 try have c10b9 : (9223372036854775807 < ((((1 + t187.size) + (rdOf ByteArray.empty y189 t192).size) + t195.size) + 1)) = False := eq_false (Nat.not_lt.2 (by have h_ := c10; simp only [ByteArray.size_append] at h_; exact h_))
 obtain ⟨y197, hy197⟩ : ∃ y_ : List ByteArray, y_ = (([(⟨#[]⟩ : ByteArray), (⟨#[63]⟩ : ByteArray), (⟨#[42]⟩ : ByteArray)] : List ByteArray)) := ⟨_, rfl⟩
 replace H : ((spec_l1Rd_below.f s0_0 t196 3).bind fun bt200 => (if 0 ≤ bt200.1 then (if bt200.1 < (y197.length : Int) then (if (((((⟨#[40]⟩ : ByteArray) ++ t187) ++ (rdOf ByteArray.empty y189 t192)) ++ t195) ++ (⟨#[41]⟩ : ByteArray)).size + (rdOf ByteArray.empty y197 bt200.1).size ≤ 9223372036854775807 then ((spec_ReadModel.f k ((((((⟨#[40]⟩ : ByteArray) ++ t187) ++ (rdOf ByteArray.empty y189 t192)) ++ t195) ++ (⟨#[41]⟩ : ByteArray)) ++ (rdOf ByteArray.empty y197 bt200.1))).bind fun bt203 => ((spec_l1Rd_once.f s0_0 bt200.2 3).bind fun bt207 => (if bt207.1 = true then ((some (([(⟨#[40, 41]⟩ : ByteArray), (⟨#[40, 97, 41]⟩ : ByteArray), (⟨#[40, 97, 44, 98, 63, 44, 99, 42, 41]⟩ : ByteArray), (⟨#[40, 97, 124, 98, 41, 42]⟩ : ByteArray), (⟨#[40, 97, 44, 40, 98, 124, 99, 41, 43, 44, 100, 63, 41]⟩ : ByteArray), (⟨#[40, 40, 97, 44, 98, 41, 124, 40, 99, 44, 100, 41, 41, 42]⟩ : ByteArray), (⟨#[40, 97, 63, 44, 98, 63, 44, 99, 63, 41]⟩ : ByteArray)] : List ByteArray) : List ByteArray)).bind fun y209 => ((spec_l1Rd_below.f s0_0 bt207.2 7).bind fun bt212 => (if 0 ≤ bt212.1 then (if bt212.1 < (y209.length : Int) then ((spec_ReadModel.f k (rdOf ByteArray.empty y209 bt212.1)).bind fun bt215 => (spec_l1Rd_model.j0 k bt215.1 s0_0 bt212.2)) else (none)) else (none)))) else (spec_l1Rd_model.j0 k bt203.1 s0_0 bt207.2)))) else (none)) else (none)) else (none))) = some (r1, r2) := by first | (rw [hy197]; with_reducible exact H) | (have H2_ := oS H; rw [hy197]; with_reducible exact H2_) | (have H2_ := oS H; with_reducible exact H2_) | with_reducible exact H | (rw [hy197]; exact H) | exact H
 have Ny197 := Zq.i hy197
 clear hy197
 replace H := bM H
 obtain ⟨⟨t200, t201⟩, A110, H⟩ := H
 try dsimp only at H
 have A11 := Zq.i A110
 clear A110
 by_cases c12 : 0 ≤ t200
 rotate_left
 ·rw [if_neg c12] at H
  exact absurd H dq15
 rw [if_pos c12] at H
 have c12b0 := dT c12
 clear c12
 by_cases c13 : t200 < (y197.length : Int)
 rotate_left
 ·rw [if_neg c13] at H
  exact absurd H dq15
 rw [if_pos c13] at H
 have c13b0 := dT c13
 clear c13
 by_cases c14 : (((((⟨#[40]⟩ : ByteArray) ++ t187) ++ (rdOf ByteArray.empty y189 t192)) ++ t195) ++ (⟨#[41]⟩ : ByteArray)).size + (rdOf ByteArray.empty y197 t200).size ≤ 9223372036854775807
 rotate_left
 ·rw [if_neg c14] at H
  exact absurd H dq15
 rw [if_pos c14] at H
 have c14b0 := eq_true c14
 have c14b1 := dT c14
 try have c14b2 : (9223372036854775807 < (((((⟨#[40]⟩ : ByteArray) ++ t187) ++ (rdOf ByteArray.empty y189 t192)) ++ t195) ++ (⟨#[41]⟩ : ByteArray)).size + (rdOf ByteArray.empty y197 t200).size) = False := eq_false (Nat.not_lt.2 c14)
 try have c14b9 : (9223372036854775807 < (((((1 + t187.size) + (rdOf ByteArray.empty y189 t192).size) + t195.size) + 1) + (rdOf ByteArray.empty y197 t200).size)) = False := eq_false (Nat.not_lt.2 (by have h_ := c14; simp only [ByteArray.size_append] at h_; exact h_))
 replace H := bM H
 obtain ⟨⟨t203, t204⟩, A150, H⟩ := H
 try dsimp only at H
 have A15 := Zq.i A150
 clear A150
 replace H := bM H
 obtain ⟨⟨t207, t208⟩, A160, H⟩ := H
 try dsimp only at H
 have A16 := Zq.i A160
 clear A160
 have HC17 := Zq.i H
 clear H
 go_enter Try.func65, Try.ntmps65
 try go_wp2
 have pi194 : (0 ≤ (t192 : Int)) = True := eq_true (oT dq22)
 have qi194 : (t192 < (y189.length : Int)) = True := eq_true (oT dq22)
 have pi202 : (0 ≤ (t200 : Int)) = True := eq_true (oT dq22)
 have qi202 : (t200 < (y197.length : Int)) = True := eq_true (oT dq22)
 replace HI0 := Zq.i (IsS101.drew HI0.out)
 replace HK := Zq.i (keep_drew HK.out)
 replace HB := Zq.i (below_drew1 HB.out)
 refine start_ (n := 25) (S := fun w' => True) (ds := []) (bitsA 25 0) dq24 rfl rfl trivial (fun hHeld => ?_); refine with_tabW spec_l1Rd_model.tab1 spec_l1Rd_model.bits1 (fun HT_ HW_ => ?_)
 generalize w.drew = w18 at HI0 HK HB hHeld ⊢
 refine pureA (i := 0) (N := some 7) (bitsA 25 1) ?_
 refine pureA (i := 4) (N := some 11) (bitsA 25 17) ?_
 refine pureA (i := 9) (N := some 16) (bitsA 25 529) ?_
 refine pureA (i := 14) (N := some 21) (bitsA 25 16913) ?_
 refine inv_at [1, 2, 3, 5, 6, 7, 8, 10, 11, 12, 13, 15, 16, 17, 18, 19, 20, 21, 22, 23, 24] (fun a0_ b a w' => ∃ (v190 : Value) (adz_v190 : Addr) (v198 : Value) (adz_v198 : Addr) (v205 : Value) (m6_ : Value) (m16_ : Value) (m19_ : Value) (m20_ : Value) (m21_ : Value) (m23_ : Value), a = putSel a0_ b [(1, 8, .string t187), (2, 9, .string ((⟨#[40]⟩ : ByteArray) ++ t187)), (3, 10, v190), (5, 12, .int .i64 t192), (6, 13, m6_), (7, 14, .string (rdOf ByteArray.empty y189 t192)), (8, 15, .string (((⟨#[40]⟩ : ByteArray) ++ t187) ++ (rdOf ByteArray.empty y189 t192))), (10, 17, .string t195), (11, 18, .string ((((⟨#[40]⟩ : ByteArray) ++ t187) ++ (rdOf ByteArray.empty y189 t192)) ++ t195)), (12, 19, .string (((((⟨#[40]⟩ : ByteArray) ++ t187) ++ (rdOf ByteArray.empty y189 t192)) ++ t195) ++ (⟨#[41]⟩ : ByteArray))), (13, 20, v198), (15, 22, .int .i64 t200), (16, 23, m16_), (17, 24, .string (rdOf ByteArray.empty y197 t200)), (18, 25, .string ((((((⟨#[40]⟩ : ByteArray) ++ t187) ++ (rdOf ByteArray.empty y189 t192)) ++ t195) ++ (⟨#[41]⟩ : ByteArray)) ++ (rdOf ByteArray.empty y197 t200))), (19, 26, m19_), (20, 6, m20_), (21, 27, m21_), (22, 28, .bool t204), (23, 3, m23_), (24, 4, .bool t204)] ∧ (b 1 = false → IsS101 w0 w' g s0_0 s0_1) ∧ (KeepBut w w' g none) ∧ (Below w0.heap.size w0 w') ∧ (b 1 = true → b 5 = false → IsS101 w0 w' g s0_0 t188) ∧ (b 3 = true → Kd.R Kd.string 9 w' w.heap.size (fun _ => True) v190 y189) ∧ (b 3 = true → ∃ c_, (v190 : Value) = .slice (some adz_v190) y189.length c_) ∧ (b 5 = true → b 10 = false → IsS101 w0 w' g s0_0 t193) ∧ (b 10 = true → b 15 = false → IsS101 w0 w' g s0_0 t196) ∧ (b 13 = true → Kd.R Kd.string 9 w' w.heap.size (fun _ => True) v198 y197) ∧ (b 13 = true → ∃ c_, (v198 : Value) = .slice (some adz_v198) y197.length c_) ∧ (b 15 = true → IsS101 w0 w' g s0_0 t201) ∧ (b 19 = true → Kd.S k42 42 w' w.heap.size (fun _ => True) v205 t203) ∧ (b 6 = true → (m6_ : Value) = .pointer (some (adz_v190.add (t192).toNat))) ∧ (b 16 = true → (m16_ : Value) = .pointer (some (adz_v198.add (t200).toNat))) ∧ (b 19 = true → (m19_ : Value) = .tuple #[v205, .bool t204]) ∧ (b 20 = true → (m20_ : Value) = .tuple #[v205, .bool t204]) ∧ (b 21 = true → (m21_ : Value) = v205) ∧ (b 23 = true → (m23_ : Value) = v205)) HT_.out HW_.out dq24 dq24 ?_ ?_ ?_
 ·exact ⟨.bool false, ⟨0, 0, none⟩, .bool false, ⟨0, 0, none⟩, .bool false, .bool false, .bool false, .bool false, .bool false, .bool false, .bool false, by simp only [putSel, Bool.false_eq_true, if_false], fun _ => HI0.out, HK.out, HB.out, fun h_ => absurd h_ dq25, fun h_ => absurd h_ dq25, fun h_ => absurd h_ dq25, fun h_ => absurd h_ dq25, fun h_ => absurd h_ dq25, fun h_ => absurd h_ dq25, fun h_ => absurd h_ dq25, fun h_ => absurd h_ dq25, fun h_ => absurd h_ dq25, fun h_ => absurd h_ dq25, fun h_ => absurd h_ dq25, fun h_ => absurd h_ dq25, fun h_ => absurd h_ dq25, fun h_ => absurd h_ dq25, fun h_ => absurd h_ dq25⟩
 ·skip
  clear HB HI0 HK
  refine steps_cons ?_ ?_
  ·rintro b a w' ⟨v190, adz_v190, v198, adz_v198, v205, m6_, m16_, m19_, m20_, m21_, m23_, ha, Q_HI0, Q_HK, Q_HB, Q_HI0_e1, Q_HO191, Q_HA_HO191, Q_HI0_e5, Q_HI0_e10, Q_HO199, Q_HA_HO199, Q_HI0_e15, Q_HO206, Q_X6_, Q_X16_, Q_X19_, Q_X20_, Q_X21_, Q_X23_⟩ hb_ hon hoff
   refine ⟨_, rfl, fun K hK => ?_⟩
   have e7 : a.tmps[7]? = some (.pointer (some ⟨g, 0, none⟩)) := by rw [ha]; exact (putSel_off rfl).trans rfl
   replace ha := Zq.i ha
   have HI0 := Zq.i (Q_HI0 hb_)
   have HK := Zq.i Q_HK
   have HB := Zq.i Q_HB
   refine goes_ Try.func99 dq24 rfl #[.pointer (some ⟨g, 0, none⟩), .int .i64 2] dq31 rfl rfl (by first | (simp only [List.map_toArray, List.map_cons, List.map_nil, Act.eval, Array.getD_eq_getD_getElem?, Option.getD_some, e7]; done) | (simp only [List.map_toArray, List.map_cons, List.map_nil, Act.eval, Array.getD_eq_getD_getElem?, Option.getD_some, e7]; rfl)) ?_
   with_reducible refine (spec_l1Rd_mtext.calls k g s0_0 s0_1 2 t187 t188 w0 _ ?side1 ?side2 A2.out).mono ?_
   (case side1 => exact dq1)
   (case side2 => exact dq2)
   rintro e w19 ⟨rfl, hi, hb, hk⟩
   refine ⟨_, rfl, ?_⟩
   have n0_ := Zq.i (KeepBut.trans dq18 hk (.inl rfl))
   have n1_ := Zq.i (hb)
   have n2_ := Zq.i (hi)
   have z_HO191 := fun (h0_ : b 3 = true) => (show Kd.R Kd.string 9 w19 w.heap.size (fun _ => True) v190 y189 from by first | exact (Kd.R_mono (Kd.R_keep (IsS101.apart (show IsS101 w0 _ g s0_0 s0_1 from by repeat (first | (with_reducible first | exact HI0.out | apply IsS101.alloc | apply IsS101.drewN | apply IsS101.drew | apply IsS101.set_1) | exact HI0.out)) dq44 dq25) hk (fun _ h => h.2)) (fun _ h => h.1)) | exact Kd.R_mono (Kd.R_mono (Kd.R_keep (IsS101.apart (show IsS101 w0 _ g s0_0 s0_1 from by repeat (first | (with_reducible first | exact HI0.out | apply IsS101.alloc | apply IsS101.drewN | apply IsS101.drew | apply IsS101.set_1) | exact HI0.out)) dq44 dq25) hk (fun _ h => h.2)) (fun _ h => h.1)) (fun _ h_ => by first | trivial | exact h_ | exact h_.1))
   have z_HO199 := fun (h0_ : b 13 = true) => (show Kd.R Kd.string 9 w19 w.heap.size (fun _ => True) v198 y197 from by first | exact (Kd.R_mono (Kd.R_keep (IsS101.apart (show IsS101 w0 _ g s0_0 s0_1 from by repeat (first | (with_reducible first | exact HI0.out | apply IsS101.alloc | apply IsS101.drewN | apply IsS101.drew | apply IsS101.set_1) | exact HI0.out)) dq45 dq25) hk (fun _ h => h.2)) (fun _ h => h.1)) | exact Kd.R_mono (Kd.R_mono (Kd.R_keep (IsS101.apart (show IsS101 w0 _ g s0_0 s0_1 from by repeat (first | (with_reducible first | exact HI0.out | apply IsS101.alloc | apply IsS101.drewN | apply IsS101.drew | apply IsS101.set_1) | exact HI0.out)) dq45 dq25) hk (fun _ h => h.2)) (fun _ h => h.1)) (fun _ h_ => by first | trivial | exact h_ | exact h_.1))
   clear HK HB HI0
   have HK := n0_
   have HB := n1_
   have HI0 := n2_
   clear n0_ n1_ n2_
   (try clear hb)
   (try clear hb2)
   (try clear hk)
   (try clear hi)
   refine hK.out _ _ ⟨v190, adz_v190, v198, adz_v198, v205, m6_, m16_, m19_, m20_, m21_, m23_, (by rw [ha.out]; exact putSel_upk 0 hb_ rfl rfl rfl), fun h0_ => absurd ((up_self b 1).symm.trans h0_) dq25, dq18, dq19, fun _ _ => dq20, z_HO191, Q_HA_HO191, fun h0_ _ => absurd ((hoff 5 dq24).symm.trans h0_) dq25, fun h0_ _ => absurd ((hoff 10 dq24).symm.trans h0_) dq25, z_HO199, Q_HA_HO199, fun h0_ => absurd ((hoff 15 dq24).symm.trans h0_) dq25, fun h0_ => absurd ((hoff 19 dq24).symm.trans h0_) dq25, fun h0_ => absurd ((hoff 6 dq24).symm.trans h0_) dq25, fun h0_ => absurd ((hoff 16 dq24).symm.trans h0_) dq25, fun h0_ => absurd ((hoff 19 dq24).symm.trans h0_) dq25, fun h0_ => absurd ((hoff 20 dq24).symm.trans h0_) dq25, fun h0_ => absurd ((hoff 21 dq24).symm.trans h0_) dq25, fun h0_ => absurd ((hoff 23 dq24).symm.trans h0_) dq25⟩
  refine steps_cons ?_ ?_
  ·rintro b a w' ⟨v190, adz_v190, v198, adz_v198, v205, m6_, m16_, m19_, m20_, m21_, m23_, ha, Q_HI0, Q_HK, Q_HB, Q_HI0_e1, Q_HO191, Q_HA_HO191, Q_HI0_e5, Q_HI0_e10, Q_HO199, Q_HA_HO199, Q_HI0_e15, Q_HO206, Q_X6_, Q_X16_, Q_X19_, Q_X20_, Q_X21_, Q_X23_⟩ hb_ hon hoff
   refine ⟨_, rfl, fun K hK => ?_⟩
   have e8 : a.tmps[8]? = some (.string t187) := by rw [ha]; exact putSel_on (e := (1, 8, .string t187)) 0 rfl rfl (hon 1 dq24) rfl
   replace ha := Zq.i ha
   have HK := Zq.i Q_HK
   have HB := Zq.i Q_HB
   refine value_ (w1 := w') (v := .string ((⟨#[40]⟩ : ByteArray) ++ t187)) dq31 rfl ?_ ?_
   ·go_simp
    (try simp only [i64_w])
    try rfl
   refine hK.out _ _ ⟨v190, adz_v190, v198, adz_v198, v205, m6_, m16_, m19_, m20_, m21_, m23_, (by rw [ha.out]; exact putSel_upk 1 hb_ rfl rfl rfl), fun h0_ => absurd ((hon 1 dq24).symm.trans h0_) dq25, Q_HK, Q_HB, Q_HI0_e1, Q_HO191, Q_HA_HO191, Q_HI0_e5, Q_HI0_e10, Q_HO199, Q_HA_HO199, Q_HI0_e15, fun h0_ => absurd ((hoff 19 dq24).symm.trans h0_) dq25, Q_X6_, Q_X16_, fun h0_ => absurd ((hoff 19 dq24).symm.trans h0_) dq25, fun h0_ => absurd ((hoff 20 dq24).symm.trans h0_) dq25, fun h0_ => absurd ((hoff 21 dq24).symm.trans h0_) dq25, fun h0_ => absurd ((hoff 23 dq24).symm.trans h0_) dq25⟩
  refine steps_cons ?_ ?_
  ·rintro b a w' ⟨v190, adz_v190, v198, adz_v198, v205, m6_, m16_, m19_, m20_, m21_, m23_, ha, Q_HI0, Q_HK, Q_HB, Q_HI0_e1, Q_HO191, Q_HA_HO191, Q_HI0_e5, Q_HI0_e10, Q_HO199, Q_HA_HO199, Q_HI0_e15, Q_HO206, Q_X6_, Q_X16_, Q_X19_, Q_X20_, Q_X21_, Q_X23_⟩ hb_ hon hoff
   refine ⟨_, rfl, fun K hK => ?_⟩
   replace ha := Zq.i ha
   have HK := Zq.i Q_HK
   have HB := Zq.i Q_HB
   refine Kd.R_lit_step Kd.string _ 9 ?hg (N := 10) ?hd (xs := ([(⟨#[44]⟩ : ByteArray), (⟨#[124]⟩ : ByteArray)] : List ByteArray)) (inner := [.string (⟨#[44]⟩ : ByteArray), .string (⟨#[124]⟩ : ByteArray)]) (ok := fun _ => True) (okp := fun _ => True) ?hr ?hp (fun _ hk => hk) trivial (Below.refl _ _) (Nat.le_refl _) dq15 ?_; (case hd => rfl); (case hg => rfl); (case hr => exact dq0); (case hp => exact (Reps.one (show Kd.M Kd.string _ _ _ (⟨#[44]⟩ : ByteArray) [.string (⟨#[44]⟩ : ByteArray)] from rfl) (Reps.one (show Kd.M Kd.string _ _ _ (⟨#[124]⟩ : ByteArray) [.string (⟨#[124]⟩ : ByteArray)] from rfl) (Reps.none _ _))))
   intro v190 w19 ho20 hb hg_ hnew_
   clear hg_ hnew_
   (first | rw [← Ny189.out] at ho20 | (simp only [Int.reduceToNat] at ho20; rw [← Ny189.out] at ho20))
   have n0_ := Zq.i (Kd.R_lower ho20 (keep_size (w := w) (g := g) (row := none) dq18))
   have n2_ := Zq.i (KeepBut.trans dq18 (KeepBut.of_below hb g none) (.inl rfl))
   have n3_ := Zq.i (below_step dq17 hb)
   have z_HI0 := fun (h0_ : b 1 = false) => (show IsS101 w0 w19 g s0_0 s0_1 from by first | exact (IsS101.below dq46 hb))
   have z_HI0_e1 := fun (h0_ : b 1 = true) (h1_ : b 5 = false) => (show IsS101 w0 w19 g s0_0 t188 from by first | exact (IsS101.below dq47 hb))
   have z_HI0_e5 := fun (h0_ : b 5 = true) (h1_ : b 10 = false) => (show IsS101 w0 w19 g s0_0 t193 from by first | exact (IsS101.below dq48 hb))
   have z_HI0_e10 := fun (h0_ : b 10 = true) (h1_ : b 15 = false) => (show IsS101 w0 w19 g s0_0 t196 from by first | exact (IsS101.below dq49 hb))
   have z_HO199 := fun (h0_ : b 13 = true) => (show Kd.R Kd.string 9 w19 w.heap.size (fun _ => True) v198 y197 from by first | exact (Kd.R_elder' dq45 (Kd.R_base ho20) hb) | exact Kd.R_mono (Kd.R_elder' dq45 (Kd.R_base ho20) hb) (fun _ h_ => by first | trivial | exact h_ | exact h_.1))
   have z_HI0_e15 := fun (h0_ : b 15 = true) => (show IsS101 w0 w19 g s0_0 t201 from by first | exact (IsS101.below dq50 hb))
   clear HK HB
   have HO191 := n0_
   have HK := n2_
   have HB := n3_
   clear n0_ n2_ n3_ hb ho20
   obtain ⟨Ao21, co21, eo21⟩ := Kd.R_slice HO191.out
   subst eo21
   obtain ⟨ado21, fo21, _⟩ := Kd.at_string (Kd.R_reads' HO191.out).2.2 0 dq25 (by rw [Ny189.out]; simp)
   cases fo21
   refine hK.out _ _ ⟨.slice (some ado21) y189.length co21, ado21, v198, adz_v198, v205, m6_, m16_, m19_, m20_, m21_, m23_, (by rw [ha.out]; exact putSel_upk 2 hb_ rfl rfl rfl), z_HI0, dq18, dq17, z_HI0_e1, fun _ => dq51, fun _ => ⟨_, rfl⟩, z_HI0_e5, z_HI0_e10, z_HO199, Q_HA_HO199, z_HI0_e15, fun h0_ => absurd ((hoff 19 dq24).symm.trans h0_) dq25, fun h0_ => absurd ((hoff 6 dq24).symm.trans h0_) dq25, Q_X16_, fun h0_ => absurd ((hoff 19 dq24).symm.trans h0_) dq25, fun h0_ => absurd ((hoff 20 dq24).symm.trans h0_) dq25, fun h0_ => absurd ((hoff 21 dq24).symm.trans h0_) dq25, fun h0_ => absurd ((hoff 23 dq24).symm.trans h0_) dq25⟩
  refine steps_cons ?_ ?_
  ·rintro b a w' ⟨v190, adz_v190, v198, adz_v198, v205, m6_, m16_, m19_, m20_, m21_, m23_, ha, Q_HI0, Q_HK, Q_HB, Q_HI0_e1, Q_HO191, Q_HA_HO191, Q_HI0_e5, Q_HI0_e10, Q_HO199, Q_HA_HO199, Q_HI0_e15, Q_HO206, Q_X6_, Q_X16_, Q_X19_, Q_X20_, Q_X21_, Q_X23_⟩ hb_ hon hoff
   refine ⟨_, rfl, fun K hK => ?_⟩
   have e11 : a.tmps[11]? = some (.pointer (some ⟨g, 0, none⟩)) := by rw [ha]; exact (putSel_off rfl).trans rfl
   replace ha := Zq.i ha
   have HK := Zq.i Q_HK
   have HB := Zq.i Q_HB
   have HI0 := Zq.i (Q_HI0_e1 (hon 1 dq24) hb_)
   refine goes_ Try.func69 dq24 rfl #[.pointer (some ⟨g, 0, none⟩), .int .i64 2] dq31 rfl rfl (by first | (simp only [List.map_toArray, List.map_cons, List.map_nil, Act.eval, Array.getD_eq_getD_getElem?, Option.getD_some, e11]; done) | (simp only [List.map_toArray, List.map_cons, List.map_nil, Act.eval, Array.getD_eq_getD_getElem?, Option.getD_some, e11]; rfl)) ?_
   with_reducible refine (spec_l1Rd_below.calls g s0_0 t188 2 t192 t193 w0 _ ?side1 ?side2 A4.out).mono ?_
   (case side1 => exact dq1)
   (case side2 => exact dq2)
   rintro e w21 ⟨rfl, hi, hb, hk⟩
   refine ⟨_, rfl, ?_⟩
   have n0_ := Zq.i (KeepBut.trans dq18 hk (.inl rfl))
   have n1_ := Zq.i (hb)
   have n2_ := Zq.i (hi)
   have z_HO191 := fun (h0_ : b 3 = true) => (show Kd.R Kd.string 9 w21 w.heap.size (fun _ => True) v190 y189 from by first | exact (Kd.R_mono (Kd.R_keep (IsS101.apart (show IsS101 w0 _ g s0_0 t188 from by repeat (first | (with_reducible first | exact HI0.out | apply IsS101.alloc | apply IsS101.drewN | apply IsS101.drew | apply IsS101.set_1) | exact HI0.out)) dq44 dq25) hk (fun _ h => h.2)) (fun _ h => h.1)) | exact Kd.R_mono (Kd.R_mono (Kd.R_keep (IsS101.apart (show IsS101 w0 _ g s0_0 t188 from by repeat (first | (with_reducible first | exact HI0.out | apply IsS101.alloc | apply IsS101.drewN | apply IsS101.drew | apply IsS101.set_1) | exact HI0.out)) dq44 dq25) hk (fun _ h => h.2)) (fun _ h => h.1)) (fun _ h_ => by first | trivial | exact h_ | exact h_.1))
   have z_HO199 := fun (h0_ : b 13 = true) => (show Kd.R Kd.string 9 w21 w.heap.size (fun _ => True) v198 y197 from by first | exact (Kd.R_mono (Kd.R_keep (IsS101.apart (show IsS101 w0 _ g s0_0 t188 from by repeat (first | (with_reducible first | exact HI0.out | apply IsS101.alloc | apply IsS101.drewN | apply IsS101.drew | apply IsS101.set_1) | exact HI0.out)) dq45 dq25) hk (fun _ h => h.2)) (fun _ h => h.1)) | exact Kd.R_mono (Kd.R_mono (Kd.R_keep (IsS101.apart (show IsS101 w0 _ g s0_0 t188 from by repeat (first | (with_reducible first | exact HI0.out | apply IsS101.alloc | apply IsS101.drewN | apply IsS101.drew | apply IsS101.set_1) | exact HI0.out)) dq45 dq25) hk (fun _ h => h.2)) (fun _ h => h.1)) (fun _ h_ => by first | trivial | exact h_ | exact h_.1))
   clear HK HB HI0
   have HK := n0_
   have HB := n1_
   have HI0 := n2_
   clear n0_ n1_ n2_
   (try clear hb)
   (try clear hb2)
   (try clear hk)
   (try clear hi)
   refine hK.out _ _ ⟨v190, adz_v190, v198, adz_v198, v205, m6_, m16_, m19_, m20_, m21_, m23_, (by rw [ha.out]; exact putSel_upk 3 hb_ rfl rfl rfl), fun h0_ => absurd ((hon 1 dq24).symm.trans h0_) dq25, dq18, dq19, fun _ h1_ => absurd ((up_self b 5).symm.trans h1_) dq25, z_HO191, Q_HA_HO191, fun _ _ => dq20, fun h0_ _ => absurd ((hoff 10 dq24).symm.trans h0_) dq25, z_HO199, Q_HA_HO199, fun h0_ => absurd ((hoff 15 dq24).symm.trans h0_) dq25, fun h0_ => absurd ((hoff 19 dq24).symm.trans h0_) dq25, fun h0_ => absurd ((hoff 6 dq24).symm.trans h0_) dq25, fun h0_ => absurd ((hoff 16 dq24).symm.trans h0_) dq25, fun h0_ => absurd ((hoff 19 dq24).symm.trans h0_) dq25, fun h0_ => absurd ((hoff 20 dq24).symm.trans h0_) dq25, fun h0_ => absurd ((hoff 21 dq24).symm.trans h0_) dq25, fun h0_ => absurd ((hoff 23 dq24).symm.trans h0_) dq25⟩
  refine steps_cons ?_ ?_
  ·rintro b a w' ⟨v190, adz_v190, v198, adz_v198, v205, m6_, m16_, m19_, m20_, m21_, m23_, ha, Q_HI0, Q_HK, Q_HB, Q_HI0_e1, Q_HO191, Q_HA_HO191, Q_HI0_e5, Q_HI0_e10, Q_HO199, Q_HA_HO199, Q_HI0_e15, Q_HO206, Q_X6_, Q_X16_, Q_X19_, Q_X20_, Q_X21_, Q_X23_⟩ hb_ hon hoff
   refine ⟨_, rfl, fun K hK => ?_⟩
   have e10 : a.tmps[10]? = some (v190) := by rw [ha]; exact putSel_on (e := (3, 10, v190)) 2 rfl rfl (hon 3 dq24) rfl
   have e12 : a.tmps[12]? = some (.int .i64 t192) := by rw [ha]; exact putSel_on (e := (5, 12, .int .i64 t192)) 3 rfl rfl (hon 5 dq24) rfl
   replace ha := Zq.i ha
   have HK := Zq.i Q_HK
   have HB := Zq.i Q_HB
   have HO191 := Zq.i (Q_HO191 (hon 3 dq24))
   have HA_HO191 := Zq.i (Q_HA_HO191 (hon 3 dq24))
   obtain ⟨c_, hv_⟩ := HA_HO191.out
   rw [hv_] at e10
   refine value_ (w1 := w') (v := .pointer (some (adz_v190.add (t192).toNat))) dq31 rfl ?_ ?_
   ·go_simp
    (try simp only [i64_w])
    try rfl
   refine hK.out _ _ ⟨v190, adz_v190, v198, adz_v198, v205, (.pointer (some (adz_v190.add (t192).toNat))), m16_, m19_, m20_, m21_, m23_, (by rw [ha.out]; exact putSel_upk 4 hb_ rfl rfl rfl), fun h0_ => absurd ((hon 1 dq24).symm.trans h0_) dq25, Q_HK, Q_HB, fun _ h1_ => absurd ((hon 5 dq24).symm.trans h1_) dq25, Q_HO191, Q_HA_HO191, Q_HI0_e5, Q_HI0_e10, Q_HO199, Q_HA_HO199, Q_HI0_e15, fun h0_ => absurd ((hoff 19 dq24).symm.trans h0_) dq25, fun _ => rfl, Q_X16_, fun h0_ => absurd ((hoff 19 dq24).symm.trans h0_) dq25, fun h0_ => absurd ((hoff 20 dq24).symm.trans h0_) dq25, fun h0_ => absurd ((hoff 21 dq24).symm.trans h0_) dq25, fun h0_ => absurd ((hoff 23 dq24).symm.trans h0_) dq25⟩
  refine steps_cons ?_ ?_
  ·rintro b a w' ⟨v190, adz_v190, v198, adz_v198, v205, m6_, m16_, m19_, m20_, m21_, m23_, ha, Q_HI0, Q_HK, Q_HB, Q_HI0_e1, Q_HO191, Q_HA_HO191, Q_HI0_e5, Q_HI0_e10, Q_HO199, Q_HA_HO199, Q_HI0_e15, Q_HO206, Q_X6_, Q_X16_, Q_X19_, Q_X20_, Q_X21_, Q_X23_⟩ hb_ hon hoff
   refine ⟨_, rfl, fun K hK => ?_⟩
   have e13 : a.tmps[13]? = some (m6_) := by rw [ha]; exact putSel_on (e := (6, 13, m6_)) 4 rfl rfl (hon 6 dq24) rfl
   rw [Q_X6_ (hon 6 dq24)] at e13
   replace ha := Zq.i ha
   have HK := Zq.i Q_HK
   have HB := Zq.i Q_HB
   have HO191 := Zq.i (Q_HO191 (hon 3 dq24))
   have HA_HO191 := Zq.i (Q_HA_HO191 (hon 3 dq24))
   obtain ⟨c_, hv_⟩ := HA_HO191.out
   have hF_ := HO191.out
   rw [hv_] at hF_
   obtain ⟨ad_, ea_, hx_⟩ := Kd.at_string (Kd.R_reads' hF_).2.2 t192 (of_eq_true pi194) (of_eq_true qi194)
   cases ea_
   refine value_ (w1 := w') (v := .string (rdOf ByteArray.empty y189 t192)) dq31 rfl ?_ ?_
   ·go_simp
    (try simp only [i64_w])
    try rfl
   refine hK.out _ _ ⟨v190, adz_v190, v198, adz_v198, v205, m6_, m16_, m19_, m20_, m21_, m23_, (by rw [ha.out]; exact putSel_upk 5 hb_ rfl rfl rfl), fun h0_ => absurd ((hon 1 dq24).symm.trans h0_) dq25, Q_HK, Q_HB, fun _ h1_ => absurd ((hon 5 dq24).symm.trans h1_) dq25, Q_HO191, Q_HA_HO191, Q_HI0_e5, Q_HI0_e10, Q_HO199, Q_HA_HO199, Q_HI0_e15, fun h0_ => absurd ((hoff 19 dq24).symm.trans h0_) dq25, Q_X6_, Q_X16_, fun h0_ => absurd ((hoff 19 dq24).symm.trans h0_) dq25, fun h0_ => absurd ((hoff 20 dq24).symm.trans h0_) dq25, fun h0_ => absurd ((hoff 21 dq24).symm.trans h0_) dq25, fun h0_ => absurd ((hoff 23 dq24).symm.trans h0_) dq25⟩
  refine steps_cons ?_ ?_
  ·rintro b a w' ⟨v190, adz_v190, v198, adz_v198, v205, m6_, m16_, m19_, m20_, m21_, m23_, ha, Q_HI0, Q_HK, Q_HB, Q_HI0_e1, Q_HO191, Q_HA_HO191, Q_HI0_e5, Q_HI0_e10, Q_HO199, Q_HA_HO199, Q_HI0_e15, Q_HO206, Q_X6_, Q_X16_, Q_X19_, Q_X20_, Q_X21_, Q_X23_⟩ hb_ hon hoff
   refine ⟨_, rfl, fun K hK => ?_⟩
   have e9 : a.tmps[9]? = some (.string ((⟨#[40]⟩ : ByteArray) ++ t187)) := by rw [ha]; exact putSel_on (e := (2, 9, .string ((⟨#[40]⟩ : ByteArray) ++ t187))) 1 rfl rfl (hon 2 dq24) rfl
   have e14 : a.tmps[14]? = some (.string (rdOf ByteArray.empty y189 t192)) := by rw [ha]; exact putSel_on (e := (7, 14, .string (rdOf ByteArray.empty y189 t192))) 5 rfl rfl (hon 7 dq24) rfl
   replace ha := Zq.i ha
   have HK := Zq.i Q_HK
   have HB := Zq.i Q_HB
   have HO191 := Zq.i (Q_HO191 (hon 3 dq24))
   have HA_HO191 := Zq.i (Q_HA_HO191 (hon 3 dq24))
   refine value_ (w1 := w') (v := .string (((⟨#[40]⟩ : ByteArray) ++ t187) ++ (rdOf ByteArray.empty y189 t192))) dq31 rfl ?_ ?_
   ·go_simp
    (try simp only [i64_w])
    try rfl
   refine hK.out _ _ ⟨v190, adz_v190, v198, adz_v198, v205, m6_, m16_, m19_, m20_, m21_, m23_, (by rw [ha.out]; exact putSel_upk 6 hb_ rfl rfl rfl), fun h0_ => absurd ((hon 1 dq24).symm.trans h0_) dq25, Q_HK, Q_HB, fun _ h1_ => absurd ((hon 5 dq24).symm.trans h1_) dq25, Q_HO191, Q_HA_HO191, Q_HI0_e5, Q_HI0_e10, Q_HO199, Q_HA_HO199, Q_HI0_e15, fun h0_ => absurd ((hoff 19 dq24).symm.trans h0_) dq25, Q_X6_, Q_X16_, fun h0_ => absurd ((hoff 19 dq24).symm.trans h0_) dq25, fun h0_ => absurd ((hoff 20 dq24).symm.trans h0_) dq25, fun h0_ => absurd ((hoff 21 dq24).symm.trans h0_) dq25, fun h0_ => absurd ((hoff 23 dq24).symm.trans h0_) dq25⟩
  refine steps_cons ?_ ?_
  ·rintro b a w' ⟨v190, adz_v190, v198, adz_v198, v205, m6_, m16_, m19_, m20_, m21_, m23_, ha, Q_HI0, Q_HK, Q_HB, Q_HI0_e1, Q_HO191, Q_HA_HO191, Q_HI0_e5, Q_HI0_e10, Q_HO199, Q_HA_HO199, Q_HI0_e15, Q_HO206, Q_X6_, Q_X16_, Q_X19_, Q_X20_, Q_X21_, Q_X23_⟩ hb_ hon hoff
   refine ⟨_, rfl, fun K hK => ?_⟩
   have e16 : a.tmps[16]? = some (.pointer (some ⟨g, 0, none⟩)) := by rw [ha]; exact (putSel_off rfl).trans rfl
   replace ha := Zq.i ha
   have HK := Zq.i Q_HK
   have HB := Zq.i Q_HB
   have HI0 := Zq.i (Q_HI0_e5 (hon 5 dq24) hb_)
   refine goes_ Try.func99 dq24 rfl #[.pointer (some ⟨g, 0, none⟩), .int .i64 2] dq31 rfl rfl (by first | (simp only [List.map_toArray, List.map_cons, List.map_nil, Act.eval, Array.getD_eq_getD_getElem?, Option.getD_some, e16]; done) | (simp only [List.map_toArray, List.map_cons, List.map_nil, Act.eval, Array.getD_eq_getD_getElem?, Option.getD_some, e16]; rfl)) ?_
   with_reducible refine (spec_l1Rd_mtext.calls k g s0_0 t193 2 t195 t196 w0 _ ?side1 ?side2 A8.out).mono ?_
   (case side1 => exact dq1)
   (case side2 => exact dq2)
   rintro e w22 ⟨rfl, hi, hb, hk⟩
   refine ⟨_, rfl, ?_⟩
   have n0_ := Zq.i (KeepBut.trans dq18 hk (.inl rfl))
   have n1_ := Zq.i (hb)
   have n2_ := Zq.i (hi)
   have z_HO191 := fun (h0_ : b 3 = true) => (show Kd.R Kd.string 9 w22 w.heap.size (fun _ => True) v190 y189 from by first | exact (Kd.R_mono (Kd.R_keep (IsS101.apart (show IsS101 w0 _ g s0_0 t193 from by repeat (first | (with_reducible first | exact HI0.out | apply IsS101.alloc | apply IsS101.drewN | apply IsS101.drew | apply IsS101.set_1) | exact HI0.out)) dq44 dq25) hk (fun _ h => h.2)) (fun _ h => h.1)) | exact Kd.R_mono (Kd.R_mono (Kd.R_keep (IsS101.apart (show IsS101 w0 _ g s0_0 t193 from by repeat (first | (with_reducible first | exact HI0.out | apply IsS101.alloc | apply IsS101.drewN | apply IsS101.drew | apply IsS101.set_1) | exact HI0.out)) dq44 dq25) hk (fun _ h => h.2)) (fun _ h => h.1)) (fun _ h_ => by first | trivial | exact h_ | exact h_.1))
   have z_HO199 := fun (h0_ : b 13 = true) => (show Kd.R Kd.string 9 w22 w.heap.size (fun _ => True) v198 y197 from by first | exact (Kd.R_mono (Kd.R_keep (IsS101.apart (show IsS101 w0 _ g s0_0 t193 from by repeat (first | (with_reducible first | exact HI0.out | apply IsS101.alloc | apply IsS101.drewN | apply IsS101.drew | apply IsS101.set_1) | exact HI0.out)) dq45 dq25) hk (fun _ h => h.2)) (fun _ h => h.1)) | exact Kd.R_mono (Kd.R_mono (Kd.R_keep (IsS101.apart (show IsS101 w0 _ g s0_0 t193 from by repeat (first | (with_reducible first | exact HI0.out | apply IsS101.alloc | apply IsS101.drewN | apply IsS101.drew | apply IsS101.set_1) | exact HI0.out)) dq45 dq25) hk (fun _ h => h.2)) (fun _ h => h.1)) (fun _ h_ => by first | trivial | exact h_ | exact h_.1))
   clear HK HB HI0
   have HK := n0_
   have HB := n1_
   have HI0 := n2_
   clear n0_ n1_ n2_
   (try clear hb)
   (try clear hb2)
   (try clear hk)
   (try clear hi)
   refine hK.out _ _ ⟨v190, adz_v190, v198, adz_v198, v205, m6_, m16_, m19_, m20_, m21_, m23_, (by rw [ha.out]; exact putSel_upk 7 hb_ rfl rfl rfl), fun h0_ => absurd ((hon 1 dq24).symm.trans h0_) dq25, dq18, dq19, fun _ h1_ => absurd ((hon 5 dq24).symm.trans h1_) dq25, z_HO191, Q_HA_HO191, fun _ h1_ => absurd ((up_self b 10).symm.trans h1_) dq25, fun _ _ => dq20, z_HO199, Q_HA_HO199, fun h0_ => absurd ((hoff 15 dq24).symm.trans h0_) dq25, fun h0_ => absurd ((hoff 19 dq24).symm.trans h0_) dq25, Q_X6_, fun h0_ => absurd ((hoff 16 dq24).symm.trans h0_) dq25, fun h0_ => absurd ((hoff 19 dq24).symm.trans h0_) dq25, fun h0_ => absurd ((hoff 20 dq24).symm.trans h0_) dq25, fun h0_ => absurd ((hoff 21 dq24).symm.trans h0_) dq25, fun h0_ => absurd ((hoff 23 dq24).symm.trans h0_) dq25⟩
  refine steps_cons ?_ ?_
  ·rintro b a w' ⟨v190, adz_v190, v198, adz_v198, v205, m6_, m16_, m19_, m20_, m21_, m23_, ha, Q_HI0, Q_HK, Q_HB, Q_HI0_e1, Q_HO191, Q_HA_HO191, Q_HI0_e5, Q_HI0_e10, Q_HO199, Q_HA_HO199, Q_HI0_e15, Q_HO206, Q_X6_, Q_X16_, Q_X19_, Q_X20_, Q_X21_, Q_X23_⟩ hb_ hon hoff
   refine ⟨_, rfl, fun K hK => ?_⟩
   have e15 : a.tmps[15]? = some (.string (((⟨#[40]⟩ : ByteArray) ++ t187) ++ (rdOf ByteArray.empty y189 t192))) := by rw [ha]; exact putSel_on (e := (8, 15, .string (((⟨#[40]⟩ : ByteArray) ++ t187) ++ (rdOf ByteArray.empty y189 t192)))) 6 rfl rfl (hon 8 dq24) rfl
   have e17 : a.tmps[17]? = some (.string t195) := by rw [ha]; exact putSel_on (e := (10, 17, .string t195)) 7 rfl rfl (hon 10 dq24) rfl
   replace ha := Zq.i ha
   have HK := Zq.i Q_HK
   have HB := Zq.i Q_HB
   have HO191 := Zq.i (Q_HO191 (hon 3 dq24))
   have HA_HO191 := Zq.i (Q_HA_HO191 (hon 3 dq24))
   refine value_ (w1 := w') (v := .string ((((⟨#[40]⟩ : ByteArray) ++ t187) ++ (rdOf ByteArray.empty y189 t192)) ++ t195)) dq31 rfl ?_ ?_
   ·go_simp
    (try simp only [i64_w])
    try rfl
   refine hK.out _ _ ⟨v190, adz_v190, v198, adz_v198, v205, m6_, m16_, m19_, m20_, m21_, m23_, (by rw [ha.out]; exact putSel_upk 8 hb_ rfl rfl rfl), fun h0_ => absurd ((hon 1 dq24).symm.trans h0_) dq25, Q_HK, Q_HB, fun _ h1_ => absurd ((hon 5 dq24).symm.trans h1_) dq25, Q_HO191, Q_HA_HO191, fun _ h1_ => absurd ((hon 10 dq24).symm.trans h1_) dq25, Q_HI0_e10, Q_HO199, Q_HA_HO199, Q_HI0_e15, fun h0_ => absurd ((hoff 19 dq24).symm.trans h0_) dq25, Q_X6_, Q_X16_, fun h0_ => absurd ((hoff 19 dq24).symm.trans h0_) dq25, fun h0_ => absurd ((hoff 20 dq24).symm.trans h0_) dq25, fun h0_ => absurd ((hoff 21 dq24).symm.trans h0_) dq25, fun h0_ => absurd ((hoff 23 dq24).symm.trans h0_) dq25⟩
  refine steps_cons ?_ ?_
  ·rintro b a w' ⟨v190, adz_v190, v198, adz_v198, v205, m6_, m16_, m19_, m20_, m21_, m23_, ha, Q_HI0, Q_HK, Q_HB, Q_HI0_e1, Q_HO191, Q_HA_HO191, Q_HI0_e5, Q_HI0_e10, Q_HO199, Q_HA_HO199, Q_HI0_e15, Q_HO206, Q_X6_, Q_X16_, Q_X19_, Q_X20_, Q_X21_, Q_X23_⟩ hb_ hon hoff
   refine ⟨_, rfl, fun K hK => ?_⟩
   have e18 : a.tmps[18]? = some (.string ((((⟨#[40]⟩ : ByteArray) ++ t187) ++ (rdOf ByteArray.empty y189 t192)) ++ t195)) := by rw [ha]; exact putSel_on (e := (11, 18, .string ((((⟨#[40]⟩ : ByteArray) ++ t187) ++ (rdOf ByteArray.empty y189 t192)) ++ t195))) 8 rfl rfl (hon 11 dq24) rfl
   replace ha := Zq.i ha
   have HK := Zq.i Q_HK
   have HB := Zq.i Q_HB
   have HO191 := Zq.i (Q_HO191 (hon 3 dq24))
   have HA_HO191 := Zq.i (Q_HA_HO191 (hon 3 dq24))
   refine value_ (w1 := w') (v := .string (((((⟨#[40]⟩ : ByteArray) ++ t187) ++ (rdOf ByteArray.empty y189 t192)) ++ t195) ++ (⟨#[41]⟩ : ByteArray))) dq31 rfl ?_ ?_
   ·go_simp
    (try simp only [i64_w])
    try rfl
   refine hK.out _ _ ⟨v190, adz_v190, v198, adz_v198, v205, m6_, m16_, m19_, m20_, m21_, m23_, (by rw [ha.out]; exact putSel_upk 9 hb_ rfl rfl rfl), fun h0_ => absurd ((hon 1 dq24).symm.trans h0_) dq25, Q_HK, Q_HB, fun _ h1_ => absurd ((hon 5 dq24).symm.trans h1_) dq25, Q_HO191, Q_HA_HO191, fun _ h1_ => absurd ((hon 10 dq24).symm.trans h1_) dq25, Q_HI0_e10, Q_HO199, Q_HA_HO199, Q_HI0_e15, fun h0_ => absurd ((hoff 19 dq24).symm.trans h0_) dq25, Q_X6_, Q_X16_, fun h0_ => absurd ((hoff 19 dq24).symm.trans h0_) dq25, fun h0_ => absurd ((hoff 20 dq24).symm.trans h0_) dq25, fun h0_ => absurd ((hoff 21 dq24).symm.trans h0_) dq25, fun h0_ => absurd ((hoff 23 dq24).symm.trans h0_) dq25⟩
  refine steps_cons ?_ ?_
  ·rintro b a w' ⟨v190, adz_v190, v198, adz_v198, v205, m6_, m16_, m19_, m20_, m21_, m23_, ha, Q_HI0, Q_HK, Q_HB, Q_HI0_e1, Q_HO191, Q_HA_HO191, Q_HI0_e5, Q_HI0_e10, Q_HO199, Q_HA_HO199, Q_HI0_e15, Q_HO206, Q_X6_, Q_X16_, Q_X19_, Q_X20_, Q_X21_, Q_X23_⟩ hb_ hon hoff
   refine ⟨_, rfl, fun K hK => ?_⟩
   replace ha := Zq.i ha
   have HK := Zq.i Q_HK
   have HB := Zq.i Q_HB
   refine Kd.R_lit_step Kd.string _ 9 ?hg (N := 20) ?hd (xs := ([(⟨#[]⟩ : ByteArray), (⟨#[63]⟩ : ByteArray), (⟨#[42]⟩ : ByteArray)] : List ByteArray)) (inner := [.string (⟨#[]⟩ : ByteArray), .string (⟨#[63]⟩ : ByteArray), .string (⟨#[42]⟩ : ByteArray)]) (ok := fun _ => True) (okp := fun _ => True) ?hr ?hp (fun _ hk => hk) trivial (Below.refl _ _) (Nat.le_refl _) dq15 ?_; (case hd => rfl); (case hg => rfl); (case hr => exact dq0); (case hp => exact (Reps.one (show Kd.M Kd.string _ _ _ (⟨#[]⟩ : ByteArray) [.string (⟨#[]⟩ : ByteArray)] from rfl) (Reps.one (show Kd.M Kd.string _ _ _ (⟨#[63]⟩ : ByteArray) [.string (⟨#[63]⟩ : ByteArray)] from rfl) (Reps.one (show Kd.M Kd.string _ _ _ (⟨#[42]⟩ : ByteArray) [.string (⟨#[42]⟩ : ByteArray)] from rfl) (Reps.none _ _)))))
   intro v198 w19 ho20 hb hg_ hnew_
   clear hg_ hnew_
   (first | rw [← Ny197.out] at ho20 | (simp only [Int.reduceToNat] at ho20; rw [← Ny197.out] at ho20))
   have n0_ := Zq.i (Kd.R_lower ho20 (keep_size (w := w) (g := g) (row := none) dq18))
   have n2_ := Zq.i (KeepBut.trans dq18 (KeepBut.of_below hb g none) (.inl rfl))
   have n3_ := Zq.i (below_step dq17 hb)
   have z_HI0 := fun (h0_ : b 1 = false) => (show IsS101 w0 w19 g s0_0 s0_1 from by first | exact (IsS101.below dq46 hb))
   have z_HI0_e1 := fun (h0_ : b 1 = true) (h1_ : b 5 = false) => (show IsS101 w0 w19 g s0_0 t188 from by first | exact (IsS101.below dq47 hb))
   have z_HO191 := fun (h0_ : b 3 = true) => (show Kd.R Kd.string 9 w19 w.heap.size (fun _ => True) v190 y189 from by first | exact (Kd.R_elder' dq44 (Kd.R_base ho20) hb) | exact Kd.R_mono (Kd.R_elder' dq44 (Kd.R_base ho20) hb) (fun _ h_ => by first | trivial | exact h_ | exact h_.1))
   have z_HI0_e5 := fun (h0_ : b 5 = true) (h1_ : b 10 = false) => (show IsS101 w0 w19 g s0_0 t193 from by first | exact (IsS101.below dq48 hb))
   have z_HI0_e10 := fun (h0_ : b 10 = true) (h1_ : b 15 = false) => (show IsS101 w0 w19 g s0_0 t196 from by first | exact (IsS101.below dq49 hb))
   have z_HI0_e15 := fun (h0_ : b 15 = true) => (show IsS101 w0 w19 g s0_0 t201 from by first | exact (IsS101.below dq50 hb))
   clear HK HB
   have HO199 := n0_
   have HK := n2_
   have HB := n3_
   clear n0_ n2_ n3_ hb ho20
   obtain ⟨Ao21, co21, eo21⟩ := Kd.R_slice HO199.out
   subst eo21
   obtain ⟨ado21, fo21, _⟩ := Kd.at_string (Kd.R_reads' HO199.out).2.2 0 dq25 (by rw [Ny197.out]; simp)
   cases fo21
   refine hK.out _ _ ⟨v190, adz_v190, .slice (some ado21) y197.length co21, ado21, v205, m6_, m16_, m19_, m20_, m21_, m23_, (by rw [ha.out]; exact putSel_upk 10 hb_ rfl rfl rfl), z_HI0, dq18, dq17, z_HI0_e1, z_HO191, Q_HA_HO191, z_HI0_e5, z_HI0_e10, fun _ => dq52, fun _ => ⟨_, rfl⟩, z_HI0_e15, fun h0_ => absurd ((hoff 19 dq24).symm.trans h0_) dq25, Q_X6_, fun h0_ => absurd ((hoff 16 dq24).symm.trans h0_) dq25, fun h0_ => absurd ((hoff 19 dq24).symm.trans h0_) dq25, fun h0_ => absurd ((hoff 20 dq24).symm.trans h0_) dq25, fun h0_ => absurd ((hoff 21 dq24).symm.trans h0_) dq25, fun h0_ => absurd ((hoff 23 dq24).symm.trans h0_) dq25⟩
  refine steps_cons ?_ ?_
  ·rintro b a w' ⟨v190, adz_v190, v198, adz_v198, v205, m6_, m16_, m19_, m20_, m21_, m23_, ha, Q_HI0, Q_HK, Q_HB, Q_HI0_e1, Q_HO191, Q_HA_HO191, Q_HI0_e5, Q_HI0_e10, Q_HO199, Q_HA_HO199, Q_HI0_e15, Q_HO206, Q_X6_, Q_X16_, Q_X19_, Q_X20_, Q_X21_, Q_X23_⟩ hb_ hon hoff
   refine ⟨_, rfl, fun K hK => ?_⟩
   have e21 : a.tmps[21]? = some (.pointer (some ⟨g, 0, none⟩)) := by rw [ha]; exact (putSel_off rfl).trans rfl
   replace ha := Zq.i ha
   have HK := Zq.i Q_HK
   have HB := Zq.i Q_HB
   have HI0 := Zq.i (Q_HI0_e10 (hon 10 dq24) hb_)
   refine goes_ Try.func69 dq24 rfl #[.pointer (some ⟨g, 0, none⟩), .int .i64 3] dq31 rfl rfl (by first | (simp only [List.map_toArray, List.map_cons, List.map_nil, Act.eval, Array.getD_eq_getD_getElem?, Option.getD_some, e21]; done) | (simp only [List.map_toArray, List.map_cons, List.map_nil, Act.eval, Array.getD_eq_getD_getElem?, Option.getD_some, e21]; rfl)) ?_
   with_reducible refine (spec_l1Rd_below.calls g s0_0 t196 3 t200 t201 w0 _ ?side1 ?side2 A11.out).mono ?_
   (case side1 => exact dq1)
   (case side2 => exact dq2)
   rintro e w23 ⟨rfl, hi, hb, hk⟩
   refine ⟨_, rfl, ?_⟩
   have n0_ := Zq.i (KeepBut.trans dq18 hk (.inl rfl))
   have n1_ := Zq.i (hb)
   have n2_ := Zq.i (hi)
   have z_HO191 := fun (h0_ : b 3 = true) => (show Kd.R Kd.string 9 w23 w.heap.size (fun _ => True) v190 y189 from by first | exact (Kd.R_mono (Kd.R_keep (IsS101.apart (show IsS101 w0 _ g s0_0 t196 from by repeat (first | (with_reducible first | exact HI0.out | apply IsS101.alloc | apply IsS101.drewN | apply IsS101.drew | apply IsS101.set_1) | exact HI0.out)) dq44 dq25) hk (fun _ h => h.2)) (fun _ h => h.1)) | exact Kd.R_mono (Kd.R_mono (Kd.R_keep (IsS101.apart (show IsS101 w0 _ g s0_0 t196 from by repeat (first | (with_reducible first | exact HI0.out | apply IsS101.alloc | apply IsS101.drewN | apply IsS101.drew | apply IsS101.set_1) | exact HI0.out)) dq44 dq25) hk (fun _ h => h.2)) (fun _ h => h.1)) (fun _ h_ => by first | trivial | exact h_ | exact h_.1))
   have z_HO199 := fun (h0_ : b 13 = true) => (show Kd.R Kd.string 9 w23 w.heap.size (fun _ => True) v198 y197 from by first | exact (Kd.R_mono (Kd.R_keep (IsS101.apart (show IsS101 w0 _ g s0_0 t196 from by repeat (first | (with_reducible first | exact HI0.out | apply IsS101.alloc | apply IsS101.drewN | apply IsS101.drew | apply IsS101.set_1) | exact HI0.out)) dq45 dq25) hk (fun _ h => h.2)) (fun _ h => h.1)) | exact Kd.R_mono (Kd.R_mono (Kd.R_keep (IsS101.apart (show IsS101 w0 _ g s0_0 t196 from by repeat (first | (with_reducible first | exact HI0.out | apply IsS101.alloc | apply IsS101.drewN | apply IsS101.drew | apply IsS101.set_1) | exact HI0.out)) dq45 dq25) hk (fun _ h => h.2)) (fun _ h => h.1)) (fun _ h_ => by first | trivial | exact h_ | exact h_.1))
   clear HK HB HI0
   have HK := n0_
   have HB := n1_
   have HI0 := n2_
   clear n0_ n1_ n2_
   (try clear hb)
   (try clear hb2)
   (try clear hk)
   (try clear hi)
   refine hK.out _ _ ⟨v190, adz_v190, v198, adz_v198, v205, m6_, m16_, m19_, m20_, m21_, m23_, (by rw [ha.out]; exact putSel_upk 11 hb_ rfl rfl rfl), fun h0_ => absurd ((hon 1 dq24).symm.trans h0_) dq25, dq18, dq19, fun _ h1_ => absurd ((hon 5 dq24).symm.trans h1_) dq25, z_HO191, Q_HA_HO191, fun _ h1_ => absurd ((hon 10 dq24).symm.trans h1_) dq25, fun _ h1_ => absurd ((up_self b 15).symm.trans h1_) dq25, z_HO199, Q_HA_HO199, fun _ => dq20, fun h0_ => absurd ((hoff 19 dq24).symm.trans h0_) dq25, Q_X6_, fun h0_ => absurd ((hoff 16 dq24).symm.trans h0_) dq25, fun h0_ => absurd ((hoff 19 dq24).symm.trans h0_) dq25, fun h0_ => absurd ((hoff 20 dq24).symm.trans h0_) dq25, fun h0_ => absurd ((hoff 21 dq24).symm.trans h0_) dq25, fun h0_ => absurd ((hoff 23 dq24).symm.trans h0_) dq25⟩
  refine steps_cons ?_ ?_
  ·rintro b a w' ⟨v190, adz_v190, v198, adz_v198, v205, m6_, m16_, m19_, m20_, m21_, m23_, ha, Q_HI0, Q_HK, Q_HB, Q_HI0_e1, Q_HO191, Q_HA_HO191, Q_HI0_e5, Q_HI0_e10, Q_HO199, Q_HA_HO199, Q_HI0_e15, Q_HO206, Q_X6_, Q_X16_, Q_X19_, Q_X20_, Q_X21_, Q_X23_⟩ hb_ hon hoff
   refine ⟨_, rfl, fun K hK => ?_⟩
   have e20 : a.tmps[20]? = some (v198) := by rw [ha]; exact putSel_on (e := (13, 20, v198)) 10 rfl rfl (hon 13 dq24) rfl
   have e22 : a.tmps[22]? = some (.int .i64 t200) := by rw [ha]; exact putSel_on (e := (15, 22, .int .i64 t200)) 11 rfl rfl (hon 15 dq24) rfl
   replace ha := Zq.i ha
   have HK := Zq.i Q_HK
   have HB := Zq.i Q_HB
   have HO199 := Zq.i (Q_HO199 (hon 13 dq24))
   have HA_HO199 := Zq.i (Q_HA_HO199 (hon 13 dq24))
   have HI0 := Zq.i (Q_HI0_e15 (hon 15 dq24))
   obtain ⟨c_, hv_⟩ := HA_HO199.out
   rw [hv_] at e20
   refine value_ (w1 := w') (v := .pointer (some (adz_v198.add (t200).toNat))) dq31 rfl ?_ ?_
   ·go_simp
    (try simp only [i64_w])
    try rfl
   refine hK.out _ _ ⟨v190, adz_v190, v198, adz_v198, v205, m6_, (.pointer (some (adz_v198.add (t200).toNat))), m19_, m20_, m21_, m23_, (by rw [ha.out]; exact putSel_upk 12 hb_ rfl rfl rfl), fun h0_ => absurd ((hon 1 dq24).symm.trans h0_) dq25, Q_HK, Q_HB, fun _ h1_ => absurd ((hon 5 dq24).symm.trans h1_) dq25, Q_HO191, Q_HA_HO191, fun _ h1_ => absurd ((hon 10 dq24).symm.trans h1_) dq25, fun _ h1_ => absurd ((hon 15 dq24).symm.trans h1_) dq25, Q_HO199, Q_HA_HO199, Q_HI0_e15, fun h0_ => absurd ((hoff 19 dq24).symm.trans h0_) dq25, Q_X6_, fun _ => rfl, fun h0_ => absurd ((hoff 19 dq24).symm.trans h0_) dq25, fun h0_ => absurd ((hoff 20 dq24).symm.trans h0_) dq25, fun h0_ => absurd ((hoff 21 dq24).symm.trans h0_) dq25, fun h0_ => absurd ((hoff 23 dq24).symm.trans h0_) dq25⟩
  refine steps_cons ?_ ?_
  ·rintro b a w' ⟨v190, adz_v190, v198, adz_v198, v205, m6_, m16_, m19_, m20_, m21_, m23_, ha, Q_HI0, Q_HK, Q_HB, Q_HI0_e1, Q_HO191, Q_HA_HO191, Q_HI0_e5, Q_HI0_e10, Q_HO199, Q_HA_HO199, Q_HI0_e15, Q_HO206, Q_X6_, Q_X16_, Q_X19_, Q_X20_, Q_X21_, Q_X23_⟩ hb_ hon hoff
   refine ⟨_, rfl, fun K hK => ?_⟩
   have e23 : a.tmps[23]? = some (m16_) := by rw [ha]; exact putSel_on (e := (16, 23, m16_)) 12 rfl rfl (hon 16 dq24) rfl
   rw [Q_X16_ (hon 16 dq24)] at e23
   replace ha := Zq.i ha
   have HK := Zq.i Q_HK
   have HB := Zq.i Q_HB
   have HO199 := Zq.i (Q_HO199 (hon 13 dq24))
   have HA_HO199 := Zq.i (Q_HA_HO199 (hon 13 dq24))
   have HI0 := Zq.i (Q_HI0_e15 (hon 15 dq24))
   obtain ⟨c_, hv_⟩ := HA_HO199.out
   have hF_ := HO199.out
   rw [hv_] at hF_
   obtain ⟨ad_, ea_, hx_⟩ := Kd.at_string (Kd.R_reads' hF_).2.2 t200 (of_eq_true pi202) (of_eq_true qi202)
   cases ea_
   refine value_ (w1 := w') (v := .string (rdOf ByteArray.empty y197 t200)) dq31 rfl ?_ ?_
   ·go_simp
    (try simp only [i64_w])
    try rfl
   refine hK.out _ _ ⟨v190, adz_v190, v198, adz_v198, v205, m6_, m16_, m19_, m20_, m21_, m23_, (by rw [ha.out]; exact putSel_upk 13 hb_ rfl rfl rfl), fun h0_ => absurd ((hon 1 dq24).symm.trans h0_) dq25, Q_HK, Q_HB, fun _ h1_ => absurd ((hon 5 dq24).symm.trans h1_) dq25, Q_HO191, Q_HA_HO191, fun _ h1_ => absurd ((hon 10 dq24).symm.trans h1_) dq25, fun _ h1_ => absurd ((hon 15 dq24).symm.trans h1_) dq25, Q_HO199, Q_HA_HO199, Q_HI0_e15, fun h0_ => absurd ((hoff 19 dq24).symm.trans h0_) dq25, Q_X6_, Q_X16_, fun h0_ => absurd ((hoff 19 dq24).symm.trans h0_) dq25, fun h0_ => absurd ((hoff 20 dq24).symm.trans h0_) dq25, fun h0_ => absurd ((hoff 21 dq24).symm.trans h0_) dq25, fun h0_ => absurd ((hoff 23 dq24).symm.trans h0_) dq25⟩
  refine steps_cons ?_ ?_
  ·rintro b a w' ⟨v190, adz_v190, v198, adz_v198, v205, m6_, m16_, m19_, m20_, m21_, m23_, ha, Q_HI0, Q_HK, Q_HB, Q_HI0_e1, Q_HO191, Q_HA_HO191, Q_HI0_e5, Q_HI0_e10, Q_HO199, Q_HA_HO199, Q_HI0_e15, Q_HO206, Q_X6_, Q_X16_, Q_X19_, Q_X20_, Q_X21_, Q_X23_⟩ hb_ hon hoff
   refine ⟨_, rfl, fun K hK => ?_⟩
   have e19 : a.tmps[19]? = some (.string (((((⟨#[40]⟩ : ByteArray) ++ t187) ++ (rdOf ByteArray.empty y189 t192)) ++ t195) ++ (⟨#[41]⟩ : ByteArray))) := by rw [ha]; exact putSel_on (e := (12, 19, .string (((((⟨#[40]⟩ : ByteArray) ++ t187) ++ (rdOf ByteArray.empty y189 t192)) ++ t195) ++ (⟨#[41]⟩ : ByteArray)))) 9 rfl rfl (hon 12 dq24) rfl
   have e24 : a.tmps[24]? = some (.string (rdOf ByteArray.empty y197 t200)) := by rw [ha]; exact putSel_on (e := (17, 24, .string (rdOf ByteArray.empty y197 t200))) 13 rfl rfl (hon 17 dq24) rfl
   replace ha := Zq.i ha
   have HK := Zq.i Q_HK
   have HB := Zq.i Q_HB
   have HO191 := Zq.i (Q_HO191 (hon 3 dq24))
   have HA_HO191 := Zq.i (Q_HA_HO191 (hon 3 dq24))
   have HO199 := Zq.i (Q_HO199 (hon 13 dq24))
   have HA_HO199 := Zq.i (Q_HA_HO199 (hon 13 dq24))
   have HI0 := Zq.i (Q_HI0_e15 (hon 15 dq24))
   refine value_ (w1 := w') (v := .string ((((((⟨#[40]⟩ : ByteArray) ++ t187) ++ (rdOf ByteArray.empty y189 t192)) ++ t195) ++ (⟨#[41]⟩ : ByteArray)) ++ (rdOf ByteArray.empty y197 t200))) dq31 rfl ?_ ?_
   ·go_simp
    (try simp only [i64_w])
    try rfl
   refine hK.out _ _ ⟨v190, adz_v190, v198, adz_v198, v205, m6_, m16_, m19_, m20_, m21_, m23_, (by rw [ha.out]; exact putSel_upk 14 hb_ rfl rfl rfl), fun h0_ => absurd ((hon 1 dq24).symm.trans h0_) dq25, Q_HK, Q_HB, fun _ h1_ => absurd ((hon 5 dq24).symm.trans h1_) dq25, Q_HO191, Q_HA_HO191, fun _ h1_ => absurd ((hon 10 dq24).symm.trans h1_) dq25, fun _ h1_ => absurd ((hon 15 dq24).symm.trans h1_) dq25, Q_HO199, Q_HA_HO199, Q_HI0_e15, fun h0_ => absurd ((hoff 19 dq24).symm.trans h0_) dq25, Q_X6_, Q_X16_, fun h0_ => absurd ((hoff 19 dq24).symm.trans h0_) dq25, fun h0_ => absurd ((hoff 20 dq24).symm.trans h0_) dq25, fun h0_ => absurd ((hoff 21 dq24).symm.trans h0_) dq25, fun h0_ => absurd ((hoff 23 dq24).symm.trans h0_) dq25⟩
  refine steps_cons ?_ ?_
  ·rintro b a w' ⟨v190, adz_v190, v198, adz_v198, v205, m6_, m16_, m19_, m20_, m21_, m23_, ha, Q_HI0, Q_HK, Q_HB, Q_HI0_e1, Q_HO191, Q_HA_HO191, Q_HI0_e5, Q_HI0_e10, Q_HO199, Q_HA_HO199, Q_HI0_e15, Q_HO206, Q_X6_, Q_X16_, Q_X19_, Q_X20_, Q_X21_, Q_X23_⟩ hb_ hon hoff
   refine ⟨_, rfl, fun K hK => ?_⟩
   have e25 : a.tmps[25]? = some (.string ((((((⟨#[40]⟩ : ByteArray) ++ t187) ++ (rdOf ByteArray.empty y189 t192)) ++ t195) ++ (⟨#[41]⟩ : ByteArray)) ++ (rdOf ByteArray.empty y197 t200))) := by rw [ha]; exact putSel_on (e := (18, 25, .string ((((((⟨#[40]⟩ : ByteArray) ++ t187) ++ (rdOf ByteArray.empty y189 t192)) ++ t195) ++ (⟨#[41]⟩ : ByteArray)) ++ (rdOf ByteArray.empty y197 t200)))) 14 rfl rfl (hon 18 dq24) rfl
   replace ha := Zq.i ha
   have HK := Zq.i Q_HK
   have HB := Zq.i Q_HB
   have HO191 := Zq.i (Q_HO191 (hon 3 dq24))
   have HA_HO191 := Zq.i (Q_HA_HO191 (hon 3 dq24))
   have HO199 := Zq.i (Q_HO199 (hon 13 dq24))
   have HA_HO199 := Zq.i (Q_HA_HO199 (hon 13 dq24))
   have HI0 := Zq.i (Q_HI0_e15 (hon 15 dq24))
   obtain ⟨co30, eo30⟩ := HA_HO191.out
   clear HA_HO191
   subst eo30
   obtain ⟨co31, eo31⟩ := HA_HO199.out
   clear HA_HO199
   subst eo31
   refine goes_ Try.func9 dq24 rfl #[.string ((((((⟨#[40]⟩ : ByteArray) ++ t187) ++ (rdOf ByteArray.empty y189 t192)) ++ t195) ++ (⟨#[41]⟩ : ByteArray)) ++ (rdOf ByteArray.empty y197 t200))] dq31 rfl rfl (by first | (simp only [List.map_toArray, List.map_cons, List.map_nil, Act.eval, Array.getD_eq_getD_getElem?, Option.getD_some, e25]; done) | (simp only [List.map_toArray, List.map_cons, List.map_nil, Act.eval, Array.getD_eq_getD_getElem?, Option.getD_some, e25]; rfl)) ?_
   with_reducible refine (spec_ReadModel.calls k ((((((⟨#[40]⟩ : ByteArray) ++ t187) ++ (rdOf ByteArray.empty y189 t192)) ++ t195) ++ (⟨#[41]⟩ : ByteArray)) ++ (rdOf ByteArray.empty y197 t200)) t203 t204 _ A15.out).mono ?_
   rintro e w32 ⟨v205, rfl, ho0, hb⟩
   refine ⟨_, rfl, ?_⟩
   replace HO191 := Zq.i (Kd.R_below dq51 hb)
   replace HO199 := Zq.i (Kd.R_below dq52 hb)
   have HO206 := Zq.i (Kd.S_lower ho0 (keep_size (w := w) (g := g) (row := none) dq18))
   replace HK := Zq.i (KeepBut.trans dq18 (KeepBut.of_below hb g none) (.inl rfl))
   replace HB := Zq.i (below_step dq19 hb)
   replace HI0 := Zq.i (IsS101.below dq20 hb)
   (try clear hb)
   (try clear hb2)
   (try clear hk)
   (try clear hi)
   (try clear ho0)
   refine hK.out _ _ ⟨.slice (some adz_v190) y189.length co30, adz_v190, .slice (some adz_v198) y197.length co31, adz_v198, v205, m6_, m16_, (.tuple #[v205, .bool t204]), m20_, m21_, m23_, (by rw [ha.out]; exact putSel_upk 15 hb_ rfl rfl rfl), fun h0_ => absurd ((hon 1 dq24).symm.trans h0_) dq25, dq18, dq19, fun _ h1_ => absurd ((hon 5 dq24).symm.trans h1_) dq25, fun _ => dq51, fun _ => ⟨_, rfl⟩, fun _ h1_ => absurd ((hon 10 dq24).symm.trans h1_) dq25, fun _ h1_ => absurd ((hon 15 dq24).symm.trans h1_) dq25, fun _ => dq52, fun _ => ⟨_, rfl⟩, fun _ => dq20, fun _ => dq53, Q_X6_, Q_X16_, fun _ => rfl, fun h0_ => absurd ((hoff 20 dq24).symm.trans h0_) dq25, fun h0_ => absurd ((hoff 21 dq24).symm.trans h0_) dq25, fun h0_ => absurd ((hoff 23 dq24).symm.trans h0_) dq25⟩
  refine steps_cons ?_ ?_
  ·rintro b a w' ⟨v190, adz_v190, v198, adz_v198, v205, m6_, m16_, m19_, m20_, m21_, m23_, ha, Q_HI0, Q_HK, Q_HB, Q_HI0_e1, Q_HO191, Q_HA_HO191, Q_HI0_e5, Q_HI0_e10, Q_HO199, Q_HA_HO199, Q_HI0_e15, Q_HO206, Q_X6_, Q_X16_, Q_X19_, Q_X20_, Q_X21_, Q_X23_⟩ hb_ hon hoff
   refine ⟨_, rfl, fun K hK => ?_⟩
   have e26 : a.tmps[26]? = some (m19_) := by rw [ha]; exact putSel_on (e := (19, 26, m19_)) 15 rfl rfl (hon 19 dq24) rfl
   rw [Q_X19_ (hon 19 dq24)] at e26
   replace ha := Zq.i ha
   have HK := Zq.i Q_HK
   have HB := Zq.i Q_HB
   have HO191 := Zq.i (Q_HO191 (hon 3 dq24))
   have HA_HO191 := Zq.i (Q_HA_HO191 (hon 3 dq24))
   have HO199 := Zq.i (Q_HO199 (hon 13 dq24))
   have HA_HO199 := Zq.i (Q_HA_HO199 (hon 13 dq24))
   have HI0 := Zq.i (Q_HI0_e15 (hon 15 dq24))
   have HO206 := Zq.i (Q_HO206 (hon 19 dq24))
   refine value_ (w1 := w') (v := .tuple #[v205, .bool t204]) dq31 rfl ?_ ?_
   ·go_simp
    (try simp only [i64_w])
    try rfl
   refine hK.out _ _ ⟨v190, adz_v190, v198, adz_v198, v205, m6_, m16_, m19_, (.tuple #[v205, .bool t204]), m21_, m23_, (by rw [ha.out]; exact putSel_upk 16 hb_ rfl rfl rfl), fun h0_ => absurd ((hon 1 dq24).symm.trans h0_) dq25, Q_HK, Q_HB, fun _ h1_ => absurd ((hon 5 dq24).symm.trans h1_) dq25, Q_HO191, Q_HA_HO191, fun _ h1_ => absurd ((hon 10 dq24).symm.trans h1_) dq25, fun _ h1_ => absurd ((hon 15 dq24).symm.trans h1_) dq25, Q_HO199, Q_HA_HO199, Q_HI0_e15, Q_HO206, Q_X6_, Q_X16_, Q_X19_, fun _ => rfl, fun h0_ => absurd ((hoff 21 dq24).symm.trans h0_) dq25, fun h0_ => absurd ((hoff 23 dq24).symm.trans h0_) dq25⟩
  refine steps_cons ?_ ?_
  ·rintro b a w' ⟨v190, adz_v190, v198, adz_v198, v205, m6_, m16_, m19_, m20_, m21_, m23_, ha, Q_HI0, Q_HK, Q_HB, Q_HI0_e1, Q_HO191, Q_HA_HO191, Q_HI0_e5, Q_HI0_e10, Q_HO199, Q_HA_HO199, Q_HI0_e15, Q_HO206, Q_X6_, Q_X16_, Q_X19_, Q_X20_, Q_X21_, Q_X23_⟩ hb_ hon hoff
   refine ⟨_, rfl, fun K hK => ?_⟩
   have e6 : a.tmps[6]? = some (m20_) := by rw [ha]; exact putSel_on (e := (20, 6, m20_)) 16 rfl rfl (hon 20 dq24) rfl
   rw [Q_X20_ (hon 20 dq24)] at e6
   replace ha := Zq.i ha
   have HK := Zq.i Q_HK
   have HB := Zq.i Q_HB
   have HO191 := Zq.i (Q_HO191 (hon 3 dq24))
   have HA_HO191 := Zq.i (Q_HA_HO191 (hon 3 dq24))
   have HO199 := Zq.i (Q_HO199 (hon 13 dq24))
   have HA_HO199 := Zq.i (Q_HA_HO199 (hon 13 dq24))
   have HI0 := Zq.i (Q_HI0_e15 (hon 15 dq24))
   have HO206 := Zq.i (Q_HO206 (hon 19 dq24))
   obtain ⟨Ao21_0, co21_0, eo_⟩ := Kd.S_slice HO206.out
   subst eo_
   refine value_ (w1 := w') (v := .slice Ao21_0 t203.length co21_0) dq31 rfl ?_ ?_
   ·go_simp
    (try simp only [i64_w])
    try rfl
   refine hK.out _ _ ⟨v190, adz_v190, v198, adz_v198, .slice Ao21_0 t203.length co21_0, m6_, m16_, m19_, m20_, (.slice Ao21_0 t203.length co21_0), m23_, (by rw [ha.out]; exact putSel_upk 17 hb_ rfl rfl rfl), fun h0_ => absurd ((hon 1 dq24).symm.trans h0_) dq25, Q_HK, Q_HB, fun _ h1_ => absurd ((hon 5 dq24).symm.trans h1_) dq25, Q_HO191, Q_HA_HO191, fun _ h1_ => absurd ((hon 10 dq24).symm.trans h1_) dq25, fun _ h1_ => absurd ((hon 15 dq24).symm.trans h1_) dq25, Q_HO199, Q_HA_HO199, Q_HI0_e15, Q_HO206, Q_X6_, Q_X16_, Q_X19_, Q_X20_, fun _ => rfl, fun h0_ => absurd ((hoff 23 dq24).symm.trans h0_) dq25⟩
  refine steps_cons ?_ ?_
  ·rintro b a w' ⟨v190, adz_v190, v198, adz_v198, v205, m6_, m16_, m19_, m20_, m21_, m23_, ha, Q_HI0, Q_HK, Q_HB, Q_HI0_e1, Q_HO191, Q_HA_HO191, Q_HI0_e5, Q_HI0_e10, Q_HO199, Q_HA_HO199, Q_HI0_e15, Q_HO206, Q_X6_, Q_X16_, Q_X19_, Q_X20_, Q_X21_, Q_X23_⟩ hb_ hon hoff
   refine ⟨_, rfl, fun K hK => ?_⟩
   have e6 : a.tmps[6]? = some (m20_) := by rw [ha]; exact putSel_on (e := (20, 6, m20_)) 16 rfl rfl (hon 20 dq24) rfl
   rw [Q_X20_ (hon 20 dq24)] at e6
   replace ha := Zq.i ha
   have HK := Zq.i Q_HK
   have HB := Zq.i Q_HB
   have HO191 := Zq.i (Q_HO191 (hon 3 dq24))
   have HA_HO191 := Zq.i (Q_HA_HO191 (hon 3 dq24))
   have HO199 := Zq.i (Q_HO199 (hon 13 dq24))
   have HA_HO199 := Zq.i (Q_HA_HO199 (hon 13 dq24))
   have HI0 := Zq.i (Q_HI0_e15 (hon 15 dq24))
   have HO206 := Zq.i (Q_HO206 (hon 19 dq24))
   obtain ⟨Ao22_0, co22_0, eo_⟩ := Kd.S_slice HO206.out
   subst eo_
   refine value_ (w1 := w') (v := .bool t204) dq31 rfl ?_ ?_
   ·go_simp
    (try simp only [i64_w])
    try rfl
   refine hK.out _ _ ⟨v190, adz_v190, v198, adz_v198, .slice Ao22_0 t203.length co22_0, m6_, m16_, m19_, m20_, m21_, m23_, (by rw [ha.out]; exact putSel_upk 18 hb_ rfl rfl rfl), fun h0_ => absurd ((hon 1 dq24).symm.trans h0_) dq25, Q_HK, Q_HB, fun _ h1_ => absurd ((hon 5 dq24).symm.trans h1_) dq25, Q_HO191, Q_HA_HO191, fun _ h1_ => absurd ((hon 10 dq24).symm.trans h1_) dq25, fun _ h1_ => absurd ((hon 15 dq24).symm.trans h1_) dq25, Q_HO199, Q_HA_HO199, Q_HI0_e15, Q_HO206, Q_X6_, Q_X16_, Q_X19_, Q_X20_, Q_X21_, Q_X23_⟩
  refine steps_cons ?_ ?_
  ·rintro b a w' ⟨v190, adz_v190, v198, adz_v198, v205, m6_, m16_, m19_, m20_, m21_, m23_, ha, Q_HI0, Q_HK, Q_HB, Q_HI0_e1, Q_HO191, Q_HA_HO191, Q_HI0_e5, Q_HI0_e10, Q_HO199, Q_HA_HO199, Q_HI0_e15, Q_HO206, Q_X6_, Q_X16_, Q_X19_, Q_X20_, Q_X21_, Q_X23_⟩ hb_ hon hoff
   refine ⟨_, rfl, fun K hK => ?_⟩
   have e27 : a.tmps[27]? = some (m21_) := by rw [ha]; exact putSel_on (e := (21, 27, m21_)) 17 rfl rfl (hon 21 dq24) rfl
   rw [Q_X21_ (hon 21 dq24)] at e27
   replace ha := Zq.i ha
   have HK := Zq.i Q_HK
   have HB := Zq.i Q_HB
   have HO191 := Zq.i (Q_HO191 (hon 3 dq24))
   have HA_HO191 := Zq.i (Q_HA_HO191 (hon 3 dq24))
   have HO199 := Zq.i (Q_HO199 (hon 13 dq24))
   have HA_HO199 := Zq.i (Q_HA_HO199 (hon 13 dq24))
   have HI0 := Zq.i (Q_HI0_e15 (hon 15 dq24))
   have HO206 := Zq.i (Q_HO206 (hon 19 dq24))
   refine value_ (w1 := w') (v := v205) dq31 rfl ?_ ?_
   ·go_simp
    (try simp only [i64_w])
    try rfl
   refine hK.out _ _ ⟨v190, adz_v190, v198, adz_v198, v205, m6_, m16_, m19_, m20_, m21_, (v205), (by rw [ha.out]; exact putSel_upk 19 hb_ rfl rfl rfl), fun h0_ => absurd ((hon 1 dq24).symm.trans h0_) dq25, Q_HK, Q_HB, fun _ h1_ => absurd ((hon 5 dq24).symm.trans h1_) dq25, Q_HO191, Q_HA_HO191, fun _ h1_ => absurd ((hon 10 dq24).symm.trans h1_) dq25, fun _ h1_ => absurd ((hon 15 dq24).symm.trans h1_) dq25, Q_HO199, Q_HA_HO199, Q_HI0_e15, Q_HO206, Q_X6_, Q_X16_, Q_X19_, Q_X20_, Q_X21_, fun _ => rfl⟩
  refine steps_cons ?_ ?_
  ·rintro b a w' ⟨v190, adz_v190, v198, adz_v198, v205, m6_, m16_, m19_, m20_, m21_, m23_, ha, Q_HI0, Q_HK, Q_HB, Q_HI0_e1, Q_HO191, Q_HA_HO191, Q_HI0_e5, Q_HI0_e10, Q_HO199, Q_HA_HO199, Q_HI0_e15, Q_HO206, Q_X6_, Q_X16_, Q_X19_, Q_X20_, Q_X21_, Q_X23_⟩ hb_ hon hoff
   refine ⟨_, rfl, fun K hK => ?_⟩
   have e28 : a.tmps[28]? = some (.bool t204) := by rw [ha]; exact putSel_on (e := (22, 28, .bool t204)) 18 rfl rfl (hon 22 dq24) rfl
   replace ha := Zq.i ha
   have HK := Zq.i Q_HK
   have HB := Zq.i Q_HB
   have HO191 := Zq.i (Q_HO191 (hon 3 dq24))
   have HA_HO191 := Zq.i (Q_HA_HO191 (hon 3 dq24))
   have HO199 := Zq.i (Q_HO199 (hon 13 dq24))
   have HA_HO199 := Zq.i (Q_HA_HO199 (hon 13 dq24))
   have HI0 := Zq.i (Q_HI0_e15 (hon 15 dq24))
   have HO206 := Zq.i (Q_HO206 (hon 19 dq24))
   refine value_ (w1 := w') (v := .bool t204) dq31 rfl ?_ ?_
   ·go_simp
    (try simp only [i64_w])
    try rfl
   refine hK.out _ _ ⟨v190, adz_v190, v198, adz_v198, v205, m6_, m16_, m19_, m20_, m21_, m23_, (by rw [ha.out]; exact putSel_upk 20 hb_ rfl rfl rfl), fun h0_ => absurd ((hon 1 dq24).symm.trans h0_) dq25, Q_HK, Q_HB, fun _ h1_ => absurd ((hon 5 dq24).symm.trans h1_) dq25, Q_HO191, Q_HA_HO191, fun _ h1_ => absurd ((hon 10 dq24).symm.trans h1_) dq25, fun _ h1_ => absurd ((hon 15 dq24).symm.trans h1_) dq25, Q_HO199, Q_HA_HO199, Q_HI0_e15, Q_HO206, Q_X6_, Q_X16_, Q_X19_, Q_X20_, Q_X21_, Q_X23_⟩
  exact steps_nil
 rintro b a w30 hall ⟨v190, adz_v190, v198, adz_v198, v205, m6_, m16_, m19_, m20_, m21_, m23_, ha, Q_HI0, Q_HK, Q_HB, Q_HI0_e1, Q_HO191, Q_HA_HO191, Q_HI0_e5, Q_HI0_e10, Q_HO199, Q_HA_HO199, Q_HI0_e15, Q_HO206, Q_X6_, Q_X16_, Q_X19_, Q_X20_, Q_X21_, Q_X23_⟩
 clear HB HI0 HK
 have hb1_ := hall 1 dq24
 have hb2_ := hall 2 dq24
 have hb3_ := hall 3 dq24
 have hb5_ := hall 5 dq24
 have hb6_ := hall 6 dq24
 have hb7_ := hall 7 dq24
 have hb8_ := hall 8 dq24
 have hb10_ := hall 10 dq24
 have hb11_ := hall 11 dq24
 have hb12_ := hall 12 dq24
 have hb13_ := hall 13 dq24
 have hb15_ := hall 15 dq24
 have hb16_ := hall 16 dq24
 have hb17_ := hall 17 dq24
 have hb18_ := hall 18 dq24
 have hb19_ := hall 19 dq24
 have hb20_ := hall 20 dq24
 have hb21_ := hall 21 dq24
 have hb22_ := hall 22 dq24
 have hb23_ := hall 23 dq24
 have hb24_ := hall 24 dq24
 subst ha
 obtain rfl := Q_X6_ hb6_
 obtain rfl := Q_X16_ hb16_
 obtain rfl := Q_X19_ hb19_
 obtain rfl := Q_X20_ hb20_
 obtain rfl := Q_X21_ hb21_
 obtain rfl := Q_X23_ hb23_
 simp only [putSel, hb1_, hb2_, hb3_, hb5_, hb6_, hb7_, hb8_, hb10_, hb11_, hb12_, hb13_, hb15_, hb16_, hb17_, hb18_, hb19_, hb20_, hb21_, hb22_, hb23_, hb24_, if_true, Act.put, List.setIfInBounds_toArray, List.set_cons_zero, List.set_cons_succ]
 clear Q_HI0
 have HK := Zq.i Q_HK
 clear Q_HK
 have HB := Zq.i Q_HB
 clear Q_HB Q_HI0_e1
 have HO191 := Zq.i (Q_HO191 hb3_)
 clear Q_HO191
 have HA_HO191 := Zq.i (Q_HA_HO191 hb3_)
 clear Q_HA_HO191 Q_HI0_e5 Q_HI0_e10
 have HO199 := Zq.i (Q_HO199 hb13_)
 clear Q_HO199
 have HA_HO199 := Zq.i (Q_HA_HO199 hb13_)
 clear Q_HA_HO199
 have HI0 := Zq.i (Q_HI0_e15 hb15_)
 clear Q_HI0_e15
 have HO206 := Zq.i (Q_HO206 hb19_)
 clear Q_HO206 hall hb1_ hb2_ hb3_ hb5_ hb6_ hb7_ hb8_ hb10_ hb11_ hb12_ hb13_ hb15_ hb16_ hb17_ hb18_ hb19_ hb20_ hb21_ hb22_ hb23_ hb24_
 obtain ⟨co31, eo31⟩ := HA_HO191.out
 clear HA_HO191
 subst eo31
 obtain ⟨co32, eo32⟩ := HA_HO199.out
 clear HA_HO199
 subst eo32
 go_upto_if 30 with (first | ((with_reducible refine gate_callee (f := 100) rfl ?_); refine goesL_ (some 30) rfl rfl Try.func100 dq24 rfl #[.pointer (some ⟨g, 0, none⟩), .int .i64 3] rfl dq23 ?_; (with_reducible refine (spec_l1Rd_once.calls g s0_0 t201 3 t207 t208 w0 _ ?side1 ?side2 A16.out).mono ?_); (case side1 => exact dq1); (case side2 => exact dq2); rintro e w33 ⟨rfl, hi, hb, hk⟩; refine ⟨_, rfl, ?_⟩; replace HO191 := Zq.i (Kd.R_mono (Kd.R_keep (IsS101.apart (show IsS101 w0 _ g s0_0 t201 from by repeat (first | (with_reducible first | exact HI0.out | apply IsS101.alloc | apply IsS101.drewN | apply IsS101.drew | apply IsS101.set_1) | exact HI0.out)) dq51 dq25) hk (fun _ h => h.2)) (fun _ h => h.1)); replace HO199 := Zq.i (Kd.R_mono (Kd.R_keep (IsS101.apart (show IsS101 w0 _ g s0_0 t201 from by repeat (first | (with_reducible first | exact HI0.out | apply IsS101.alloc | apply IsS101.drewN | apply IsS101.drew | apply IsS101.set_1) | exact HI0.out)) dq52 dq25) hk (fun _ h => h.2)) (fun _ h => h.1)); replace HO206 := Zq.i (Kd.S_mono (Kd.S_keep (IsS101.apartS (show IsS101 w0 _ g s0_0 t201 from by repeat (first | (with_reducible first | exact HI0.out | apply IsS101.alloc | apply IsS101.drewN | apply IsS101.drew | apply IsS101.set_1) | exact HI0.out)) dq53 dq25) hk (fun _ h => h.2)) (fun _ h => h.1)); replace HK := Zq.i (KeepBut.trans dq18 hk (.inl rfl)); replace HB := Zq.i (hb); replace HI0 := Zq.i (hi); (try clear hb hk hi)))
 (try simp only [Act.put, List.setIfInBounds_toArray, List.set_cons_zero, List.set_cons_succ])
 go_cut [3] (fun v3 wc => ∃ (kq : Nat) (x3_16 : List (S42)) (x1001_16 : Int), Zq (spec_l1Rd_model.j0 kq x3_16 s0_0 x1001_16 = some (r1, r2)) ∧ Zq (kq ≤ k) ∧ Zq (Kd.S k42 42 wc w.heap.size (fun _ => True) v3 x3_16) ∧ Zq (IsS101 w0 wc g s0_0 x1001_16) ∧ Zq (KeepBut w wc g none) ∧ Zq (Below w0.heap.size w0 wc))
 case first =>
  have H := HC17.out
  clear HC17
  by_cases c34 : t207 = true
  rotate_left
  ·replace c34 := Bool.eq_false_iff.mpr c34
   subst c34
   rw [iN] at H
   have H' := Zq.i H
   clear H
   go_wp2
   go_meet
   case rel => exact ⟨_, (t203), (t208), H', ⟨dq26⟩, ⟨dq53⟩, ⟨dq20⟩, ⟨dq18⟩, ⟨dq19⟩⟩
  subst c34
  rw [if_pos rfl] at H
  obtain ⟨y209, hy209⟩ : ∃ y_ : List ByteArray, y_ = (([(⟨#[40, 41]⟩ : ByteArray), (⟨#[40, 97, 41]⟩ : ByteArray), (⟨#[40, 97, 44, 98, 63, 44, 99, 42, 41]⟩ : ByteArray), (⟨#[40, 97, 124, 98, 41, 42]⟩ : ByteArray), (⟨#[40, 97, 44, 40, 98, 124, 99, 41, 43, 44, 100, 63, 41]⟩ : ByteArray), (⟨#[40, 40, 97, 44, 98, 41, 124, 40, 99, 44, 100, 41, 41, 42]⟩ : ByteArray), (⟨#[40, 97, 63, 44, 98, 63, 44, 99, 63, 41]⟩ : ByteArray)] : List ByteArray)) := ⟨_, rfl⟩
  replace H : ((spec_l1Rd_below.f s0_0 t208 7).bind fun bt212 => (if 0 ≤ bt212.1 then (if bt212.1 < (y209.length : Int) then ((spec_ReadModel.f k (rdOf ByteArray.empty y209 bt212.1)).bind fun bt215 => (spec_l1Rd_model.j0 k bt215.1 s0_0 bt212.2)) else (none)) else (none))) = some (r1, r2) := by first | (rw [hy209]; with_reducible exact H) | (have H2_ := oS H; rw [hy209]; with_reducible exact H2_) | (have H2_ := oS H; with_reducible exact H2_) | with_reducible exact H | (rw [hy209]; exact H) | exact H
  have Ny209 := Zq.i hy209
  clear hy209
  replace H := bM H
  obtain ⟨⟨t212, t213⟩, A350, H⟩ := H
  try dsimp only at H
  have A35 := Zq.i A350
  clear A350
  by_cases c36 : 0 ≤ t212
  rotate_left
  ·rw [if_neg c36] at H
   exact absurd H dq15
  rw [if_pos c36] at H
  have c36b0 := dT c36
  clear c36
  (first | rw [c36b0] | (simp only [i64_w, i32_w]; rw [c36b0]) | skip)
  by_cases c37 : t212 < (y209.length : Int)
  rotate_left
  ·rw [if_neg c37] at H
   exact absurd H dq15
  rw [if_pos c37] at H
  have c37b0 := dT c37
  clear c37
  replace H := bM H
  obtain ⟨⟨t215, t216⟩, A380, H⟩ := H
  try dsimp only at H
  have A38 := Zq.i A380
  clear A380
  have H' := Zq.i H
  clear H
  go_wp2_with (first | ((with_reducible refine gate_dst (N := 32) rfl ?_); (try (refine gate_guard dq31 ?_; dsimp only)); refine Kd.R_lit Kd.string _ 9 ?hg (N := 32) ?hd (xs := ([(⟨#[40, 41]⟩ : ByteArray), (⟨#[40, 97, 41]⟩ : ByteArray), (⟨#[40, 97, 44, 98, 63, 44, 99, 42, 41]⟩ : ByteArray), (⟨#[40, 97, 124, 98, 41, 42]⟩ : ByteArray), (⟨#[40, 97, 44, 40, 98, 124, 99, 41, 43, 44, 100, 63, 41]⟩ : ByteArray), (⟨#[40, 40, 97, 44, 98, 41, 124, 40, 99, 44, 100, 41, 41, 42]⟩ : ByteArray), (⟨#[40, 97, 63, 44, 98, 63, 44, 99, 63, 41]⟩ : ByteArray)] : List ByteArray)) (inner := [.string (⟨#[40, 41]⟩ : ByteArray), .string (⟨#[40, 97, 41]⟩ : ByteArray), .string (⟨#[40, 97, 44, 98, 63, 44, 99, 42, 41]⟩ : ByteArray), .string (⟨#[40, 97, 124, 98, 41, 42]⟩ : ByteArray), .string (⟨#[40, 97, 44, 40, 98, 124, 99, 41, 43, 44, 100, 63, 41]⟩ : ByteArray), .string (⟨#[40, 40, 97, 44, 98, 41, 124, 40, 99, 44, 100, 41, 41, 42]⟩ : ByteArray), .string (⟨#[40, 97, 63, 44, 98, 63, 44, 99, 63, 41]⟩ : ByteArray)]) (ok := fun _ => True) (okp := fun _ => True) ?hr ?hp (fun _ hk => hk) trivial (Below.refl _ _) (Nat.le_refl _) dq15 ?_; (case hd => rfl); (case hg => rfl); (case hr => exact dq0); (case hp => exact (Reps.one (show Kd.M Kd.string _ _ _ (⟨#[40, 41]⟩ : ByteArray) [.string (⟨#[40, 41]⟩ : ByteArray)] from rfl) (Reps.one (show Kd.M Kd.string _ _ _ (⟨#[40, 97, 41]⟩ : ByteArray) [.string (⟨#[40, 97, 41]⟩ : ByteArray)] from rfl) (Reps.one (show Kd.M Kd.string _ _ _ (⟨#[40, 97, 44, 98, 63, 44, 99, 42, 41]⟩ : ByteArray) [.string (⟨#[40, 97, 44, 98, 63, 44, 99, 42, 41]⟩ : ByteArray)] from rfl) (Reps.one (show Kd.M Kd.string _ _ _ (⟨#[40, 97, 124, 98, 41, 42]⟩ : ByteArray) [.string (⟨#[40, 97, 124, 98, 41, 42]⟩ : ByteArray)] from rfl) (Reps.one (show Kd.M Kd.string _ _ _ (⟨#[40, 97, 44, 40, 98, 124, 99, 41, 43, 44, 100, 63, 41]⟩ : ByteArray) [.string (⟨#[40, 97, 44, 40, 98, 124, 99, 41, 43, 44, 100, 63, 41]⟩ : ByteArray)] from rfl) (Reps.one (show Kd.M Kd.string _ _ _ (⟨#[40, 40, 97, 44, 98, 41, 124, 40, 99, 44, 100, 41, 41, 42]⟩ : ByteArray) [.string (⟨#[40, 40, 97, 44, 98, 41, 124, 40, 99, 44, 100, 41, 41, 42]⟩ : ByteArray)] from rfl) (Reps.one (show Kd.M Kd.string _ _ _ (⟨#[40, 97, 63, 44, 98, 63, 44, 99, 63, 41]⟩ : ByteArray) [.string (⟨#[40, 97, 63, 44, 98, 63, 44, 99, 63, 41]⟩ : ByteArray)] from rfl) (Reps.none _ _))))))))); intro v210 w39 ho40 hb hg_ hnew_; clear hg_ hnew_; (first | rw [← Ny209.out] at ho40 | (simp only [Int.reduceToNat] at ho40; rw [← Ny209.out] at ho40)); replace HO206 := Zq.i (Kd.S_below dq53 hb); have HO211 := Zq.i (Kd.R_lower (Kd.R_new' (Kd.R_new' ho40 (Kd.R_lt dq51)) (Kd.R_lt dq52)) (keep_size (w := w) (g := g) (row := none) dq18)); replace HO191 := Zq.i (Kd.R_elder' dq51 (Kd.R_base ho40) hb); replace HO199 := Zq.i (Kd.R_elder' dq52 (Kd.R_base ho40) hb); replace HK := Zq.i (KeepBut.trans dq18 (KeepBut.of_below hb g none) (.inl rfl)); replace HB := Zq.i (below_step dq19 hb); replace HI0 := Zq.i (IsS101.below dq20 hb); clear hb ho40) | ((with_reducible refine gate_callee (f := 69) rfl ?_); refine goesL_ (some 34) rfl rfl Try.func69 dq24 rfl #[.pointer (some ⟨g, 0, none⟩), .int .i64 7] rfl dq23 ?_; (with_reducible refine (spec_l1Rd_below.calls g s0_0 t208 7 t212 t213 w0 _ ?side1 ?side2 A35.out).mono ?_); (case side1 => exact dq1); (case side2 => exact dq2); rintro e w41 ⟨rfl, hi, hb, hk⟩; refine ⟨_, rfl, ?_⟩; replace HO191 := Zq.i (Kd.R_mono (Kd.R_keep (IsS101.apart (show IsS101 w0 _ g s0_0 t208 from by repeat (first | (with_reducible first | exact HI0.out | apply IsS101.alloc | apply IsS101.drewN | apply IsS101.drew | apply IsS101.set_1) | exact HI0.out)) dq51 dq25) hk (fun _ h => h.2)) (fun _ h => h.1)); replace HO199 := Zq.i (Kd.R_mono (Kd.R_keep (IsS101.apart (show IsS101 w0 _ g s0_0 t208 from by repeat (first | (with_reducible first | exact HI0.out | apply IsS101.alloc | apply IsS101.drewN | apply IsS101.drew | apply IsS101.set_1) | exact HI0.out)) dq52 dq25) hk (fun _ h => h.2)) (fun _ h => h.1)); replace HO206 := Zq.i (Kd.S_mono (Kd.S_keep (IsS101.apartS (show IsS101 w0 _ g s0_0 t208 from by repeat (first | (with_reducible first | exact HI0.out | apply IsS101.alloc | apply IsS101.drewN | apply IsS101.drew | apply IsS101.set_1) | exact HI0.out)) dq53 dq25) hk (fun _ h => h.2)) (fun _ h => h.1)); replace HO211 := Zq.i (Kd.R_mono (Kd.R_keep (IsS101.apart (show IsS101 w0 _ g s0_0 t208 from by repeat (first | (with_reducible first | exact HI0.out | apply IsS101.alloc | apply IsS101.drewN | apply IsS101.drew | apply IsS101.set_1) | exact HI0.out)) (by (with_reducible repeat (first | apply Kd.R_alloc | apply Kd.R_drewN | apply Kd.R_drew)); exact HO211.out) dq25) hk (fun _ h => h.2)) (fun _ h => h.1)); replace HK := Zq.i (KeepBut.trans dq18 hk (.inl rfl)); replace HB := Zq.i (hb); replace HI0 := Zq.i (hi); (try clear hb hk hi); obtain ⟨Ao42, co42, eo42⟩ := Kd.R_slice HO211.out; subst eo42; have p214 : 0 ≤ (t212 : Int) := oT dq22; have q214 : t212 < (y209.length : Int) := oT dq22; obtain ⟨ad214, e214, hx214_0⟩ := Kd.at_string (Kd.R_reads' HO211.out).2.2 t212 p214 q214; cases e214; replace p214 := eq_true p214; replace q214 := eq_true q214) | ((with_reducible refine gate_callee (f := 9) rfl ?_); refine goesL_ (some 37) rfl rfl Try.func9 dq24 rfl #[.string (rdOf ByteArray.empty y209 t212)] rfl dq23 ?_; (with_reducible refine (spec_ReadModel.calls k (rdOf ByteArray.empty y209 t212) t215 t216 _ A38.out).mono ?_); rintro e w43 ⟨v217, rfl, ho0, hb⟩; refine ⟨_, rfl, ?_⟩; replace HO191 := Zq.i (Kd.R_below dq51 hb); replace HO199 := Zq.i (Kd.R_below dq52 hb); replace HO211 := Zq.i (Kd.R_below (by (with_reducible repeat (first | apply Kd.R_alloc | apply Kd.R_drewN | apply Kd.R_drew)); exact HO211.out) hb); have HO218 := Zq.i (Kd.S_lower (Kd.S_new' ho0 (Kd.S_lt dq53)) (keep_size (w := w) (g := g) (row := none) dq18)); replace HO206 := Zq.i (Kd.S_elder' dq53 (Kd.S_base ho0) hb); replace HK := Zq.i (KeepBut.trans dq18 (KeepBut.of_below hb g none) (.inl rfl)); replace HB := Zq.i (below_step dq19 hb); replace HI0 := Zq.i (IsS101.below dq20 hb); (try clear hb ho0)))
  go_meet
  case rel => exact ⟨_, (t215), (t213), H', ⟨dq26⟩, ⟨by (with_reducible repeat (first | apply Kd.S_alloc | apply Kd.S_drewN | apply Kd.S_drew)); exact Kd.S_mono HO218.out (fun _ hk => trivial)⟩, ⟨dq20⟩, ⟨dq18⟩, ⟨dq19⟩⟩
 clear HC17
 try clear c3
 try clear c9
 try clear c10
 obtain ⟨kq, x3_16, x1001_16, HA, HJ16, HO_3, HI0, HK, HB⟩ := hcut
 cases kq with
 | zero => exact absurd HA.out (by simp [spec_l1Rd_model.j0])
 | succ kj16 =>
  have H := HA.out
  clear HA
  simp only [spec_l1Rd_model.j0] at H
  have HC44 := Zq.i H
  clear H
  go_upto_region 4 with (fail)
  go_cut [46] (fun v46 wc => ∃ (kq : Nat) (x46_43 : Bool) (x1001_43 : Int), v46 = .bool x46_43 ∧ Zq (spec_l1Rd_model.j1 kq x3_16 x46_43 s0_0 x1001_43 = some (r1, r2)) ∧ Zq (kq ≤ kj16) ∧ Zq (Kd.S k42 42 wc w.heap.size (fun _ => True) u3 x3_16) ∧ Zq (IsS101 w0 wc g s0_0 x1001_43) ∧ Zq (KeepBut w wc g none) ∧ Zq (Below w0.heap.size w0 wc))
  case first =>
   have H := HC44.out
   clear HC44
   replace H := bM H
   obtain ⟨⟨t219, t220⟩, A450, H⟩ := H
   try dsimp only at H
   have A45 := Zq.i A450
   clear A450
   by_cases c46 : t219 = true
   rotate_left
   ·replace c46 := Bool.eq_false_iff.mpr c46
    subst c46
    rw [iN] at H
    have H' := Zq.i H
    clear H
    go_wp2_with (first | ((with_reducible refine gate_callee (f := 100) rfl ?_); refine goesL_ (some 41) rfl rfl Try.func100 dq24 rfl #[.pointer (some ⟨g, 0, none⟩), .int .i64 30] rfl dq23 ?_; (with_reducible refine (spec_l1Rd_once.calls g s0_0 x1001_16 30 false t220 w0 _ ?side1 ?side2 A45.out).mono ?_); (case side1 => exact dq1); (case side2 => exact dq2); rintro e w49 ⟨rfl, hi, hb, hk⟩; refine ⟨_, rfl, ?_⟩; replace HO_3 := Zq.i (Kd.S_mono (Kd.S_keep (IsS101.apartS (show IsS101 w0 _ g s0_0 x1001_16 from by repeat (first | (with_reducible first | exact HI0.out | apply IsS101.alloc | apply IsS101.drewN | apply IsS101.drew | apply IsS101.set_1) | exact HI0.out)) dq54 dq25) hk (fun _ h => h.2)) (fun _ h => h.1)); replace HK := Zq.i (KeepBut.trans dq18 hk (.inl rfl)); replace HB := Zq.i (hb); replace HI0 := Zq.i (hi); (try clear hb hk hi)))
    go_meet
    case rel => exact ⟨_, (false), (t220), dq14, H', ⟨by have := HJ16.out; first | omega | exact Nat.le_refl _⟩, ⟨dq54⟩, ⟨dq20⟩, ⟨dq18⟩, ⟨dq19⟩⟩
   subst c46
   rw [if_pos rfl] at H
   have H' := Zq.i H
   clear H
   go_wp2_with (first | ((with_reducible refine gate_callee (f := 100) rfl ?_); refine goesL_ (some 41) rfl rfl Try.func100 dq24 rfl #[.pointer (some ⟨g, 0, none⟩), .int .i64 30] rfl dq23 ?_; (with_reducible refine (spec_l1Rd_once.calls g s0_0 x1001_16 30 true t220 w0 _ ?side1 ?side2 A45.out).mono ?_); (case side1 => exact dq1); (case side2 => exact dq2); rintro e w47 ⟨rfl, hi, hb, hk⟩; refine ⟨_, rfl, ?_⟩; replace HO_3 := Zq.i (Kd.S_mono (Kd.S_keep (IsS101.apartS (show IsS101 w0 _ g s0_0 x1001_16 from by repeat (first | (with_reducible first | exact HI0.out | apply IsS101.alloc | apply IsS101.drewN | apply IsS101.drew | apply IsS101.set_1) | exact HI0.out)) dq54 dq25) hk (fun _ h => h.2)) (fun _ h => h.1)); replace HK := Zq.i (KeepBut.trans dq18 hk (.inl rfl)); replace HB := Zq.i (hb); replace HI0 := Zq.i (hi); (try clear hb hk hi); obtain ⟨Ao48, co48, eo48⟩ := Kd.S_slice HO_3.out; subst eo48))
   go_meet
   case rel => exact ⟨_, (decide ((x3_16.length : Int) > 0)), (t220), dq14, H', ⟨by have := HJ16.out; first | omega | exact Nat.le_refl _⟩, ⟨dq54⟩, ⟨dq20⟩, ⟨dq18⟩, ⟨dq19⟩⟩
  clear HC44
  obtain ⟨kq, x46_43, x1001_43, rfl, HA, HJ43, HO_3, HI0, HK, HB⟩ := hcut
  cases kq with
  | zero => exact absurd HA.out (by simp [spec_l1Rd_model.j1])
  | succ kj43 =>
   have H := HA.out
   clear HA
   simp only [spec_l1Rd_model.j1] at H
   by_cases c50 : x46_43 = true
   rotate_left
   ·replace c50 := Bool.eq_false_iff.mpr c50
    subst c50
    rw [iN] at H
    obtain ⟨rfl, rfl⟩ := oP H
    go_wp2
    go_ret
    exact ⟨_, dq21, dq54, dq20, dq19, dq18⟩
   subst c50
   rw [if_pos rfl] at H
   replace H := bM H
   obtain ⟨⟨t221, t222⟩, A510, H⟩ := H
   try dsimp only at H
   have A51 := Zq.i A510
   clear A510
   replace H := bM H
   obtain ⟨⟨t223, t224⟩, A520, H⟩ := H
   try dsimp only at H
   have A52 := Zq.i A520
   clear A520
   by_cases c53 : t223 = 0
   ·rw [if_pos c53] at H
    have c53b0 := bE c53
    have c53b1 := bQ c53
    clear c53
    replace H := bM H
    obtain ⟨⟨t225, t226⟩, A540, H⟩ := H
    try dsimp only at H
    have A54 := Zq.i A540
    clear A540
    by_cases c55 : 0 ≤ t221
    rotate_left
    ·rw [if_neg c55] at H
     exact absurd H dq15
    rw [if_pos c55] at H
    have c55b0 := dT c55
    clear c55
    by_cases c56 : t221 < (x3_16.length : Int)
    rotate_left
    ·rw [if_neg c56] at H
     exact absurd H dq15
    rw [if_pos c56] at H
    have c56b0 := dT c56
    clear c56
    obtain ⟨y227, hy227⟩ : ∃ y_ : List (S42), y_ = (x3_16.set (t221 : Int).toNat (⟨(rd_T42 x3_16 t221).f0, (rd_T42 x3_16 t221).f1, (rd_T42 x3_16 t221).f2, t225⟩ : S42)) := ⟨_, rfl⟩
    replace H : (some (y227, t226)) = some (r1, r2) := by first | (rw [hy227]; with_reducible exact H) | (have H2_ := oS H; rw [hy227]; with_reducible exact H2_) | (have H2_ := oS H; with_reducible exact H2_) | with_reducible exact H | (rw [hy227]; exact H) | exact H
    have Ny227 := Zq.i hy227
    clear hy227
    obtain ⟨rfl, rfl⟩ := oP H
    obtain ⟨Ao58, co58, eo58⟩ := Kd.S_slice HO_3.out
    subst eo58
    go_wp2_with (first | ((with_reducible refine gate_callee (f := 69) rfl ?_); refine goesL_ (some 50) rfl rfl Try.func69 dq24 rfl #[.pointer (some ⟨g, 0, none⟩), .int .i64 (x3_16.length : Int)] rfl dq23 ?_; (with_reducible refine (spec_l1Rd_below.calls g s0_0 x1001_43 (x3_16.length : Int) t221 t222 w0 _ ?side1 ?side2 A51.out).mono ?_); (case side1 => exact dq1); (case side2 => exact dq2); rintro e w59 ⟨rfl, hi, hb, hk⟩; refine ⟨_, rfl, ?_⟩; replace HO_3 := Zq.i (Kd.S_mono (Kd.S_keep (IsS101.apartS (show IsS101 w0 _ g s0_0 x1001_43 from by repeat (first | (with_reducible first | exact HI0.out | apply IsS101.alloc | apply IsS101.drewN | apply IsS101.drew | apply IsS101.set_1) | exact HI0.out)) dq54 dq25) hk (fun _ h => h.2)) (fun _ h => h.1)); replace HK := Zq.i (KeepBut.trans dq18 hk (.inl rfl)); replace HB := Zq.i (hb); replace HI0 := Zq.i (hi); (try clear hb hk hi)) | ((with_reducible refine gate_callee (f := 69) rfl ?_); refine goesL_ (some 52) rfl rfl Try.func69 dq24 rfl #[.pointer (some ⟨g, 0, none⟩), .int .i64 3] rfl dq23 ?_; (with_reducible refine (spec_l1Rd_below.calls g s0_0 t222 3 t223 t224 w0 _ ?side1 ?side2 A52.out).mono ?_); (case side1 => exact dq1); (case side2 => exact dq2); rintro e w60 ⟨rfl, hi, hb, hk⟩; refine ⟨_, rfl, ?_⟩; replace HO_3 := Zq.i (Kd.S_mono (Kd.S_keep (IsS101.apartS (show IsS101 w0 _ g s0_0 t222 from by repeat (first | (with_reducible first | exact HI0.out | apply IsS101.alloc | apply IsS101.drewN | apply IsS101.drew | apply IsS101.set_1) | exact HI0.out)) dq54 dq25) hk (fun _ h => h.2)) (fun _ h => h.1)); replace HK := Zq.i (KeepBut.trans dq18 hk (.inl rfl)); replace HB := Zq.i (hb); replace HI0 := Zq.i (hi); (try clear hb hk hi)) | ((with_reducible refine gate_callee (f := 101) rfl ?_); refine goesL_ (some 58) rfl rfl Try.func101 dq24 rfl #[.pointer (some ⟨g, 0, none⟩), .int .i64 0, .int .i64 3] rfl dq23 ?_; (with_reducible refine (spec_l1Rd_off.calls kj43 g s0_0 t224 0 3 t225 t226 w0 _ ?side1 ?side2 A54.out).mono ?_); (case side1 => exact dq1); (case side2 => exact dq2); rintro e w61 ⟨rfl, hi, hb, hk⟩; refine ⟨_, rfl, ?_⟩; replace HO_3 := Zq.i (Kd.S_mono (Kd.S_keep (IsS101.apartS (show IsS101 w0 _ g s0_0 t224 from by repeat (first | (with_reducible first | exact HI0.out | apply IsS101.alloc | apply IsS101.drewN | apply IsS101.drew | apply IsS101.set_1) | exact HI0.out)) dq54 dq25) hk (fun _ h => h.2)) (fun _ h => h.1)); replace HK := Zq.i (KeepBut.trans dq18 hk (.inl rfl)); replace HB := Zq.i (hb); replace HI0 := Zq.i (hi); (try clear hb hk hi); have p57 : 0 ≤ (t221 : Int) := oT dq22; have q57 : (t221 : Int) < ((x3_16.length : Int) : Int) := oT dq22; obtain ⟨go57, co57, eo57, gb57, gl57, cl57, HG57⟩ := Kd.S_form HO_3.out dq28; (first | cases eo57 | (injection eo57 with ea_ en_ ec_; (first | subst ea_ | (injection ea_ with ea_; subst ea_)); subst ec_; clear en_)); have GB57 := Zq.i gb57; have GG57 := Zq.i HG57; clear gb57 gl57 HG57; obtain ⟨_, ce57, hcl57, hM57, hcc57, hfr57, _, _⟩ := Kd.S_elem HO_3.out z42 (t221 : Int) p57 q57; obtain ⟨ve57_2, rfl, ge57_2⟩ := k42_openM hM57; have hx57_0 : w61.cell? ⟨go57, (t221 : Int).toNat * 4, none⟩ = some (.int .i64 ((rd_T42 x3_16 t221).f0)) := hcc57 0 _ rfl; have hx57_1 : w61.cell? ⟨go57, (t221 : Int).toNat * 4 + 1, none⟩ = some (.string ((rd_T42 x3_16 t221).f1)) := hcc57 1 _ rfl; have hx57_2 : w61.cell? ⟨go57, (t221 : Int).toNat * 4 + 2, none⟩ = some (ve57_2) := hcc57 2 _ rfl; have hx57_3 : w61.cell? ⟨go57, (t221 : Int).toNat * 4 + 3, none⟩ = some (.int .i64 ((rd_T42 x3_16 t221).f3)) := hcc57 3 _ rfl; have hf57_0 : w61.frozen? ⟨go57, (t221 : Int).toNat * 4, none⟩ = false := hfr57 0; have hf57_1 : w61.frozen? ⟨go57, (t221 : Int).toNat * 4 + 1, none⟩ = false := hfr57 1; have hf57_2 : w61.frozen? ⟨go57, (t221 : Int).toNat * 4 + 2, none⟩ = false := hfr57 2; have hf57_3 : w61.frozen? ⟨go57, (t221 : Int).toNat * 4 + 3, none⟩ = false := hfr57 3; clear hcl57 hcc57 hfr57 hM57; replace p57 := eq_true p57; replace q57 := eq_true q57; have HX62 := Zq.i (show Kd.S k42 42 w61 w.heap.size (fun k_ => ((fun _ => True)) k_ ∧ ¬ ((fun _ => False)) k_) (.slice (some ⟨go57, 0, none⟩) x3_16.length co58) x3_16 from dq55); obtain ⟨oki62, ce62, hcl62, hM62, hcc62, hfr62, hoki62, hH62⟩ := Kd.S_elem HX62.out z42 (t221 : Int) (oT dq22) (by have h_ : (t221 : Int) < ((x3_16.length : Int) : Int) := oT dq22; first | exact h_ | (have e_ := (Kd.S_reads' HO_3.out).1; omega) | simpa using h_); obtain ⟨ve62_2, rfl, ge62_2⟩ := k42_openM hM62; have HP62 := Kd.S_seg hH62 (oT dq22) (by have h_ : (t221 : Int) < ((x3_16.length : Int) : Int) := oT dq22; first | exact h_ | (have e_ := (Kd.S_reads' HO_3.out).1; omega) | simpa using h_) (seg := [.int .i64 t225]) (j := 3) (show 4 ≤ 4 from by decide) (x' := (⟨(rd_T42 x3_16 t221).f0, (rd_T42 x3_16 t221).f1, (rd_T42 x3_16 t221).f2, t225⟩ : S42)) (k42_mkM _ _ _ (⟨(rd_T42 x3_16 t221).f0, (rd_T42 x3_16 t221).f1, (rd_T42 x3_16 t221).f2, t225⟩ : S42) (Kd.R_mono ge62_2 (fun _ h_ => Or.inl h_))) (fun _ hk => hk) (fun k_ hk_ => hk_.elim); have hx62_3 := hcc62 3 _ rfl; (try simp only [show (k42).sz = 4 from rfl, Nat.mul_one, Nat.add_zero] at hx62_3); have hf62_3 := hfr62 3; (try simp only [show (k42).sz = 4 from rfl, Nat.mul_one, Nat.add_zero] at hf62_3); clear hcl62 hcc62 hfr62 hM62 hoki62 hH62) | ((with_reducible refine gate_store (t := 2) (p := 60) rfl ?_); refine store_event (t := 2) (p := 60) (v := ?vo_w63) (w1 := (w61.setCell ⟨go57, (t221 : Int).toNat * 4 + 3, none⟩ (.int .i64 t225))) ?hg ?ho ?hn ?hr ?_; (case ho => rfl); (case hg => rfl); (case hn => rfl); (case hr => exact dq0); intro w63 hw; have hg : w61.grownBy w63 (some go57) := (by rw [hw]; exact HP62.2); have hp_ : Kd.S k42 42 w63 w.heap.size (fun _ => True) (.slice (some ⟨go57, 0, none⟩) x3_16.length co58) y227 := (by rw [hw, Ny227.out]; exact HP62.1); clear HP62; replace HI0 := Zq.i (IsS101.grown dq20 hg (IsS101.own_neS HI0.out HO_3.out dq25)); replace HB := Zq.i ((by rw [hw]; exact below_set (HB.out) (Nat.le_trans HL.out GB57.out) : Below w0.heap.size w0 w63)); replace HK := Zq.i (KeepBut.trans dq18 (KeepBut.of_grown hg g) (Kd.S_base2 HO_3.out)); replace HO_3 := Zq.i (hp_); clear hg hw hp_))
    go_ret
    exact ⟨_, dq21, dq54, dq20, dq19, dq18⟩
   rw [if_neg c53] at H
   have c53b0 := bN c53
   have c53b1 := bO c53
   by_cases c64 : t223 = 1
   ·rw [if_pos c64] at H
    have c64b0 := bE c64
    have c64b1 := bQ c64
    clear c64
    replace H := bM H
    obtain ⟨⟨t228, t229⟩, A650, H⟩ := H
    try dsimp only at H
    have A65 := Zq.i A650
    clear A650
    by_cases c66 : 0 ≤ t221
    rotate_left
    ·rw [if_neg c66] at H
     exact absurd H dq15
    rw [if_pos c66] at H
    have c66b0 := dT c66
    clear c66
    by_cases c67 : t221 < (x3_16.length : Int)
    rotate_left
    ·rw [if_neg c67] at H
     exact absurd H dq15
    rw [if_pos c67] at H
    have c67b0 := dT c67
    clear c67
    obtain ⟨y230, hy230⟩ : ∃ y_ : List (S42), y_ = (x3_16.set (t221 : Int).toNat (⟨t228, (rd_T42 x3_16 t221).f1, (rd_T42 x3_16 t221).f2, (rd_T42 x3_16 t221).f3⟩ : S42)) := ⟨_, rfl⟩
    replace H : (some (y230, t229)) = some (r1, r2) := by first | (rw [hy230]; with_reducible exact H) | (have H2_ := oS H; rw [hy230]; with_reducible exact H2_) | (have H2_ := oS H; with_reducible exact H2_) | with_reducible exact H | (rw [hy230]; exact H) | exact H
    have Ny230 := Zq.i hy230
    clear hy230
    obtain ⟨rfl, rfl⟩ := oP H
    obtain ⟨Ao69, co69, eo69⟩ := Kd.S_slice HO_3.out
    subst eo69
    go_wp2_with (first | ((with_reducible refine gate_callee (f := 69) rfl ?_); refine goesL_ (some 50) rfl rfl Try.func69 dq24 rfl #[.pointer (some ⟨g, 0, none⟩), .int .i64 (x3_16.length : Int)] rfl dq23 ?_; (with_reducible refine (spec_l1Rd_below.calls g s0_0 x1001_43 (x3_16.length : Int) t221 t222 w0 _ ?side1 ?side2 A51.out).mono ?_); (case side1 => exact dq1); (case side2 => exact dq2); rintro e w70 ⟨rfl, hi, hb, hk⟩; refine ⟨_, rfl, ?_⟩; replace HO_3 := Zq.i (Kd.S_mono (Kd.S_keep (IsS101.apartS (show IsS101 w0 _ g s0_0 x1001_43 from by repeat (first | (with_reducible first | exact HI0.out | apply IsS101.alloc | apply IsS101.drewN | apply IsS101.drew | apply IsS101.set_1) | exact HI0.out)) dq54 dq25) hk (fun _ h => h.2)) (fun _ h => h.1)); replace HK := Zq.i (KeepBut.trans dq18 hk (.inl rfl)); replace HB := Zq.i (hb); replace HI0 := Zq.i (hi); (try clear hb hk hi)) | ((with_reducible refine gate_callee (f := 69) rfl ?_); refine goesL_ (some 52) rfl rfl Try.func69 dq24 rfl #[.pointer (some ⟨g, 0, none⟩), .int .i64 3] rfl dq23 ?_; (with_reducible refine (spec_l1Rd_below.calls g s0_0 t222 3 t223 t224 w0 _ ?side1 ?side2 A52.out).mono ?_); (case side1 => exact dq1); (case side2 => exact dq2); rintro e w71 ⟨rfl, hi, hb, hk⟩; refine ⟨_, rfl, ?_⟩; replace HO_3 := Zq.i (Kd.S_mono (Kd.S_keep (IsS101.apartS (show IsS101 w0 _ g s0_0 t222 from by repeat (first | (with_reducible first | exact HI0.out | apply IsS101.alloc | apply IsS101.drewN | apply IsS101.drew | apply IsS101.set_1) | exact HI0.out)) dq54 dq25) hk (fun _ h => h.2)) (fun _ h => h.1)); replace HK := Zq.i (KeepBut.trans dq18 hk (.inl rfl)); replace HB := Zq.i (hb); replace HI0 := Zq.i (hi); (try clear hb hk hi)) | ((with_reducible refine gate_callee (f := 101) rfl ?_); refine goesL_ (some 66) rfl rfl Try.func101 dq24 rfl #[.pointer (some ⟨g, 0, none⟩), .int .i64 1, .int .i64 4] rfl dq23 ?_; (with_reducible refine (spec_l1Rd_off.calls kj43 g s0_0 t224 1 4 t228 t229 w0 _ ?side1 ?side2 A65.out).mono ?_); (case side1 => exact dq1); (case side2 => exact dq2); rintro e w72 ⟨rfl, hi, hb, hk⟩; refine ⟨_, rfl, ?_⟩; replace HO_3 := Zq.i (Kd.S_mono (Kd.S_keep (IsS101.apartS (show IsS101 w0 _ g s0_0 t224 from by repeat (first | (with_reducible first | exact HI0.out | apply IsS101.alloc | apply IsS101.drewN | apply IsS101.drew | apply IsS101.set_1) | exact HI0.out)) dq54 dq25) hk (fun _ h => h.2)) (fun _ h => h.1)); replace HK := Zq.i (KeepBut.trans dq18 hk (.inl rfl)); replace HB := Zq.i (hb); replace HI0 := Zq.i (hi); (try clear hb hk hi); have p68 : 0 ≤ (t221 : Int) := oT dq22; have q68 : (t221 : Int) < ((x3_16.length : Int) : Int) := oT dq22; obtain ⟨go68, co68, eo68, gb68, gl68, cl68, HG68⟩ := Kd.S_form HO_3.out dq28; (first | cases eo68 | (injection eo68 with ea_ en_ ec_; (first | subst ea_ | (injection ea_ with ea_; subst ea_)); subst ec_; clear en_)); have GB68 := Zq.i gb68; have GG68 := Zq.i HG68; clear gb68 gl68 HG68; obtain ⟨_, ce68, hcl68, hM68, hcc68, hfr68, _, _⟩ := Kd.S_elem HO_3.out z42 (t221 : Int) p68 q68; obtain ⟨ve68_2, rfl, ge68_2⟩ := k42_openM hM68; have hx68_0 : w72.cell? ⟨go68, (t221 : Int).toNat * 4, none⟩ = some (.int .i64 ((rd_T42 x3_16 t221).f0)) := hcc68 0 _ rfl; have hx68_1 : w72.cell? ⟨go68, (t221 : Int).toNat * 4 + 1, none⟩ = some (.string ((rd_T42 x3_16 t221).f1)) := hcc68 1 _ rfl; have hx68_2 : w72.cell? ⟨go68, (t221 : Int).toNat * 4 + 2, none⟩ = some (ve68_2) := hcc68 2 _ rfl; have hx68_3 : w72.cell? ⟨go68, (t221 : Int).toNat * 4 + 3, none⟩ = some (.int .i64 ((rd_T42 x3_16 t221).f3)) := hcc68 3 _ rfl; have hf68_0 : w72.frozen? ⟨go68, (t221 : Int).toNat * 4, none⟩ = false := hfr68 0; have hf68_1 : w72.frozen? ⟨go68, (t221 : Int).toNat * 4 + 1, none⟩ = false := hfr68 1; have hf68_2 : w72.frozen? ⟨go68, (t221 : Int).toNat * 4 + 2, none⟩ = false := hfr68 2; have hf68_3 : w72.frozen? ⟨go68, (t221 : Int).toNat * 4 + 3, none⟩ = false := hfr68 3; clear hcl68 hcc68 hfr68 hM68; replace p68 := eq_true p68; replace q68 := eq_true q68; have HX73 := Zq.i (show Kd.S k42 42 w72 w.heap.size (fun k_ => ((fun _ => True)) k_ ∧ ¬ ((fun _ => False)) k_) (.slice (some ⟨go68, 0, none⟩) x3_16.length co69) x3_16 from dq55); obtain ⟨oki73, ce73, hcl73, hM73, hcc73, hfr73, hoki73, hH73⟩ := Kd.S_elem HX73.out z42 (t221 : Int) (oT dq22) (by have h_ : (t221 : Int) < ((x3_16.length : Int) : Int) := oT dq22; first | exact h_ | (have e_ := (Kd.S_reads' HO_3.out).1; omega) | simpa using h_); obtain ⟨ve73_2, rfl, ge73_2⟩ := k42_openM hM73; have HP73 := Kd.S_seg hH73 (oT dq22) (by have h_ : (t221 : Int) < ((x3_16.length : Int) : Int) := oT dq22; first | exact h_ | (have e_ := (Kd.S_reads' HO_3.out).1; omega) | simpa using h_) (seg := [.int .i64 t228]) (j := 0) (show 1 ≤ 4 from by decide) (x' := (⟨t228, (rd_T42 x3_16 t221).f1, (rd_T42 x3_16 t221).f2, (rd_T42 x3_16 t221).f3⟩ : S42)) (k42_mkM _ _ _ (⟨t228, (rd_T42 x3_16 t221).f1, (rd_T42 x3_16 t221).f2, (rd_T42 x3_16 t221).f3⟩ : S42) (Kd.R_mono ge73_2 (fun _ h_ => Or.inl h_))) (fun _ hk => hk) (fun k_ hk_ => hk_.elim); have hx73_0 := hcc73 0 _ rfl; (try simp only [show (k42).sz = 4 from rfl, Nat.mul_one, Nat.add_zero] at hx73_0); have hf73_0 := hfr73 0; (try simp only [show (k42).sz = 4 from rfl, Nat.mul_one, Nat.add_zero] at hf73_0); clear hcl73 hcc73 hfr73 hM73 hoki73 hH73) | ((with_reducible refine gate_store (t := 2) (p := 68) rfl ?_); refine store_event (t := 2) (p := 68) (v := ?vo_w74) (w1 := (w72.setCell ⟨go68, (t221 : Int).toNat * 4, none⟩ (.int .i64 t228))) ?hg ?ho ?hn ?hr ?_; (case ho => rfl); (case hg => rfl); (case hn => rfl); (case hr => exact dq0); intro w74 hw; have hg : w72.grownBy w74 (some go68) := (by rw [hw]; exact HP73.2); have hp_ : Kd.S k42 42 w74 w.heap.size (fun _ => True) (.slice (some ⟨go68, 0, none⟩) x3_16.length co69) y230 := (by rw [hw, Ny230.out]; exact HP73.1); clear HP73; replace HI0 := Zq.i (IsS101.grown dq20 hg (IsS101.own_neS HI0.out HO_3.out dq25)); replace HB := Zq.i ((by rw [hw]; exact below_set (HB.out) (Nat.le_trans HL.out GB68.out) : Below w0.heap.size w0 w74)); replace HK := Zq.i (KeepBut.trans dq18 (KeepBut.of_grown hg g) (Kd.S_base2 HO_3.out)); replace HO_3 := Zq.i (hp_); clear hg hw hp_))
    go_ret
    exact ⟨_, dq21, dq54, dq20, dq19, dq18⟩
   rw [if_neg c64] at H
   have c64b0 := bN c64
   have c64b1 := bO c64
   by_cases c75 : t223 = 2
   rotate_left
   ·rw [if_neg c75] at H
    have c75b0 := bN c75
    have c75b1 := bO c75
    obtain ⟨rfl, rfl⟩ := oP H
    obtain ⟨Ao91, co91, eo91⟩ := Kd.S_slice HO_3.out
    subst eo91
    go_wp2_with (first | ((with_reducible refine gate_callee (f := 69) rfl ?_); refine goesL_ (some 50) rfl rfl Try.func69 dq24 rfl #[.pointer (some ⟨g, 0, none⟩), .int .i64 (x3_16.length : Int)] rfl dq23 ?_; (with_reducible refine (spec_l1Rd_below.calls g s0_0 x1001_43 (x3_16.length : Int) t221 t222 w0 _ ?side1 ?side2 A51.out).mono ?_); (case side1 => exact dq1); (case side2 => exact dq2); rintro e w92 ⟨rfl, hi, hb, hk⟩; refine ⟨_, rfl, ?_⟩; replace HO_3 := Zq.i (Kd.S_mono (Kd.S_keep (IsS101.apartS (show IsS101 w0 _ g s0_0 x1001_43 from by repeat (first | (with_reducible first | exact HI0.out | apply IsS101.alloc | apply IsS101.drewN | apply IsS101.drew | apply IsS101.set_1) | exact HI0.out)) dq54 dq25) hk (fun _ h => h.2)) (fun _ h => h.1)); replace HK := Zq.i (KeepBut.trans dq18 hk (.inl rfl)); replace HB := Zq.i (hb); replace HI0 := Zq.i (hi); (try clear hb hk hi)) | ((with_reducible refine gate_callee (f := 69) rfl ?_); refine goesL_ (some 52) rfl rfl Try.func69 dq24 rfl #[.pointer (some ⟨g, 0, none⟩), .int .i64 3] rfl dq23 ?_; (with_reducible refine (spec_l1Rd_below.calls g s0_0 t222 3 t223 t224 w0 _ ?side1 ?side2 A52.out).mono ?_); (case side1 => exact dq1); (case side2 => exact dq2); rintro e w93 ⟨rfl, hi, hb, hk⟩; refine ⟨_, rfl, ?_⟩; replace HO_3 := Zq.i (Kd.S_mono (Kd.S_keep (IsS101.apartS (show IsS101 w0 _ g s0_0 t222 from by repeat (first | (with_reducible first | exact HI0.out | apply IsS101.alloc | apply IsS101.drewN | apply IsS101.drew | apply IsS101.set_1) | exact HI0.out)) dq54 dq25) hk (fun _ h => h.2)) (fun _ h => h.1)); replace HK := Zq.i (KeepBut.trans dq18 hk (.inl rfl)); replace HB := Zq.i (hb); replace HI0 := Zq.i (hi); (try clear hb hk hi)))
    go_ret
    exact ⟨_, dq21, dq54, dq20, dq19, dq18⟩
   rw [if_pos c75] at H
   have c75b0 := bE c75
   have c75b1 := bQ c75
   clear c75
   by_cases c76 : 0 ≤ t221
   rotate_left
   ·rw [if_neg c76] at H
    exact absurd H dq15
   rw [if_pos c76] at H
   have c76b0 := dT c76
   clear c76
   by_cases c77 : t221 < (x3_16.length : Int)
   rotate_left
   ·rw [if_neg c77] at H
    exact absurd H dq15
   rw [if_pos c77] at H
   have c77b0 := dT c77
   clear c77
   replace H := bM H
   obtain ⟨⟨t232, t233⟩, A780, H⟩ := H
   try dsimp only at H
   have A78 := Zq.i A780
   clear A780
   by_cases c79 : ((rd_T42 x3_16 t221).f2).length < 17592186044416
   rotate_left
   ·rw [if_neg c79] at H
    exact absurd H dq15
   rw [if_pos c79] at H
   have LMc79 := Zq.i c79
   clear c79
   obtain ⟨y234, hy234⟩ : ∃ y_ : List Int, y_ = (((rd_T42 x3_16 t221).f2) ++ [t232]) := ⟨_, rfl⟩
   replace H : (some ((x3_16.set (t221 : Int).toNat (⟨(rd_T42 x3_16 t221).f0, (rd_T42 x3_16 t221).f1, y234, (rd_T42 x3_16 t221).f3⟩ : S42)), t233)) = some (r1, r2) := by first | (rw [hy234]; with_reducible exact H) | (have H2_ := oS H; rw [hy234]; with_reducible exact H2_) | (have H2_ := oS H; with_reducible exact H2_) | with_reducible exact H | (rw [hy234]; exact H) | exact H
   have Ny234 := Zq.i hy234
   clear hy234
   obtain ⟨y237, hy237⟩ : ∃ y_ : List (S42), y_ = (x3_16.set (t221 : Int).toNat (⟨(rd_T42 x3_16 t221).f0, (rd_T42 x3_16 t221).f1, y234, (rd_T42 x3_16 t221).f3⟩ : S42)) := ⟨_, rfl⟩
   replace H : (some (y237, t233)) = some (r1, r2) := by first | (rw [hy237]; with_reducible exact H) | (have H2_ := oS H; rw [hy237]; with_reducible exact H2_) | (have H2_ := oS H; with_reducible exact H2_) | with_reducible exact H | (rw [hy237]; exact H) | exact H
   have Ny237 := Zq.i hy237
   clear hy237
   obtain ⟨rfl, rfl⟩ := oP H
   obtain ⟨Ao81, co81, eo81⟩ := Kd.S_slice HO_3.out
   subst eo81
   try go_wp2_with (first | ((with_reducible refine gate_callee (f := 69) rfl ?_); refine goesL_ (some 50) rfl rfl Try.func69 dq24 rfl #[.pointer (some ⟨g, 0, none⟩), .int .i64 (x3_16.length : Int)] rfl dq23 ?_; (with_reducible refine (spec_l1Rd_below.calls g s0_0 x1001_43 (x3_16.length : Int) t221 t222 w0 _ ?side1 ?side2 A51.out).mono ?_); (case side1 => exact dq1); (case side2 => exact dq2); rintro e w82 ⟨rfl, hi, hb, hk⟩; refine ⟨_, rfl, ?_⟩; replace HO_3 := Zq.i (Kd.S_mono (Kd.S_keep (IsS101.apartS (show IsS101 w0 _ g s0_0 x1001_43 from by repeat (first | (with_reducible first | exact HI0.out | apply IsS101.alloc | apply IsS101.drewN | apply IsS101.drew | apply IsS101.set_1) | exact HI0.out)) dq54 dq25) hk (fun _ h => h.2)) (fun _ h => h.1)); replace HK := Zq.i (KeepBut.trans dq18 hk (.inl rfl)); replace HB := Zq.i (hb); replace HI0 := Zq.i (hi); (try clear hb hk hi)) | ((with_reducible refine gate_callee (f := 69) rfl ?_); refine goesL_ (some 52) rfl rfl Try.func69 dq24 rfl #[.pointer (some ⟨g, 0, none⟩), .int .i64 3] rfl dq23 ?_; (with_reducible refine (spec_l1Rd_below.calls g s0_0 t222 3 t223 t224 w0 _ ?side1 ?side2 A52.out).mono ?_); (case side1 => exact dq1); (case side2 => exact dq2); rintro e w83 ⟨rfl, hi, hb, hk⟩; refine ⟨_, rfl, ?_⟩; replace HO_3 := Zq.i (Kd.S_mono (Kd.S_keep (IsS101.apartS (show IsS101 w0 _ g s0_0 t222 from by repeat (first | (with_reducible first | exact HI0.out | apply IsS101.alloc | apply IsS101.drewN | apply IsS101.drew | apply IsS101.set_1) | exact HI0.out)) dq54 dq25) hk (fun _ h => h.2)) (fun _ h => h.1)); replace HK := Zq.i (KeepBut.trans dq18 hk (.inl rfl)); replace HB := Zq.i (hb); replace HI0 := Zq.i (hi); (try clear hb hk hi)))
   replace HO_3 := Zq.i (Kd.S_drew HO_3.out)
   replace HI0 := Zq.i (IsS101.drew HI0.out)
   replace HK := Zq.i (keep_drew HK.out)
   replace HB := Zq.i (below_drew1 HB.out)
   have p231 : 0 ≤ (t221 : Int) := oT dq22
   have q231 : t221 < (x3_16.length : Int) := oT dq22
   obtain ⟨ad231, A231_2, c231_2, e231, hx231_0, hx231_1, hx231_2, hx231_3, hl231_2, hi231_2⟩ := at_T42 (Kd.S_reads' HO_3.out).2.2 t221 p231 q231
   cases e231
   obtain ⟨ce231, hce231, hMe231, hcc231⟩ := Kd.S_get HO_3.out z42 t221 p231 (by first | exact q231 | exact oT dq22 | (have e_ := (Kd.S_reads' HO_3.out).1; omega))
   obtain ⟨ve231_2, rfl, ge231_2⟩ := k42_openM hMe231
   have hv231_2 := hcc231 2 _ rfl
   rw [add_field _ _ 2 dq28] at hv231_2
   replace hv231_2 := oI (hv231_2.symm.trans hx231_2)
   rw [hv231_2] at ge231_2
   have HL231_2 := Zq.i (show Kd.R (Kd.int .i64) 2 _ _ _ _ ((rd_T42 x3_16 t221).f2) from ge231_2)
   clear hv231_2 ge231_2
   have HX231_2 := Zq.i hx231_2
   clear hcc231 hce231
   have HR231_2 := Zq.i hi231_2
   have HC231_2 := Zq.i hl231_2
   clear hi231_2 hl231_2
   replace p231 := eq_true p231
   replace q231 := eq_true q231
   refine start_ (n := 15) (S := fun w' => w'.cell? (ad231.add ((t221).toNat * 4)) = some (.int .i64 ((rd_T42 x3_16 t221).f0)) ∧ w'.cell? ⟨(ad231.add ((t221).toNat * 4)).block, (ad231.add ((t221).toNat * 4)).off + 1, none⟩ = some (.string ((rd_T42 x3_16 t221).f1)) ∧ w'.cell? ⟨(ad231.add ((t221).toNat * 4)).block, (ad231.add ((t221).toNat * 4)).off + 2, none⟩ = some (.slice A231_2 ((rd_T42 x3_16 t221).f2).length c231_2) ∧ w'.cell? ⟨(ad231.add ((t221).toNat * 4)).block, (ad231.add ((t221).toNat * 4)).off + 3, none⟩ = some (.int .i64 ((rd_T42 x3_16 t221).f3))) (ds := [14]) (bitsA 15 0) dq24 rfl rfl ⟨hx231_0, hx231_1, hx231_2, hx231_3⟩ (fun hHeld => ?_); refine with_tabW spec_l1Rd_model.tab12 spec_l1Rd_model.bits12 (fun HT_ HW_ => ?_)
   generalize w83.drew = w84 at HO_3 HI0 HK HB HL231_2 HR231_2 HX231_2 hx231_0 hx231_1 hx231_2 hx231_3 hHeld ⊢
   refine pureA (i := 0) (N := some 71) (bitsA 15 1) ?_
   refine pureA (i := 1) (N := some 72) (bitsA 15 3) ?_
   refine pureA (i := 2) (N := some 73) (bitsA 15 7) ?_
   refine pureA (i := 3) (N := some 74) (bitsA 15 15) ?_
   refine pureA (i := 4) (N := some 75) (bitsA 15 31) ?_
   refine pureA (i := 5) (N := some 76) (bitsA 15 63) ?_
   refine pureA (i := 7) (N := some 78) (bitsA 15 191) ?_
   refine pureA (i := 8) (N := some 79) (bitsA 15 447) ?_
   refine takeA4 (i := 6) (N := some 77) (bitsA 15 511) ?_
   refine one_ (i := 9) (N := some 80) (bitsA 15 1023) rfl rfl (one_of HT_.out dq24) dq25 (fun K hK => ?_)
   refine goes_ Try.func101 dq24 rfl #[.pointer (some ⟨g, 0, none⟩), .int .i64 0, .int .i64 t221] dq31 rfl rfl dq23 ?_
   with_reducible refine (spec_l1Rd_off.calls kj43 g s0_0 t224 0 t221 t232 t233 w0 _ ?side1 ?side2 A78.out).mono ?_
   (case side1 => exact dq1)
   (case side2 => exact dq2)
   rintro e w85 ⟨rfl, hi, hb, hk⟩
   have HS0_ := keep_cell hk (hHeld.1) dq56
   have HS1_ := keep_cell hk (hHeld.2.1) dq56
   have HS2_ := keep_cell hk (hHeld.2.2.1) dq56
   have HS3_ := keep_cell hk (hHeld.2.2.2) dq56
   refine ⟨_, rfl, ?_⟩
   replace HL231_2 := Zq.i (Kd.R_mono (Kd.R_keep (IsS101.apart (show IsS101 w0 _ g s0_0 t224 from by repeat (first | (with_reducible first | exact HI0.out | apply IsS101.alloc | apply IsS101.drewN | apply IsS101.drew | apply IsS101.set_1) | exact HI0.out)) (by (with_reducible repeat (first | apply Kd.R_alloc | apply Kd.R_drewN | apply Kd.R_drew)); exact HL231_2.out) dq25) hk (fun _ h => h.2)) (fun _ h => h.1))
   replace HX231_2 := Zq.i (keep_cell hk HX231_2.out (by first | (rw [add_block]; exact Kd.own_blk (IsS101.own_neS HI0.out HO_3.out dq25)) | (show (Addr.add _ _).block ≠ _; rw [add_block]; exact Kd.own_blk (IsS101.own_neS HI0.out HO_3.out dq25)) | exact Kd.own_blk (IsS101.own_neS HI0.out HO_3.out dq25) | (dsimp only; exact Kd.own_blk (IsS101.own_neS HI0.out HO_3.out dq25))))
   replace HO_3 := Zq.i (Kd.S_mono (Kd.S_keep (IsS101.apartS (show IsS101 w0 _ g s0_0 t224 from by repeat (first | (with_reducible first | exact HI0.out | apply IsS101.alloc | apply IsS101.drewN | apply IsS101.drew | apply IsS101.set_1) | exact HI0.out)) dq54 dq25) hk (fun _ h => h.2)) (fun _ h => h.1))
   replace HK := Zq.i (KeepBut.trans dq18 hk (.inl rfl))
   replace HB := Zq.i (hb)
   replace HI0 := Zq.i (hi)
   (try clear hb)
   (try clear hb2)
   (try clear hk)
   (try clear hi)
   obtain ⟨go86, co86, eo86, gb86, gl86, cl86, HG86⟩ := Kd.S_form HO_3.out (by have h_ : (t221 : Int) < ((x3_16.length : Int) : Int) := oT dq22; have h2_ : 0 ≤ (t221 : Int) := (oT dq22); omega)
   (first | cases eo86 | (injection eo86 with ea_ en_ ec_; (first | subst ea_ | (injection ea_ with ea_; subst ea_)); subst ec_; clear en_))
   have GB86 := Zq.i gb86
   have GG86 := Zq.i HG86
   clear gb86 gl86 HG86
   (first | simp only [add_plain] at hx231_0 | skip)
   (first | simp only [add_plain] at hx231_1 | skip)
   (first | simp only [add_plain] at hx231_2 | skip)
   (first | simp only [add_plain] at hx231_3 | skip)
   obtain ⟨oki86, ce86, hcl86, hM86, hcc86, _, _, hH86⟩ := Kd.S_elem HO_3.out z42 (t221 : Int) (oT dq22) (by have h_ : (t221 : Int) < ((x3_16.length : Int) : Int) := oT dq22; first | exact h_ | (have e_ := (Kd.S_reads' HO_3.out).1; omega) | simpa using h_)
   obtain ⟨ve86_2, rfl, ge86_2⟩ := k42_openM hM86
   have hv86 := hcc86 2 _ rfl
   have hX86 := HX231_2.out
   (try simp only [add_plain] at hX86)
   (try simp only [Nat.add_zero] at hv86)
   replace hv86 := oI (hv86.symm.trans hX86)
   subst hv86
   clear hX86 hcc86 hcl86
   have UU86 := Zq.i (show Kd.R (Kd.int .i64) 2 _ w.heap.size oki86 (.slice A231_2 ((rd_T42 x3_16 t221).f2).length c231_2) ((rd_T42 x3_16 t221).f2) from ge86_2)
   have HH86 := Zq.i hH86
   have HN86 := Zq.i (Kd.S_reads' HO_3.out).1
   clear hH86 ge86_2
   refine hK.out _ _ ⟨HS0_, HS1_, HS2_, HS3_⟩ (fun hHeld => ?_)
   clear hK K
   refine norm_ (a' := ?_) ?_ ?_
   rotate_left
   ·exact (dAct : Act.put _ (some 80) _ = _)
   refine one_ (i := 10) (N := some 81) (bitsA 15 2047) rfl rfl (one_of HT_.out dq24) dq25 (fun K hK => ?_)
   refine value_ (w1 := ?_) (v := ?_) dq31 rfl ?_ ?_
   rotate_left 2
   ·go_simp
    constructor
    ·rfl
    rfl
   refine hK.out _ _ ⟨(World.cell?_alloc_lt _ _ _ (bC _ _ (hHeld.1))).trans (hHeld.1), (World.cell?_alloc_lt _ _ _ (bC _ _ (hHeld.2.1))).trans (hHeld.2.1), (World.cell?_alloc_lt _ _ _ (bC _ _ (hHeld.2.2.1))).trans (hHeld.2.2.1), (World.cell?_alloc_lt _ _ _ (bC _ _ (hHeld.2.2.2))).trans (hHeld.2.2.2)⟩ (fun hHeld => ?_)
   clear hK K
   refine norm_ (a' := ?_) ?_ ?_
   rotate_left
   ·exact (dAct : Act.put _ (some 81) _ = _)
   refine one_ (i := 11) (N := some 82) (bitsA 15 4095) rfl rfl (one_of HT_.out dq24) dq25 (fun K hK => ?_)
   refine Kd.R_append_step (Kd.int .i64) w.heap.size dq31 (.tmp 77) (.tmp 81) 33 2 (.int .i64 0) 8 rfl Try.underlying33 info2 rfl dq25 dq28 (.slice A231_2 ((rd_T42 x3_16 t221).f2).length c231_2) ((rd_T42 x3_16 t221).f2) t232 [.int .i64 t232] (fun k_ => oki86 k_ ∨ ((fun _ => True)) k_ ∧ w85.heap.size ≤ k_) (fun _ => False) rfl rfl ?aP (fun _ hk => hk.elim) ?aF ?aO (Below.refl _ _) ?aS ?aL ?_
   (case aP => exact rfl)
   (case aF => exact (fun k_ hk => .inr ⟨trivial, hk⟩))
   (case aO => exact (by (with_reducible repeat (first | apply Kd.R_alloc | apply Kd.R_drewN | apply Kd.R_drew)); exact Kd.R_mono UU86.out (fun _ hk => .inl hk)))
   (case aS => exact (keep_size (w := w) (g := g) (row := none) dq18))
   (case aL => have := LMc79.out; omega)
   intro v235 w87 ho hb hg hat
   (first | have HS0_ := cell_grown hg (hHeld.1) dq57 | have HS0_ := cell_grown hg (cell_unalloc (hHeld.1) dq58) dq57)
   (first | have HS1_ := cell_grown hg (hHeld.2.1) dq57 | have HS1_ := cell_grown hg (cell_unalloc (hHeld.2.1) dq58) dq57)
   (first | have HS2_ := cell_grown hg (hHeld.2.2.1) dq57 | have HS2_ := cell_grown hg (cell_unalloc (hHeld.2.2.1) dq58) dq57)
   (first | have HS3_ := cell_grown hg (hHeld.2.2.2) dq57 | have HS3_ := cell_grown hg (cell_unalloc (hHeld.2.2.2) dq58) dq57)
   rw [← Ny234.out] at ho
   replace HB := Zq.i (below_weaken dq19 HL.out hb)
   replace HI0 := Zq.i (IsS101.grown dq20 hg (IsS101.own_ne HI0.out HL231_2.out dq25))
   replace HK := Zq.i (KeepBut.trans dq18 (KeepBut.of_grown hg g) (Kd.R_base2 HL231_2.out))
   replace HH86 := Zq.i (Kd.H_grown (Kd.H_widen (by repeat (first | exact HH86.out | refine Kd.H_alloc ?_ _ | refine Kd.H_drewN ?_ _ | refine Kd.H_drew ?_))) hg (fun k_ e_ => .inl (UU86.out.1 k_ e_)))
   have HO236 := Zq.i (ho)
   clear HO_3 UU86 HL231_2 ho hb hg hat
   have p80 : 0 ≤ (t221 : Int) := oT dq22
   have q80 : (t221 : Int) < ((x3_16.length : Int) : Int) := oT dq22
   replace p80 := eq_true p80
   replace q80 := eq_true q80
   obtain ⟨Ao90, co90, eo90⟩ := Kd.R_slice HO236.out
   (first | subst eo90 | (injection eo90 with f1_ f2_ f3_; have f4_ := f1_.symm; have f5_ := f3_.symm; clear f1_ f2_ f3_; subst f4_; subst f5_))
   obtain ⟨_, _, hraw88, _, _, hcc88, _⟩ := Kd.H_raw HH86.out (oT dq22) (by have h_ : (t221 : Int) < ((x3_16.length : Int) : Int) := oT dq22; first | exact h_ | (have e_ := (HN86.out); omega) | simpa using h_)
   obtain ⟨_, hfr88⟩ := Kd.H_at HH86.out (oT dq22) (by have h_ : (t221 : Int) < ((x3_16.length : Int) : Int) := oT dq22; first | exact h_ | (have e_ := (HN86.out); omega) | simpa using h_)
   have hx88_0 := hcc88 2 _ rfl
   have hf88_0 := hfr88 2
   (try rw [show (k42).sz = 4 from rfl] at hx88_0)
   (try rw [show (k42).sz = 4 from rfl] at hf88_0)
   have HP88 := Kd.S_seg0 HH86.out (oT dq22) (by have h_ : (t221 : Int) < ((x3_16.length : Int) : Int) := oT dq22; first | exact h_ | (have e_ := (HN86.out); omega) | simpa using h_) (seg := [.slice Ao90 y234.length co90]) (j := 2) (show 3 ≤ 4 from by decide) (x' := (⟨(rd_T42 x3_16 t221).f0, (rd_T42 x3_16 t221).f1, y234, (rd_T42 x3_16 t221).f3⟩ : S42)) (k42_mkM _ _ _ (⟨(rd_T42 x3_16 t221).f0, (rd_T42 x3_16 t221).f1, y234, (rd_T42 x3_16 t221).f3⟩ : S42) HO236.out) (fun _ hk => hk)
   clear hcc88 hfr88
   have HN0_go86 := Zq.i (show g ≠ go86 from by have h_ := IsS101.own_ne HI0.out hraw88 dq25; intro e_; exact h_ (by rw [e_]; rfl))
   have HS88 := HP88.1
   rw [← Ny237.out] at HS88
   have HQ88 := Zq.i HS88
   obtain ⟨_, hgg88⟩ := Kd.R_typed hraw88 go86 rfl
   have GG88_ := Zq.i hgg88
   clear HP88 HS88 hgg88
   refine hK.out _ _ ⟨HS0_, HS1_, HS2_, HS3_⟩ (fun hHeld => ?_)
   clear hK K
   refine norm_ (a' := ?_) ?_ ?_
   rotate_left
   ·exact (dAct : Act.put _ (some 82) _ = _)
   refine pureA (i := 12) (N := some 83) (bitsA 15 8191) ?_
   refine pureA (i := 13) (N := some 84) (bitsA 15 16383) ?_
   refine last_ (i := 14) (N := none) (bitsA 15 32767) rfl rfl (one_of HT_.out dq24) dq25 (fun K hK => ?_)
   refine skip_ (w1 := ?_) dq31 rfl ?_ ?_
   rotate_left
   ·go_simp
    rfl
   refine hK.out _ _ ?_
   clear hK K
   refine done_ (done_of HT_.out dq24) ?_
   try go_wp2
   go_ret
   exact ⟨_, dq21, by (with_reducible repeat (first | apply Kd.S_alloc | apply Kd.S_drewN | apply Kd.S_drew)); exact HQ88.out, by repeat (first | (with_reducible first | exact HI0.out | apply IsS101.alloc | apply IsS101.drewN | apply IsS101.drew | apply IsS101.set_1 | refine IsS101.far ?_ HN0_go86.out _) | exact HI0.out), by repeat (first | (with_reducible first | exact HB.out | apply below_alloc | apply pw_below_drewN | apply below_drew1 | refine below_set ?_ (Nat.le_trans HL.out GB86.out) | refine below_set ?_ (IsS101.ge HI0.out)) | exact HB.out), by repeat (first | (with_reducible first | exact HK.out | apply KeepBut.set_ | apply keep_drewN | apply keep_drew | apply keep_alloc | refine keep_far ?_ GB86.out _) | exact HK.out)⟩

end Go.Proofs.Ytajdfbgbkgabjaa.L
