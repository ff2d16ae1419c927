/- Words and contracts for the row RowFnFields: what the Go functions answer that it calls; printed by programs of the kit and of this session, and merged. -/
import Derived.Test.YtpmjpbaeecnpiaaGreatDoorQg4
import Derived.Shelf.LaysM
import Derived.Shelf.Strings.SplitShaped
import Derived.Shelf.Unicode.DecodeSlow
import Derived.Test.YtpmjpbaeecnpiaaGreatDoorProg
import Derived.Lib.Hide
import Derived.Outline
import Derived.WalkSpells
import Derived.Deep.QuietTactic
import Derived.BigQuiet
import Derived.Lib.IndexLaws
import Derived.Lib.SlBy
import Derived.Shelf.Unicode.ValidAny
import Derived.Lib.OthersKept
namespace Go.Proofs.YtpmjpbaeecnpiaaGreatDoor.L
open Go.RowKit Go.Proofs.YtpmjpbaeecnpiaaGreatDoorW.PrintWords Go.Proofs.YtpmjpbaeecnpiaaGreatDoorW.PrintLast Go.Proofs.YtpmjpbaeecnpiaaGreatDoorW.PrintMore
attribute [local go_sem] max2_int min2_int max_two min_two max_three min_three max_four min_four
set_option linter.unusedVariables false
set_option linter.unusedSimpArgs false

/-! ### stringslite_HasSuffix: function 161 -/
def stringslite_HasSuffix.f (a0 : ByteArray) (a1 : ByteArray) : Option (Bool) := if (a0.size : Int) ≥ (a1.size : Int) then (if 0 ≤ (wrap64 ((a0.size : Int) - (a1.size : Int))) then (if (wrap64 ((a0.size : Int) - (a1.size : Int))) ≤ (a0.size : Int) then (some ((a0.extract ((wrap64 ((a0.size : Int) - (a1.size : Int))) : Int).toNat a0.size).toList == a1.toList)) else (none)) else (none)) else (some false)
set_option maxHeartbeats 8000000 in
set_option maxRecDepth 100000 in
theorem stringslite_HasSuffix.calls (a0 : ByteArray) (a1 : ByteArray) (r : Bool) (w : World) (h : stringslite_HasSuffix.f a0 a1 = some r) :
  Calls Tryz.prog 161 #[.string a0, .string a1] w fun e w' => e = .returned (.bool r) ∧ Drawn0 w w' := by
 have H : (if (a0.size : Int) ≥ (a1.size : Int) then (if 0 ≤ (wrap64 ((a0.size : Int) - (a1.size : Int))) then (if (wrap64 ((a0.size : Int) - (a1.size : Int))) ≤ (a0.size : Int) then (some ((a0.extract ((wrap64 ((a0.size : Int) - (a1.size : Int))) : Int).toNat a0.size).toList == a1.toList)) else (none)) else (none)) else (some false)) = some r := h
 clear h
 by_cases c3 : (a0.size : Int) ≥ (a1.size : Int)
 rotate_left
 ·rw [if_neg c3] at H
  have c3b0 : decide ((a1.size : Int) ≤ (a0.size : Int)) = false := decide_eq_false c3
  have c3b1 : decide (a1.size ≤ a0.size) = false := decide_eq_false (fun h => c3 (Int.ofNat_le.mpr h))
  clear c3
  obtain rfl := Option.some.inj H
  go_enter Tryz.func161, Tryz.ntmps161
  go_wp2
  go_ret
  exact ⟨dq17, dq16⟩
 rw [if_pos c3] at H
 have c3b0 : decide ((a1.size : Int) ≤ (a0.size : Int)) = true := decide_eq_true c3
 have c3b1 : decide (a1.size ≤ a0.size) = true := decide_eq_true (Int.ofNat_le.mp c3)
 clear c3
 obtain ⟨ji4, hji4⟩ : ∃ j_ : Int, (wrap64 ((a0.size : Int) - (a1.size : Int))) = j_ := ⟨_, rfl⟩
 replace H : (if 0 ≤ (ji4) then (if (ji4) ≤ (a0.size : Int) then (some ((a0.extract ((ji4) : Int).toNat a0.size).toList == a1.toList)) else (none)) else (none)) = some r := by first | (rw [hji4] at H; exact H) | (simp only [hji4] at H ⊢; exact H)
 have hji4w : (IntKind.i64.wrap ((a0.size : Int) - (a1.size : Int))) = ji4 := (i64_w _).trans hji4
 by_cases c5 : 0 ≤ (ji4)
 rotate_left
 ·rw [if_neg c5] at H
  exact absurd H dq20
 rw [if_pos c5] at H
 have c5b0 := eq_true c5
 have c5b1 := decide_eq_true c5
 clear c5
 by_cases c6 : (ji4) ≤ (a0.size : Int)
 rotate_left
 ·rw [if_neg c6] at H
  exact absurd H dq20
 rw [if_pos c6] at H
 have c6b0 := eq_true c6
 have c6b1 := decide_eq_true c6
 clear c6
 obtain rfl := Option.some.inj H
 go_enter Tryz.func161, Tryz.ntmps161
 go_wp2
 go_ret
 exact ⟨by first | rfl | (simp; done) | (simp only [← hji4] <;> (first | rfl | simp)) | (simp [*]; done), dq16⟩

/-! ### stringslite_CutSuffix: function 138 -/
def stringslite_CutSuffix.f (a0 : ByteArray) (a1 : ByteArray) : Option (ByteArray × Bool) := (stringslite_HasSuffix.f a0 a1).bind fun t303 => (if t303 = true then (if 0 ≤ (wrap64 ((a0.size : Int) - (a1.size : Int))) then (if (wrap64 ((a0.size : Int) - (a1.size : Int))) ≤ (a0.size : Int) then (some (a0.extract 0 ((wrap64 ((a0.size : Int) - (a1.size : Int))) : Int).toNat, true)) else (none)) else (none)) else (some (a0, false)))
set_option maxHeartbeats 8000000 in
set_option maxRecDepth 100000 in
theorem stringslite_CutSuffix.calls (a0 : ByteArray) (a1 : ByteArray) (r1 : ByteArray) (r2 : Bool) (w : World) (h : stringslite_CutSuffix.f a0 a1 = some (r1, r2)) :
  Calls Tryz.prog 138 #[.string a0, .string a1] w fun e w' => e = .returned (.tuple #[.string r1, .bool r2]) ∧ Drawn0 w w' := by
 have H : ((stringslite_HasSuffix.f a0 a1).bind fun t303 => (if t303 = true then (if 0 ≤ (wrap64 ((a0.size : Int) - (a1.size : Int))) then (if (wrap64 ((a0.size : Int) - (a1.size : Int))) ≤ (a0.size : Int) then (some (a0.extract 0 ((wrap64 ((a0.size : Int) - (a1.size : Int))) : Int).toNat, true)) else (none)) else (none)) else (some (a0, false)))) = some (r1, r2) := h
 clear h
 replace H := Option.bind_eq_some_iff.mp H
 obtain ⟨t303, A30, H⟩ := H
 replace H : (if t303 = true then (if 0 ≤ (wrap64 ((a0.size : Int) - (a1.size : Int))) then (if (wrap64 ((a0.size : Int) - (a1.size : Int))) ≤ (a0.size : Int) then (some (a0.extract 0 ((wrap64 ((a0.size : Int) - (a1.size : Int))) : Int).toNat, true)) else (none)) else (none)) else (some (a0, false))) = some (r1, r2) := H
 have A3 := Aside0.mk A30
 clear A30
 by_cases c4 : t303 = true
 rotate_left
 ·replace c4 := Bool.eq_false_iff.mpr c4
  subst c4
  have H1 : (some (a0, false)) = some (r1, r2) := by rw [if_neg (show ¬ (false = true) by decide)] at H; exact H
  clear H
  have H := H1
  clear H1
  simp only [Option.some.injEq, Prod.mk.injEq] at H
  obtain ⟨rfl, rfl⟩ := H
  go_enter Tryz.func138, Tryz.ntmps138
  go_wp2_with (first | ((with_reducible refine gate_callee (f := 161) rfl ?_); refine goesL_ (some 8) rfl rfl Tryz.func161 dq22 rfl #[.string a0, .string a1] rfl dq21 ?_; (with_reducible refine (stringslite_HasSuffix.calls a0 a1 false _ A3.out).mono ?_); rintro e w' ⟨rfl, ⟨nd, rfl⟩⟩; refine ⟨_, rfl, ?_⟩))
  go_ret2
  exact ⟨dq17, dq16⟩
 subst c4
 have H1 : (if 0 ≤ (wrap64 ((a0.size : Int) - (a1.size : Int))) then (if (wrap64 ((a0.size : Int) - (a1.size : Int))) ≤ (a0.size : Int) then (some (a0.extract 0 ((wrap64 ((a0.size : Int) - (a1.size : Int))) : Int).toNat, true)) else (none)) else (none)) = some (r1, r2) := by rw [if_pos rfl] at H; exact H
 clear H
 have H := H1
 clear H1
 obtain ⟨ji5, hji5⟩ : ∃ j_ : Int, (wrap64 ((a0.size : Int) - (a1.size : Int))) = j_ := ⟨_, rfl⟩
 replace H : (if 0 ≤ (ji5) then (if (ji5) ≤ (a0.size : Int) then (some (a0.extract 0 ((ji5) : Int).toNat, true)) else (none)) else (none)) = some (r1, r2) := by first | (rw [hji5] at H; exact H) | (simp only [hji5] at H ⊢; exact H)
 (try rw [hji5] at A3)
 have hji5w : (IntKind.i64.wrap ((a0.size : Int) - (a1.size : Int))) = ji5 := (i64_w _).trans hji5
 by_cases c6 : 0 ≤ (ji5)
 rotate_left
 ·rw [if_neg c6] at H
  exact absurd H dq20
 rw [if_pos c6] at H
 have c6b0 := eq_true c6
 have c6b1 := decide_eq_true c6
 clear c6
 by_cases c7 : (ji5) ≤ (a0.size : Int)
 rotate_left
 ·rw [if_neg c7] at H
  exact absurd H dq20
 rw [if_pos c7] at H
 have c7b0 := eq_true c7
 have c7b1 := decide_eq_true c7
 clear c7
 simp only [Option.some.injEq, Prod.mk.injEq] at H
 obtain ⟨rfl, rfl⟩ := H
 go_enter Tryz.func138, Tryz.ntmps138
 go_wp2_with (first | ((with_reducible refine gate_callee (f := 161) rfl ?_); refine goesL_ (some 8) rfl rfl Tryz.func161 dq22 rfl #[.string a0, .string a1] rfl dq21 ?_; (with_reducible refine (stringslite_HasSuffix.calls a0 a1 true _ A3.out).mono ?_); rintro e w' ⟨rfl, ⟨nd, rfl⟩⟩; refine ⟨_, rfl, ?_⟩))
 go_ret2
 exact ⟨by first | rfl | (simp; done) | (simp only [← hji5] <;> (first | rfl | simp)) | (simp [*]; done), dq16⟩

/-! ### strings_CutSuffix: function 97 -/
def strings_CutSuffix.f (a0 : ByteArray) (a1 : ByteArray) : Option (ByteArray × Bool) := (stringslite_CutSuffix.f a0 a1).bind fun bt304 => (some (bt304.1, bt304.2))
set_option maxHeartbeats 8000000 in
set_option maxRecDepth 100000 in
theorem strings_CutSuffix.calls (a0 : ByteArray) (a1 : ByteArray) (r1 : ByteArray) (r2 : Bool) (w : World) (h : strings_CutSuffix.f a0 a1 = some (r1, r2)) :
  Calls Tryz.prog 97 #[.string a0, .string a1] w fun e w' => e = .returned (.tuple #[.string r1, .bool r2]) ∧ Drawn0 w w' := by
 have H : ((stringslite_CutSuffix.f a0 a1).bind fun bt304 => (some (bt304.1, bt304.2))) = some (r1, r2) := h
 clear h
 replace H := Option.bind_eq_some_iff.mp H
 obtain ⟨⟨t304, t305⟩, A30, H⟩ := H
 replace H : (some (t304, t305)) = some (r1, r2) := H
 have A3 := Aside0.mk A30
 clear A30
 simp only [Option.some.injEq, Prod.mk.injEq] at H
 obtain ⟨rfl, rfl⟩ := H
 go_enter Tryz.func97, Tryz.ntmps97
 go_wp2_with (first | ((with_reducible refine gate_callee (f := 138) rfl ?_); refine goesL_ (some 8) rfl rfl Tryz.func138 dq22 rfl #[.string a0, .string a1] rfl dq21 ?_; (with_reducible refine (stringslite_CutSuffix.calls a0 a1 t304 t305 _ A3.out).mono ?_); rintro e w' ⟨rfl, ⟨nd, rfl⟩⟩; refine ⟨_, rfl, ?_⟩))
 go_ret2
 exact ⟨dq17, dq16⟩

end Go.Proofs.YtpmjpbaeecnpiaaGreatDoor.L

namespace Go.Proofs
open Go.Shelf
def Tryz.lays219_ren : Go.Shelf.Ren := ⟨fun | 219 => 160 | 217 => 179 | 225 => 180 | 224 => 181 | 267 => 182 | 266 => 193 | 314 => 194 | n => n, fun | 9 => 9 | 3 => 3 | 4 => 4 | 5 => 5 | 46 => 178 | 146 => 228 | 51 => 139 | n => n, fun | 1 => 0 | n => n⟩
theorem Tryz.lays219 : Go.Proofs.Lays.n219 Tryz.prog Tryz.lays219_ren := {
  mixed := by kernel_rfl
  f217 := Tryz.func179.trans (congrArg some (by kernel_rfl))
  f219 := Tryz.func160.trans (congrArg some (by kernel_rfl))
  f224 := Tryz.func181.trans (congrArg some (by kernel_rfl))
  f225 := Tryz.func180.trans (congrArg some (by kernel_rfl))
  f266 := Tryz.func193.trans (congrArg some (by kernel_rfl))
  f267 := Tryz.func182.trans (congrArg some (by kernel_rfl))
  f314 := Tryz.func194.trans (congrArg some (by kernel_rfl))
  t3 := Tryz.underlying3
  a3 := Tryz.isAgg3
  z3 := Tryz.sizeOf3
  v3 := Tryz.zeroValue3
  t4 := Tryz.underlying4
  a4 := Tryz.isAgg4
  z4 := Tryz.sizeOf4
  v4 := Tryz.zeroValue4
  t5 := Tryz.underlying5
  a5 := Tryz.isAgg5
  z5 := Tryz.sizeOf5
  v5 := Tryz.zeroValue5
  t9 := Tryz.underlying9
  a9 := Tryz.isAgg9
  z9 := Tryz.sizeOf9
  v9 := Tryz.zeroValue9
  t46 := Tryz.underlying178
  a46 := Tryz.isAgg178
  z46 := Tryz.sizeOf178
  v46 := Tryz.zeroValue178
  t51 := Tryz.underlying139
  a51 := Tryz.isAgg139
  z51 := Tryz.sizeOf139
  v51 := Tryz.zeroValue139
  t146 := Tryz.underlying228
  a146 := Tryz.isAgg228
  z146 := Tryz.sizeOf228
  v146 := Tryz.zeroValue228
  g1 := by kernel_rfl }
open Go.RowKit Go.Lib in
/-- internal/stringslite.Index (what strings.Index calls) AT A substr OF ONE BYTE c: IT RETURNS 'Lib.indexByte s c'; the world is as it was. (LAID: no walk: one application.) -/
theorem Tryz.stringslite_Index_one (s : ByteArray) (c : UInt8) (w : World) :
    Calls Tryz.prog 160 #[.string s, .string ⟨#[c]⟩] w fun e w' => e = .returned (.int .i64 (Lib.indexByte s.data.toList c)) ∧ w' = w := Any.stringslite_Index_one Tryz.lays219 s c w
def Tryz.lays146_ren : Go.Shelf.Ren := ⟨fun | 146 => 122 | 221 => 157 | 268 => 175 | 138 => 176 | 143 => 177 | 195 => 190 | 197 => 191 | 218 => 192 | 219 => 160 | 260 => 206 | 217 => 179 | 225 => 180 | 224 => 181 | 267 => 182 | 266 => 193 | 314 => 194 | n => n, fun | 9 => 9 | 31 => 30 | 3 => 3 | 4 => 4 | 0 => 0 | 105 => 226 | 21 => 21 | 5 => 5 | 46 => 178 | 119 => 201 | 139 => 233 | 138 => 232 | 146 => 228 | 51 => 139 | n => n, fun | 1 => 0 | 3 => 1 | 4 => 2 | n => n⟩
theorem Tryz.lays146 : Go.Proofs.Lays.n146 Tryz.prog Tryz.lays146_ren := {
  mixed := by kernel_rfl
  f138 := Tryz.func176.trans (congrArg some (by kernel_rfl))
  f143 := Tryz.func177.trans (congrArg some (by kernel_rfl))
  f146 := Tryz.func122.trans (congrArg some (by kernel_rfl))
  f195 := Tryz.func190.trans (congrArg some (by kernel_rfl))
  f197 := Tryz.func191.trans (congrArg some (by kernel_rfl))
  f217 := Tryz.func179.trans (congrArg some (by kernel_rfl))
  f218 := Tryz.func192.trans (congrArg some (by kernel_rfl))
  f219 := Tryz.func160.trans (congrArg some (by kernel_rfl))
  f221 := Tryz.func157.trans (congrArg some (by kernel_rfl))
  f224 := Tryz.func181.trans (congrArg some (by kernel_rfl))
  f225 := Tryz.func180.trans (congrArg some (by kernel_rfl))
  f260 := Tryz.func206.trans (congrArg some (by kernel_rfl))
  f266 := Tryz.func193.trans (congrArg some (by kernel_rfl))
  f267 := Tryz.func182.trans (congrArg some (by kernel_rfl))
  f268 := Tryz.func175.trans (congrArg some (by kernel_rfl))
  f314 := Tryz.func194.trans (congrArg some (by kernel_rfl))
  t0 := Tryz.underlying0
  a0 := Tryz.isAgg0
  z0 := Tryz.sizeOf0
  v0 := Tryz.zeroValue0
  t3 := Tryz.underlying3
  a3 := Tryz.isAgg3
  z3 := Tryz.sizeOf3
  v3 := Tryz.zeroValue3
  t4 := Tryz.underlying4
  a4 := Tryz.isAgg4
  z4 := Tryz.sizeOf4
  v4 := Tryz.zeroValue4
  t5 := Tryz.underlying5
  a5 := Tryz.isAgg5
  z5 := Tryz.sizeOf5
  v5 := Tryz.zeroValue5
  t9 := Tryz.underlying9
  a9 := Tryz.isAgg9
  z9 := Tryz.sizeOf9
  v9 := Tryz.zeroValue9
  t21 := Tryz.underlying21
  a21 := Tryz.isAgg21
  z21 := Tryz.sizeOf21
  v21 := Tryz.zeroValue21
  t31 := Tryz.underlying30
  a31 := Tryz.isAgg30
  z31 := Tryz.sizeOf30
  v31 := Tryz.zeroValue30
  t46 := Tryz.underlying178
  a46 := Tryz.isAgg178
  z46 := Tryz.sizeOf178
  v46 := Tryz.zeroValue178
  t51 := Tryz.underlying139
  a51 := Tryz.isAgg139
  z51 := Tryz.sizeOf139
  v51 := Tryz.zeroValue139
  t105 := Tryz.underlying226
  a105 := Tryz.isAgg226
  z105 := Tryz.sizeOf226
  v105 := Tryz.zeroValue226
  t119 := Tryz.underlying201
  a119 := Tryz.isAgg201
  z119 := Tryz.sizeOf201
  t138 := Tryz.underlying232
  a138 := Tryz.isAgg232
  z138 := Tryz.sizeOf232
  v138 := Tryz.zeroValue232
  t139 := Tryz.underlying233
  a139 := Tryz.isAgg233
  z139 := Tryz.sizeOf233
  v139 := Tryz.zeroValue233
  t146 := Tryz.underlying228
  a146 := Tryz.isAgg228
  z146 := Tryz.sizeOf228
  v146 := Tryz.zeroValue228
  g1 := by kernel_rfl
  g3 := by kernel_rfl
  g4 := by kernel_rfl }
open Go.RowKit Go.Lib in
/-- strings.Split. (LAID: no walk: one application.) -/
theorem Tryz.strings_Split (s sep : ByteArray) (m : Int) (w : World) (hs : s.size < 4294967281) (hm : w.cell? ⟨0, 0, none⟩ = some (.int .i64 m)) (h1 : 1 ≤ sep.size) :
    Calls Tryz.prog 122 #[.string s, .string sep] w fun e w' =>
      e = .returned (.slice (some ⟨w.heap.size, 0, none⟩) (Lib.countB s sep + 1) (Lib.countB s sep + 1)) ∧ w' = w.alloc (.cells ((Lib.splitB sep 0 (Lib.countB s sep) s).map Value.string).toArray 9) := Any.strings_Split Tryz.lays146 (by kernel_rfl) s sep m w hs hm h1
def Tryz.laysM146_ren : Go.Shelf.Ren := ⟨fun | 146 => 122 | 221 => 157 | 268 => 175 | 138 => 176 | 143 => 177 | 195 => 190 | 197 => 191 | 218 => 192 | 219 => 160 | 260 => 206 | 217 => 179 | 225 => 180 | 224 => 181 | 267 => 182 | 266 => 193 | 314 => 194 | n => n, fun | 9 => 9 | 31 => 30 | 3 => 3 | 4 => 4 | 0 => 0 | 105 => 226 | 21 => 21 | 5 => 5 | 46 => 178 | 119 => 201 | 139 => 233 | 138 => 232 | 146 => 228 | 51 => 139 | n => n, fun | 1 => 0 | 3 => 1 | 4 => 2 | n => n⟩
theorem Tryz.laysM146 : Go.Proofs.LaysM.n146 Tryz.prog Tryz.laysM146_ren := {
  mixed := by kernel_rfl
  f138 := Tryz.func176.trans (congrArg some (by kernel_rfl))
  f143 := Tryz.func177.trans (congrArg some (by kernel_rfl))
  f146 := Tryz.func122.trans (congrArg some (by kernel_rfl))
  f195 := Tryz.func190.trans (congrArg some (by kernel_rfl))
  f197 := Tryz.func191.trans (congrArg some (by kernel_rfl))
  f217 := Tryz.func179.trans (congrArg some (by kernel_rfl))
  f218 := Tryz.func192.trans (congrArg some (by kernel_rfl))
  f219 := Tryz.func160.trans (congrArg some (by kernel_rfl))
  f221 := Tryz.func157.trans (congrArg some (by kernel_rfl))
  f224 := Tryz.func181.trans (congrArg some (by kernel_rfl))
  f225 := Tryz.func180.trans (congrArg some (by kernel_rfl))
  f260 := Tryz.func206.trans (congrArg some (by kernel_rfl))
  f266 := Tryz.func193.trans (congrArg some (by kernel_rfl))
  f267 := Tryz.func182.trans (congrArg some (by kernel_rfl))
  f268 := Tryz.func175.trans (congrArg some (by kernel_rfl))
  f314 := Tryz.func194.trans (congrArg some (by kernel_rfl))
  t0 := Tryz.underlying0
  a0 := Tryz.isAgg0
  z0 := Tryz.sizeOf0
  v0 := Tryz.zeroValue0
  t3 := Tryz.underlying3
  a3 := Tryz.isAgg3
  z3 := Tryz.sizeOf3
  v3 := Tryz.zeroValue3
  t4 := Tryz.underlying4
  a4 := Tryz.isAgg4
  z4 := Tryz.sizeOf4
  v4 := Tryz.zeroValue4
  t5 := Tryz.underlying5
  a5 := Tryz.isAgg5
  z5 := Tryz.sizeOf5
  v5 := Tryz.zeroValue5
  t9 := Tryz.underlying9
  a9 := Tryz.isAgg9
  z9 := Tryz.sizeOf9
  v9 := Tryz.zeroValue9
  t21 := Tryz.underlying21
  a21 := Tryz.isAgg21
  z21 := Tryz.sizeOf21
  v21 := Tryz.zeroValue21
  t31 := Tryz.underlying30
  a31 := Tryz.isAgg30
  z31 := Tryz.sizeOf30
  v31 := Tryz.zeroValue30
  t46 := Tryz.underlying178
  a46 := Tryz.isAgg178
  z46 := Tryz.sizeOf178
  v46 := Tryz.zeroValue178
  t51 := Tryz.underlying139
  a51 := Tryz.isAgg139
  z51 := Tryz.sizeOf139
  v51 := Tryz.zeroValue139
  t105 := Tryz.underlying226
  a105 := Tryz.isAgg226
  z105 := Tryz.sizeOf226
  v105 := Tryz.zeroValue226
  t119 := Tryz.underlying201
  a119 := Tryz.isAgg201
  z119 := Tryz.sizeOf201
  t138 := Tryz.underlying232
  a138 := Tryz.isAgg232
  z138 := Tryz.sizeOf232
  v138 := Tryz.zeroValue232
  t139 := Tryz.underlying233
  a139 := Tryz.isAgg233
  z139 := Tryz.sizeOf233
  v139 := Tryz.zeroValue233
  t146 := Tryz.underlying228
  a146 := Tryz.isAgg228
  z146 := Tryz.sizeOf228
  v146 := Tryz.zeroValue228
  g1 := by kernel_rfl
  g3 := by kernel_rfl
  g4 := by kernel_rfl
  i0 := by kernel_rfl
  i3 := by kernel_rfl
  i4 := by kernel_rfl
  i5 := by kernel_rfl
  i9 := by kernel_rfl
  i21 := by kernel_rfl
  i31 := by kernel_rfl
  i46 := by kernel_rfl
  i51 := by kernel_rfl
  i105 := by kernel_rfl
  i138 := by kernel_rfl
  i139 := by kernel_rfl
  i146 := by kernel_rfl
  m1 := by kernel_rfl
  s1_3 := fun w h => Go.Proofs.cell_of_shapedOpen_int (zero := #[.int .i64 0]) (t := 3) h (of_decide_eq_true (by kernel_rfl)) (by kernel_rfl) rfl (by kernel_rfl) (by kernel_rfl) Tryz.underlying3
  m3 := by kernel_rfl
  m4 := by kernel_rfl }
def Tryz.lays260_ren : Go.Shelf.Ren := ⟨fun | 260 => 206 | n => n, fun | 9 => 9 | 21 => 21 | 3 => 3 | 4 => 4 | 5 => 5 | 119 => 201 | 0 => 0 | 46 => 178 | 139 => 233 | 138 => 232 | n => n, fun | 3 => 1 | 4 => 2 | n => n⟩
theorem Tryz.lays260 : Go.Proofs.Lays.n260 Tryz.prog Tryz.lays260_ren := {
  mixed := by kernel_rfl
  f260 := Tryz.func206.trans (congrArg some (by kernel_rfl))
  t0 := Tryz.underlying0
  a0 := Tryz.isAgg0
  z0 := Tryz.sizeOf0
  v0 := Tryz.zeroValue0
  t3 := Tryz.underlying3
  a3 := Tryz.isAgg3
  z3 := Tryz.sizeOf3
  v3 := Tryz.zeroValue3
  t4 := Tryz.underlying4
  a4 := Tryz.isAgg4
  z4 := Tryz.sizeOf4
  v4 := Tryz.zeroValue4
  t5 := Tryz.underlying5
  a5 := Tryz.isAgg5
  z5 := Tryz.sizeOf5
  v5 := Tryz.zeroValue5
  t9 := Tryz.underlying9
  a9 := Tryz.isAgg9
  z9 := Tryz.sizeOf9
  v9 := Tryz.zeroValue9
  t21 := Tryz.underlying21
  a21 := Tryz.isAgg21
  z21 := Tryz.sizeOf21
  v21 := Tryz.zeroValue21
  t46 := Tryz.underlying178
  a46 := Tryz.isAgg178
  z46 := Tryz.sizeOf178
  v46 := Tryz.zeroValue178
  t119 := Tryz.underlying201
  a119 := Tryz.isAgg201
  z119 := Tryz.sizeOf201
  t138 := Tryz.underlying232
  a138 := Tryz.isAgg232
  z138 := Tryz.sizeOf232
  v138 := Tryz.zeroValue232
  t139 := Tryz.underlying233
  a139 := Tryz.isAgg233
  z139 := Tryz.sizeOf233
  v139 := Tryz.zeroValue233
  g3 := by kernel_rfl
  g4 := by kernel_rfl }
end Go.Proofs

namespace Go.Proofs.YtpmjpbaeecnpiaaGreatDoor.L
open Go.RowKit Go.Proofs.YtpmjpbaeecnpiaaGreatDoorW.PrintWords Go.Proofs.YtpmjpbaeecnpiaaGreatDoorW.PrintLast Go.Proofs.YtpmjpbaeecnpiaaGreatDoorW.PrintMore
set_option linter.unusedVariables false
set_option linter.unusedSimpArgs false

def strings_Cut.f (a0 : ByteArray) (a1 : ByteArray) : Option (ByteArray × ByteArray × Bool) :=
  match a1.data.toList with
  | [c] => if a0.size ≤ 9223372036854775807 then
      (if 0 ≤ Lib.indexByte a0.data.toList c then some (a0.extract 0 (Lib.indexByte a0.data.toList c).toNat, a0.extract ((Lib.indexByte a0.data.toList c).toNat + 1) a0.size, true) else some (a0, ⟨#[]⟩, false)) else none
  | _ => none
theorem stringslite_cut_yes (s : ByteArray) (c : UInt8) (w : World) (hs : s.size ≤ 9223372036854775807) (i : Nat) (hi : Lib.indexByte s.data.toList c = (i : Int)) (hlt : i < s.size) :
    Calls Tryz.prog 95 #[.string s, .string ⟨#[c]⟩] w fun e w' => e = .returned (.tuple #[.string (s.extract 0 i), .string (s.extract (i + 1) s.size), .bool true]) ∧ Below w.heap.size w w' := by
  have HI := Lib.hid hi
  clear hi
  go_enter Tryz.func95, Tryz.ntmps95
  go_wp2_with (first | (go_at_call 160; refine (Tryz.stringslite_Index_one _ _ _).mono ?_; rintro e w' ⟨rfl, rfl⟩; rw [HI.out]) | go_in)
  have b0 : (0 : Int) ≤ (i : Int) := by omega
  have b1 : (i : Int) ≤ (s.size : Int) := by omega
  have b2 : (i : Int) + 1 ≤ (s.size : Int) := by omega
  have b3 : (0 : Int) ≤ (i : Int) + 1 := by omega
  have b4 : ((i : Int) + 1).toNat = i + 1 := by omega
  go_quiet (fail)
  go_wp2
  go_ret3
  go_wp2
  go_ret3
  exact ⟨rfl, pw_below_drewN (Below.refl _ _) _⟩
theorem stringslite_cut_no (s : ByteArray) (c : UInt8) (w : World) (hi : Lib.indexByte s.data.toList c = -1) :
    Calls Tryz.prog 95 #[.string s, .string ⟨#[c]⟩] w fun e w' => e = .returned (.tuple #[.string s, .string ⟨#[]⟩, .bool false]) ∧ Below w.heap.size w w' := by
  have HI := Lib.hid hi
  clear hi
  go_enter Tryz.func95, Tryz.ntmps95
  go_wp2_with (first | (go_at_call 160; refine (Tryz.stringslite_Index_one _ _ _).mono ?_; rintro e w' ⟨rfl, rfl⟩; rw [HI.out]) | go_in)
  go_ret3
  go_wp2
  go_ret3
  exact ⟨rfl, Below.refl _ _⟩
theorem strings_Cut.calls (a0 : ByteArray) (a1 : ByteArray) (r1 : ByteArray) (r2 : ByteArray) (r3 : Bool) (w : World) (h : strings_Cut.f a0 a1 = some (r1, r2, r3)) :
    Calls Tryz.prog 95 #[.string a0, .string a1] w fun e w' => e = .returned (.tuple #[.string r1, .string r2, .bool r3]) ∧ Below w.heap.size w w' := by
  unfold strings_Cut.f at h
  obtain ⟨⟨l⟩⟩ := a1
  match l, h with
  | [], h => simp at h
  | [c], h =>
    simp only at h
    by_cases hs : a0.size ≤ 9223372036854775807
    · rw [if_pos hs] at h
      by_cases h0 : 0 ≤ Lib.indexByte a0.data.toList c
      · rw [if_pos h0] at h
        simp only [Option.some.injEq, Prod.mk.injEq] at h
        obtain ⟨rfl, rfl, rfl⟩ := h
        obtain ⟨i, hi⟩ := Int.eq_ofNat_of_zero_le h0
        have hl : i < a0.size := by
          have := (Lib.indexByte_some hi).1
          have := (List.getElem?_eq_some_iff.1 this).1
          simpa using this
        rw [hi]
        exact stringslite_cut_yes a0 c w hs i hi hl
      · rw [if_neg h0] at h
        simp only [Option.some.injEq, Prod.mk.injEq] at h
        obtain ⟨rfl, rfl, rfl⟩ := h
        exact stringslite_cut_no a0 c w (by have := Lib.indexByte_ge a0.data.toList c; omega)
    · rw [if_neg hs] at h
      cases h
  | _ :: _ :: _, h => simp at h
end Go.Proofs.YtpmjpbaeecnpiaaGreatDoor.L

namespace Go.Proofs.YtpmjpbaeecnpiaaGreatDoor.L
open Go.RowKit Go.Proofs.YtpmjpbaeecnpiaaGreatDoorW.PrintWords Go.Proofs.YtpmjpbaeecnpiaaGreatDoorW.PrintLast Go.Proofs.YtpmjpbaeecnpiaaGreatDoorW.PrintMore
attribute [local go_sem] max2_int min2_int max_two min_two max_three min_three max_four min_four
set_option linter.unusedVariables false
set_option linter.unusedSimpArgs false

/-! ### stringslite_HasPrefix: function 174 -/
def stringslite_HasPrefix.f (a0 : ByteArray) (a1 : ByteArray) : Option (Bool) := if (a0.size : Int) ≥ (a1.size : Int) then (if 0 ≤ (a1.size : Int) then (if (a1.size : Int) ≤ (a0.size : Int) then (some ((a0.extract 0 ((a1.size : Int) : Int).toNat).toList == a1.toList)) else (none)) else (none)) else (some false)
set_option maxHeartbeats 8000000 in
set_option maxRecDepth 100000 in
theorem stringslite_HasPrefix.calls (a0 : ByteArray) (a1 : ByteArray) (r : Bool) (w : World) (h : stringslite_HasPrefix.f a0 a1 = some r) :
  Calls Tryz.prog 174 #[.string a0, .string a1] w fun e w' => e = .returned (.bool r) ∧ Drawn0 w w' := by
 have H : (if (a0.size : Int) ≥ (a1.size : Int) then (if 0 ≤ (a1.size : Int) then (if (a1.size : Int) ≤ (a0.size : Int) then (some ((a0.extract 0 ((a1.size : Int) : Int).toNat).toList == a1.toList)) else (none)) else (none)) else (some false)) = some r := h
 clear h
 by_cases c3 : (a0.size : Int) ≥ (a1.size : Int)
 rotate_left
 ·rw [if_neg c3] at H
  have c3b0 : decide ((a1.size : Int) ≤ (a0.size : Int)) = false := decide_eq_false c3
  have c3b1 : decide (a1.size ≤ a0.size) = false := decide_eq_false (fun h => c3 (Int.ofNat_le.mpr h))
  clear c3
  obtain rfl := Option.some.inj H
  go_enter Tryz.func174, Tryz.ntmps174
  go_wp2
  go_ret
  exact ⟨dq17, dq16⟩
 rw [if_pos c3] at H
 have c3b0 : decide ((a1.size : Int) ≤ (a0.size : Int)) = true := decide_eq_true c3
 have c3b1 : decide (a1.size ≤ a0.size) = true := decide_eq_true (Int.ofNat_le.mp c3)
 clear c3
 by_cases c4 : 0 ≤ (a1.size : Int)
 rotate_left
 ·rw [if_neg c4] at H
  exact absurd H dq20
 rw [if_pos c4] at H
 have c4b0 := eq_true c4
 have c4b1 := decide_eq_true c4
 clear c4
 by_cases c5 : (a1.size : Int) ≤ (a0.size : Int)
 rotate_left
 ·rw [if_neg c5] at H
  exact absurd H dq20
 rw [if_pos c5] at H
 have c5b0 := eq_true c5
 have c5b1 := decide_eq_true c5
 clear c5
 obtain rfl := Option.some.inj H
 go_enter Tryz.func174, Tryz.ntmps174
 go_wp2
 go_ret
 exact ⟨dq17, dq16⟩

/-! ### stringslite_CutPrefix: function 156 -/
def stringslite_CutPrefix.f (a0 : ByteArray) (a1 : ByteArray) : Option (ByteArray × Bool) := (stringslite_HasPrefix.f a0 a1).bind fun t300 => (if t300 = true then (if 0 ≤ (a1.size : Int) then (if (a1.size : Int) ≤ (a0.size : Int) then (some (a0.extract ((a1.size : Int) : Int).toNat a0.size, true)) else (none)) else (none)) else (some (a0, false)))
set_option maxHeartbeats 8000000 in
set_option maxRecDepth 100000 in
theorem stringslite_CutPrefix.calls (a0 : ByteArray) (a1 : ByteArray) (r1 : ByteArray) (r2 : Bool) (w : World) (h : stringslite_CutPrefix.f a0 a1 = some (r1, r2)) :
  Calls Tryz.prog 156 #[.string a0, .string a1] w fun e w' => e = .returned (.tuple #[.string r1, .bool r2]) ∧ Drawn0 w w' := by
 have H : ((stringslite_HasPrefix.f a0 a1).bind fun t300 => (if t300 = true then (if 0 ≤ (a1.size : Int) then (if (a1.size : Int) ≤ (a0.size : Int) then (some (a0.extract ((a1.size : Int) : Int).toNat a0.size, true)) else (none)) else (none)) else (some (a0, false)))) = some (r1, r2) := h
 clear h
 replace H := Option.bind_eq_some_iff.mp H
 obtain ⟨t300, A30, H⟩ := H
 replace H : (if t300 = true then (if 0 ≤ (a1.size : Int) then (if (a1.size : Int) ≤ (a0.size : Int) then (some (a0.extract ((a1.size : Int) : Int).toNat a0.size, true)) else (none)) else (none)) else (some (a0, false))) = some (r1, r2) := H
 have A3 := Aside0.mk A30
 clear A30
 by_cases c4 : t300 = true
 rotate_left
 ·replace c4 := Bool.eq_false_iff.mpr c4
  subst c4
  have H1 : (some (a0, false)) = some (r1, r2) := by rw [if_neg (show ¬ (false = true) by decide)] at H; exact H
  clear H
  have H := H1
  clear H1
  simp only [Option.some.injEq, Prod.mk.injEq] at H
  obtain ⟨rfl, rfl⟩ := H
  go_enter Tryz.func156, Tryz.ntmps156
  go_wp2_with (first | ((with_reducible refine gate_callee (f := 174) rfl ?_); refine goesL_ (some 8) rfl rfl Tryz.func174 dq22 rfl #[.string a0, .string a1] rfl dq21 ?_; (with_reducible refine (stringslite_HasPrefix.calls a0 a1 false _ A3.out).mono ?_); rintro e w' ⟨rfl, ⟨nd, rfl⟩⟩; refine ⟨_, rfl, ?_⟩))
  go_ret2
  exact ⟨dq17, dq16⟩
 subst c4
 have H1 : (if 0 ≤ (a1.size : Int) then (if (a1.size : Int) ≤ (a0.size : Int) then (some (a0.extract ((a1.size : Int) : Int).toNat a0.size, true)) else (none)) else (none)) = some (r1, r2) := by rw [if_pos rfl] at H; exact H
 clear H
 have H := H1
 clear H1
 by_cases c5 : 0 ≤ (a1.size : Int)
 rotate_left
 ·rw [if_neg c5] at H
  exact absurd H dq20
 rw [if_pos c5] at H
 have c5b0 := eq_true c5
 have c5b1 := decide_eq_true c5
 clear c5
 by_cases c6 : (a1.size : Int) ≤ (a0.size : Int)
 rotate_left
 ·rw [if_neg c6] at H
  exact absurd H dq20
 rw [if_pos c6] at H
 have c6b0 := eq_true c6
 have c6b1 := decide_eq_true c6
 clear c6
 simp only [Option.some.injEq, Prod.mk.injEq] at H
 obtain ⟨rfl, rfl⟩ := H
 go_enter Tryz.func156, Tryz.ntmps156
 go_wp2_with (first | ((with_reducible refine gate_callee (f := 174) rfl ?_); refine goesL_ (some 8) rfl rfl Tryz.func174 dq22 rfl #[.string a0, .string a1] rfl dq21 ?_; (with_reducible refine (stringslite_HasPrefix.calls a0 a1 true _ A3.out).mono ?_); rintro e w' ⟨rfl, ⟨nd, rfl⟩⟩; refine ⟨_, rfl, ?_⟩))
 go_ret2
 exact ⟨dq17, dq16⟩

/-! ### strings_CutPrefix: function 121 -/
def strings_CutPrefix.f (a0 : ByteArray) (a1 : ByteArray) : Option (ByteArray × Bool) := (stringslite_CutPrefix.f a0 a1).bind fun bt301 => (some (bt301.1, bt301.2))
set_option maxHeartbeats 8000000 in
set_option maxRecDepth 100000 in
theorem strings_CutPrefix.calls (a0 : ByteArray) (a1 : ByteArray) (r1 : ByteArray) (r2 : Bool) (w : World) (h : strings_CutPrefix.f a0 a1 = some (r1, r2)) :
  Calls Tryz.prog 121 #[.string a0, .string a1] w fun e w' => e = .returned (.tuple #[.string r1, .bool r2]) ∧ Drawn0 w w' := by
 have H : ((stringslite_CutPrefix.f a0 a1).bind fun bt301 => (some (bt301.1, bt301.2))) = some (r1, r2) := h
 clear h
 replace H := Option.bind_eq_some_iff.mp H
 obtain ⟨⟨t301, t302⟩, A30, H⟩ := H
 replace H : (some (t301, t302)) = some (r1, r2) := H
 have A3 := Aside0.mk A30
 clear A30
 simp only [Option.some.injEq, Prod.mk.injEq] at H
 obtain ⟨rfl, rfl⟩ := H
 go_enter Tryz.func121, Tryz.ntmps121
 go_wp2_with (first | ((with_reducible refine gate_callee (f := 156) rfl ?_); refine goesL_ (some 8) rfl rfl Tryz.func156 dq22 rfl #[.string a0, .string a1] rfl dq21 ?_; (with_reducible refine (stringslite_CutPrefix.calls a0 a1 t301 t302 _ A3.out).mono ?_); rintro e w' ⟨rfl, ⟨nd, rfl⟩⟩; refine ⟨_, rfl, ?_⟩))
 go_ret2
 exact ⟨dq17, dq16⟩

end Go.Proofs.YtpmjpbaeecnpiaaGreatDoor.L

namespace Go.Proofs.YtpmjpbaeecnpiaaGreatDoor.L
open Go.RowKit Go.Proofs.YtpmjpbaeecnpiaaGreatDoorW.PrintWords Go.Proofs.YtpmjpbaeecnpiaaGreatDoorW.PrintLast Go.Proofs.YtpmjpbaeecnpiaaGreatDoorW.PrintMore
set_option linter.unusedVariables false

structure Gl (w : World) : Prop where
  tabs : Lib.Utf8Tabs 1 2 w
  most : ∃ m : Int, w.cell? ⟨0, 0, none⟩ = some (.int .i64 m)
theorem cell_lt' {w : World} {p : Addr} {v : Value} (h : w.cell? p = some v) : p.block < w.heap.size := by
  rcases Nat.lt_or_ge p.block w.heap.size with h' | h'
  · exact h'
  · simp [World.cell?, Array.getElem?_eq_none h'] at h
theorem Gl_below {w w' : World} (h : Gl w) (hb : Below w.heap.size w w') : Gl w' := by
  obtain ⟨h1, m, h2⟩ := h
  exact ⟨Go.Proofs.Utf8Tabs_below h1 hb, m, (hb.cell (p := ⟨0, 0, none⟩) (cell_lt' h2)).trans h2⟩
end Go.Proofs.YtpmjpbaeecnpiaaGreatDoor.L

namespace Go.Proofs.YtpmjpbaeecnpiaaGreatDoor.L
open Go.RowKit Go.Proofs.YtpmjpbaeecnpiaaGreatDoorW.PrintWords Go.Proofs.YtpmjpbaeecnpiaaGreatDoorW.PrintLast Go.Proofs.YtpmjpbaeecnpiaaGreatDoorW.PrintMore
set_option linter.unusedVariables false
set_option linter.unusedSimpArgs false

def slash : ByteArray := ⟨#[47]⟩
def namesOf (s : ByteArray) : List ByteArray := Lib.splitB slash 0 (Lib.countB s slash) s
def nameK (k : Nat) (s : ByteArray) : Bool := (impl_NameOk.f k s).getD false
def impl_stepsOf.f (k : Nat) (a0 : ByteArray) : Option (List ByteArray × Bool × Bool) :=
  (strings_CutPrefix.f a0 ⟨#[47, 47]⟩).bind fun t =>
    if t.1.size < 4294967281 ∧ (namesOf t.1).length = Lib.countB t.1 slash + 1 ∧ (namesOf t.1).length ≤ 4294967281 then
      if a0.size > 20000 then some ([], false, false)
      else if (namesOf t.1).length > 6 then some ([], false, false)
      else if (namesOf t.1).all (fun s => (impl_NameOk.f k s).isSome) = true then
        if (namesOf t.1).any (fun s => !nameK k s) = true then some ([], false, false) else some (namesOf t.1, t.2, true)
      else none
    else none
theorem steps_not (k : Nat) (s : ByteArray) (h : (impl_NameOk.f k s).isSome = true) (w : World) :
    Calls Tryz.prog 123 #[.string s] w fun e w' => e = .returned (.bool (!nameK k s)) ∧ ∃ q, w' = w.drewN q := by
  obtain ⟨b, hb⟩ := Option.isSome_iff_exists.1 h
  have e : nameK k s = b := by unfold nameK; rw [hb]; rfl
  have HB := Lib.hid hb
  clear hb h
  rw [e]
  go_enter Tryz.func123, Tryz.ntmps123
  go_wp2_with (go_at_call 96; refine (impl_NameOk.calls k s b _ HB.out).mono ?_; rintro e w' ⟨rfl, ⟨nd, rfl⟩⟩)
  go_ret
  exact ⟨rfl, nd, rfl⟩
set_option maxHeartbeats 1000000 in
theorem steps_index (p : ByteArray → Bool) (b n c : Nat) (zs : List ByteArray) (w : World)
    (hp : ∀ x ∈ zs, ∀ q, Calls Tryz.prog 123 #[.string x] (w.drewN q) fun e w' => e = .returned (.bool (p x)) ∧ ∃ q', w' = (w.drewN q).drewN q')
    (hz : n = zs.length) (hbig : n ≤ 9223372036854775807) (hc : ∀ j, j < zs.length → w.cell? ⟨b, j, none⟩ = some (.string zs[j]!)) :
    Calls Tryz.prog 140 #[.slice (some ⟨b, 0, none⟩) n c, .func (.func 123) #[] #[]] w fun e w' => e = .returned (.int .i64 (Lib.idxBy (fun _ y => p y) (zs.take n) default)) ∧ ∃ q, w' = w.drewN q := by
  have eg := enters_of Tryz.func123 (by kernel_rfl) rfl
  have HZ := Lib.hid hz
  clear hz
  go_enter Tryz.func140, Tryz.ntmps140
  go_wp2
  go_loopg [5, 8] n (fun gg _ s8 wr => ∃ kk q : Nat, kk ≤ n ∧ n - kk ≤ gg ∧ s8 = .int .i64 kk ∧ wr = w.drewN q ∧ Aside (∀ j, j < kk → p zs[j]! = false))
  case atStart => exact ⟨0, 0, Nat.zero_le _, by omega, rfl, rfl, fun j hj => absurd hj (Nat.not_lt_zero _)⟩
  case round =>
    obtain ⟨kk, q, hkk, hg, rfl, rfl, A⟩ := hrel
    by_cases hlt : kk < n
    · have hltz : (kk : Int) < (n : Int) := by omega
      have hcell : w.cell? ⟨b, kk, none⟩ = some (.string zs[kk]!) := hc kk (by have := HZ.out; omega)
      have hmem : zs[kk]! ∈ zs := by rw [getElem!_pos zs kk (by have := HZ.out; omega)]; exact List.getElem_mem _
      have hcall := hp zs[kk]! hmem
      clear hc hp hmem
      generalize hy : zs[kk]! = y at hcell hcall
      have B : Aside (zs[kk]! = y) := hy
      clear hy
      cases hq : p y with
      | true =>
        rw [hq] at hcall
        go_wp2_with (go_at_call 123; refine (hcall _).mono ?_; rintro e w' ⟨rfl, q', rfl⟩)
        go_ret
        refine ⟨?_, _, rfl⟩
        rw [Lib.idxBy_hit (fun _ y => p y) zs n kk default hlt (by have := HZ.out; omega) (by show p zs[kk]! = true; rw [B.out]; exact hq) A.out]
        rfl
      | false =>
        rw [hq] at hcall
        go_wp2_with (go_at_call 123; refine (hcall _).mono ?_; rintro e w' ⟨rfl, q', rfl⟩)
        go_roundg (n - (kk + 1))
        case measure => omega
        case rel =>
          refine ⟨kk + 1, _, by omega, by omega, by go_num, rfl, (show Aside _ from fun j hj => ?_)⟩
          by_cases e : j = kk
          · subst e
            rw [B.out]; exact hq
          · exact A.out j (by omega)
    · have hltz : ¬ (kk : Int) < (n : Int) := by omega
      have : kk = n := by omega
      subst this
      go_wp2
      go_ret
      refine ⟨?_, q, rfl⟩
      rw [Lib.idxBy_miss (fun _ y => p y) zs kk default A.out]
      rfl
theorem steps_any (p : ByteArray → Bool) (b n c : Nat) (zs : List ByteArray) (w : World)
    (hp : ∀ x ∈ zs, ∀ q, Calls Tryz.prog 123 #[.string x] (w.drewN q) fun e w' => e = .returned (.bool (p x)) ∧ ∃ q', w' = (w.drewN q).drewN q')
    (hz : n = zs.length) (hbig : n ≤ 9223372036854775807) (hc : ∀ j, j < zs.length → w.cell? ⟨b, j, none⟩ = some (.string zs[j]!)) :
    Calls Tryz.prog 101 #[.slice (some ⟨b, 0, none⟩) n c, .func (.func 123) #[] #[]] w fun e w' => e = .returned (.bool (zs.any p)) ∧ ∃ q, w' = w.drewN q := by
  have ez : zs.any p = decide (0 ≤ Lib.idxBy (fun _ y => p y) (zs.take n) default) := by
    rw [hz, List.take_length]; exact (Lib.idxBy_nonneg_iff (fun _ y => p y) zs default).symm
  rw [ez]
  have HZ := Lib.hid hz
  clear hz ez
  go_enter Tryz.func101, Tryz.ntmps101
  go_wp2_with (go_at_call 140; refine (steps_index p b n c zs _ hp HZ.out hbig hc).mono ?_; rintro e w' ⟨rfl, q, rfl⟩)
  go_ret
  exact ⟨rfl, q, rfl⟩
theorem R_names (L : List ByteArray) (w : World) (n : Nat) (hn : n = L.length) (hbig : n ≤ 9223372036854775807) :
    Kd.R Kd.string 9 (w.alloc (.cells (L.map Value.string).toArray 9)) w.heap.size (fun _ => True) (.slice (some ⟨w.heap.size, 0, none⟩) n n) L := by
  refine ⟨fun _ _ => trivial, L.map Value.string, ?_, ?_⟩
  · have h2 := World.ownsRow_lit (base := w.heap.size) (e := 9) (size := 1) w (L.map Value.string).toArray n (Nat.le_refl _) (by simpa [maxLen] using hbig) (by simp [hn])
    subst hn
    have h3 : (w.alloc (.cells (L.map Value.string).toArray 9)).ownsRow w.heap.size 9 1 (.slice (some ⟨w.heap.size, 0, none⟩) L.length L.length) L.length (L.map Value.string) := by simpa using h2
    exact h3
  · refine ⟨by simp [Kd.string, Kd.scalar], fun j x hj => ?_⟩
    obtain ⟨hjl, hx⟩ := List.getElem?_eq_some_iff.1 hj
    subst hx
    simp only [Kd.string, Kd.scalar, Nat.mul_one]
    rw [List.drop_eq_getElem_cons (by simpa using hjl)]
    simp
theorem cells_names (L : List ByteArray) (w : World) (q : Nat) : ∀ j, j < L.length → ((w.alloc (.cells (L.map Value.string).toArray 9)).drewN q).cell? ⟨w.heap.size, j, none⟩ = some (.string L[j]!) := by
  intro j hj
  rw [getElem!_pos L j hj]
  exact (blk_cell (blk_drewN (blk_new w _) q) j).trans (by simp [hj])
set_option maxHeartbeats 1000000 in
theorem impl_stepsOf.calls (k : Nat) (a0 : ByteArray) (r1 : List ByteArray) (r2 : Bool) (r3 : Bool) (w : World) (hT : Gl w) (h : impl_stepsOf.f k a0 = some (r1, r2, r3)) :
    Calls Tryz.prog 80 #[.string a0] w fun e w' => ∃ v0_ : Value, e = .returned (.tuple #[v0_, .bool r2, .bool r3]) ∧ Kd.R Kd.string 9 w' w.heap.size (fun _ => True) v0_ r1 ∧ Below w.heap.size w w' := by
  obtain ⟨m, hm⟩ := hT.most
  have HM := Lib.hid hm
  clear hm hT
  unfold impl_stepsOf.f at h
  obtain ⟨⟨t1, t2⟩, hcut, h⟩ := Option.bind_eq_some_iff.1 h
  have HC := Lib.hid hcut
  clear hcut
  simp only at h
  by_cases c0 : t1.size < 4294967281 ∧ (namesOf t1).length = Lib.countB t1 slash + 1 ∧ (namesOf t1).length ≤ 4294967281
  · rw [if_pos c0] at h
    obtain ⟨hs, hlen, hmost⟩ := c0
    obtain ⟨L, hL⟩ : ∃ L, namesOf t1 = L := ⟨_, rfl⟩
    obtain ⟨n, hn⟩ : ∃ n, Lib.countB t1 slash + 1 = n := ⟨_, rfl⟩
    rw [hL] at h hlen hmost
    rw [hn] at hlen
    have HS : ∀ q, Calls Tryz.prog 122 #[.string t1, .string ⟨#[47]⟩] (w.drewN q) fun e w' => e = .returned (.slice (some ⟨(w.drewN q).heap.size, 0, none⟩) n n) ∧ w' = (w.drewN q).alloc (.cells (L.map Value.string).toArray 9) := by
      intro q
      have := Tryz.strings_Split t1 slash m (w.drewN q) hs HM.out (by decide)
      rw [hn] at this
      unfold namesOf at hL
      rw [← hL]
      exact this
    have hbig : n ≤ 9223372036854775807 := by omega
    have HL := Lib.hid hlen
    clear hL hn hlen
    by_cases c1 : a0.size > 20000
    · rw [if_pos c1] at h
      simp only [Option.some.injEq, Prod.mk.injEq] at h
      obtain ⟨rfl, rfl, rfl⟩ := h
      have d1 : decide ((20000 : Int) < (a0.size : Int)) = true := decide_eq_true (by omega)
      go_enter Tryz.func80, Tryz.ntmps80
      go_wp2_with (first | (go_at_call 121; refine (strings_CutPrefix.calls a0 _ t1 t2 _ HC.out).mono ?_; rintro e w' ⟨rfl, ⟨nd, rfl⟩⟩) | (go_at_call 122; refine (HS _).mono ?_; rintro e w' ⟨rfl, rfl⟩))
      go_ret3
      exact ⟨_, rfl, Kd.R_nil _ _ _ _ _, pw_below_drewN (below_alloc (Below.refl _ _) _) _⟩
    · rw [if_neg c1] at h
      have d1 : decide ((20000 : Int) < (a0.size : Int)) = false := decide_eq_false (by omega)
      by_cases c2 : L.length > 6
      · rw [if_pos c2] at h
        simp only [Option.some.injEq, Prod.mk.injEq] at h
        obtain ⟨rfl, rfl, rfl⟩ := h
        have d2 : decide ((6 : Int) < (n : Int)) = true := decide_eq_true (by have := HL.out; omega)
        go_enter Tryz.func80, Tryz.ntmps80
        go_wp2_with (first | (go_at_call 121; refine (strings_CutPrefix.calls a0 _ t1 t2 _ HC.out).mono ?_; rintro e w' ⟨rfl, ⟨nd, rfl⟩⟩) | (go_at_call 122; refine (HS _).mono ?_; rintro e w' ⟨rfl, rfl⟩))
        go_ret3
        exact ⟨_, rfl, Kd.R_nil _ _ _ _ _, pw_below_drewN (below_alloc (Below.refl _ _) _) _⟩
      · rw [if_neg c2] at h
        have d2 : decide ((6 : Int) < (n : Int)) = false := decide_eq_false (by have := HL.out; omega)
        by_cases c3 : L.all (fun s => (impl_NameOk.f k s).isSome) = true
        · rw [if_pos c3] at h
          have HA : ∀ q, Calls Tryz.prog 101 #[.slice (some ⟨w.heap.size, 0, none⟩) n n, .func (.func 123) #[] #[]] ((w.alloc (.cells (L.map Value.string).toArray 9)).drewN q) fun e w' => e = .returned (.bool (L.any fun s => !nameK k s)) ∧ ∃ q', w' = ((w.alloc (.cells (L.map Value.string).toArray 9)).drewN q).drewN q' := fun q =>
            steps_any (fun s => !nameK k s) w.heap.size n n L _ (fun x hx q2 => steps_not k x (List.all_eq_true.1 c3 x hx) _) HL.out.symm hbig (cells_names L w q)
          clear c3
          cases hq : (L.any fun s => !nameK k s) with
          | true =>
            rw [hq] at h HA
            simp only [if_true, Option.some.injEq, Prod.mk.injEq] at h
            obtain ⟨rfl, rfl, rfl⟩ := h
            clear hq
            go_enter Tryz.func80, Tryz.ntmps80
            go_wp2_with (first | (go_at_call 121; refine (strings_CutPrefix.calls a0 _ t1 t2 _ HC.out).mono ?_; rintro e w' ⟨rfl, ⟨nd, rfl⟩⟩) | (go_at_call 122; refine (HS _).mono ?_; rintro e w' ⟨rfl, rfl⟩) | (go_at_call 101; refine (HA _).mono ?_; rintro e w' ⟨rfl, q', rfl⟩))
            go_ret3
            exact ⟨_, rfl, Kd.R_nil _ _ _ _ _, pw_below_drewN (below_alloc (Below.refl _ _) _) _⟩
          | false =>
            rw [hq] at h HA
            simp only [Bool.false_eq_true, if_false, Option.some.injEq, Prod.mk.injEq] at h
            obtain ⟨rfl, rfl, rfl⟩ := h
            clear hq
            go_enter Tryz.func80, Tryz.ntmps80
            go_wp2_with (first | (go_at_call 121; refine (strings_CutPrefix.calls a0 _ t1 t2 _ HC.out).mono ?_; rintro e w' ⟨rfl, ⟨nd, rfl⟩⟩) | (go_at_call 122; refine (HS _).mono ?_; rintro e w' ⟨rfl, rfl⟩) | (go_at_call 101; refine (HA _).mono ?_; rintro e w' ⟨rfl, q', rfl⟩))
            go_ret3
            exact ⟨_, rfl, Kd.R_drewN (R_names L w n HL.out.symm hbig) _, pw_below_drewN (below_alloc (Below.refl _ _) _) _⟩
        · rw [if_neg c3] at h
          cases h
  · rw [if_neg c0] at h
    cases h
end Go.Proofs.YtpmjpbaeecnpiaaGreatDoor.L

namespace Go.Proofs.YtpmjpbaeecnpiaaGreatDoor.L
open Go.RowKit Go.Proofs.YtpmjpbaeecnpiaaGreatDoorW.PrintWords Go.Proofs.YtpmjpbaeecnpiaaGreatDoorW.PrintLast Go.Proofs.YtpmjpbaeecnpiaaGreatDoorW.PrintMore
attribute [local go_sem] max2_int min2_int max_two min_two max_three min_three max_four min_four
set_option linter.unusedVariables false
set_option linter.unusedSimpArgs false

/-! ### impl_fieldParts: function 50 -/
mutual
def impl_fieldParts.j0 : Nat → ByteArray → ByteArray → ByteArray → Bool → Bool → Option (List ByteArray × ByteArray × Bool)
 | 0, _, _, _, _, _ => none
 | k + 1, x0, x5, x6, x7, x19 => if x19 = true then (some (([] : List ByteArray), (⟨#[]⟩ : ByteArray), false)) else (if x0.toList = ([46] : List UInt8) then (impl_fieldParts.j1 k x5 x6 x7 true) else (if x7 = true then (impl_fieldParts.j1 k x5 x6 x7 (x5.toList == ([] : List UInt8))) else (impl_fieldParts.j1 k x5 x6 x7 false)))
def impl_fieldParts.j1 : Nat → ByteArray → ByteArray → Bool → Bool → Option (List ByteArray × ByteArray × Bool)
 | 0, _, _, _, _ => none
 | k + 1, x5, x6, x7, x31 => if x31 = true then (some (([] : List ByteArray), x6, true)) else (if x7 = true then ((strings_CutSuffix.f x5 (⟨#[47]⟩ : ByteArray)).bind fun bt310 => (if bt310.2 = true then ((impl_stepsOf.f k bt310.1).bind fun bt312 => (if bt312.2.2 = true then (some (bt312.1, x6, !bt312.2.1)) else (some (bt312.1, x6, false)))) else (some (([] : List ByteArray), (⟨#[]⟩ : ByteArray), false)))) else ((impl_stepsOf.f k x5).bind fun bt317 => (if bt317.2.2 = true then (some (bt317.1, x6, !bt317.2.1)) else (some (bt317.1, x6, false)))))
end
def impl_fieldParts.f (k : Nat) (a0 : ByteArray) : Option (List ByteArray × ByteArray × Bool) := (strings_Cut.f a0 (⟨#[64]⟩ : ByteArray)).bind fun bt306 => (if (a0.size : Int) > 20000 then (impl_fieldParts.j0 k a0 bt306.1 bt306.2.1 bt306.2.2 true) else (if bt306.2.2 = true then ((impl_NameOk.f k bt306.2.1).bind fun t309 => (impl_fieldParts.j0 k a0 bt306.1 bt306.2.1 bt306.2.2 (!t309))) else (impl_fieldParts.j0 k a0 bt306.1 bt306.2.1 bt306.2.2 false)))
set_option maxHeartbeats 8000000 in
set_option maxRecDepth 100000 in
theorem impl_fieldParts.calls (k : Nat) (a0 : ByteArray) (r1 : List ByteArray) (r2 : ByteArray) (r3 : Bool) (w : World) (hT : Gl w) (h : impl_fieldParts.f k a0 = some (r1, r2, r3)) :
  Calls Tryz.prog 50 #[.string a0] w fun e w' => ∃ v0_ : Value, e = .returned (.tuple #[v0_, .string r2, .bool r3]) ∧ Kd.R Kd.string 9 w' w.heap.size (fun _ => True) v0_ r1 ∧ Below w.heap.size w w' := by
 have HT := Aside0.mk hT
 clear hT
 have HB := Aside0.mk (Below.refl w.heap.size w)
 have H : ((strings_Cut.f a0 (⟨#[64]⟩ : ByteArray)).bind fun bt306 => (if (a0.size : Int) > 20000 then (impl_fieldParts.j0 k a0 bt306.1 bt306.2.1 bt306.2.2 true) else (if bt306.2.2 = true then ((impl_NameOk.f k bt306.2.1).bind fun t309 => (impl_fieldParts.j0 k a0 bt306.1 bt306.2.1 bt306.2.2 (!t309))) else (impl_fieldParts.j0 k a0 bt306.1 bt306.2.1 bt306.2.2 false)))) = some (r1, r2, r3) := h
 clear h
 replace H := Option.bind_eq_some_iff.mp H
 obtain ⟨⟨t306, t307, t308⟩, A20, H⟩ := H
 replace H : (if (a0.size : Int) > 20000 then (impl_fieldParts.j0 k a0 t306 t307 t308 true) else (if t308 = true then ((impl_NameOk.f k t307).bind fun t309 => (impl_fieldParts.j0 k a0 t306 t307 t308 (!t309))) else (impl_fieldParts.j0 k a0 t306 t307 t308 false))) = some (r1, r2, r3) := H
 have A2 := Aside0.mk A20
 clear A20
 have HC3 := Aside0.mk H
 clear H
 go_enter Tryz.func50, Tryz.ntmps50
 go_upto_region 2 with (first | ((with_reducible refine gate_callee (f := 95) rfl ?_); refine goesL_ (some 15) rfl rfl Tryz.func95 dq22 rfl #[.string a0, .string (⟨#[64]⟩ : ByteArray)] rfl dq21 ?_; (with_reducible refine (strings_Cut.calls a0 (⟨#[64]⟩ : ByteArray) t306 t307 t308 _ A2.out).mono ?_); rintro e w4 ⟨rfl, hb⟩; refine ⟨_, rfl, ?_⟩; have n0_ := Aside0.mk (below_step dq25 hb); clear HB; have HB := n0_; clear n0_; (try clear hb); (try clear hb2); (try clear hk); (try clear hi)))
 (try simp only [Act.put, List.setIfInBounds_toArray, List.set_cons_zero, List.set_cons_succ])
 go_cut [19] (fun v19 wc => ∃ (kq : Nat) (x19_2 : Bool), v19 = .bool x19_2 ∧ Aside0 (impl_fieldParts.j0 kq a0 t306 t307 t308 x19_2 = some (r1, r2, r3)) ∧ Aside0 (kq ≤ k) ∧ Aside0 (Below w.heap.size w wc))
 case first =>
  have H := HC3.out
  clear HC3
  by_cases c5 : (a0.size : Int) > 20000
  ·rw [if_pos c5] at H
   have c5b0 : decide (20000 < (a0.size : Int)) = true := decide_eq_true c5
   have c5b1 : decide (20000 < a0.size) = true := decide_eq_true dq23
   clear c5
   (first | rw [c5b0] | (simp only [i64_w, i32_w]; rw [c5b0]) | skip)
   have H' := Aside0.mk H
   clear H
   go_wp2
   go_meet
   case rel => exact ⟨_, (true), dq17, H', ⟨dq24⟩, ⟨dq25⟩⟩
  rw [if_neg c5] at H
  have c5b0 : decide (20000 < (a0.size : Int)) = false := decide_eq_false c5
  have c5b1 : decide (20000 < a0.size) = false := decide_eq_false dq23
  clear c5
  (first | rw [c5b0] | (simp only [i64_w, i32_w]; rw [c5b0]) | skip)
  by_cases c6 : t308 = true
  rotate_left
  ·replace c6 := Bool.eq_false_iff.mpr c6
   subst c6
   have H1 : (impl_fieldParts.j0 k a0 t306 t307 false false) = some (r1, r2, r3) := by rw [if_neg (show ¬ (false = true) by decide)] at H; exact H
   clear H
   have H := H1
   clear H1
   have H' := Aside0.mk H
   clear H
   go_wp2
   go_meet
   case rel => exact ⟨_, (false), dq17, H', ⟨dq24⟩, ⟨dq25⟩⟩
  subst c6
  have H1 : ((impl_NameOk.f k t307).bind fun t309 => (impl_fieldParts.j0 k a0 t306 t307 true (!t309))) = some (r1, r2, r3) := by rw [if_pos rfl] at H; exact H
  clear H
  have H := H1
  clear H1
  replace H := Option.bind_eq_some_iff.mp H
  obtain ⟨t309, A70, H⟩ := H
  replace H : (impl_fieldParts.j0 k a0 t306 t307 true (!t309)) = some (r1, r2, r3) := H
  have A7 := Aside0.mk A70
  clear A70
  have H' := Aside0.mk H
  clear H
  go_wp2_with (first | (go_at_call 96; (with_reducible refine (impl_NameOk.calls k t307 t309 _ A7.out).mono ?_); rintro e w' ⟨rfl, ⟨nd, rfl⟩⟩))
  go_meet
  case rel => exact ⟨_, (!t309), dq17, H', ⟨dq24⟩, ⟨dq25⟩⟩
 clear HC3
 obtain ⟨kq, x19_2, rfl, HA, HJ2, HB⟩ := hcut
 cases kq with
 | zero => exact absurd HA.out (by simp [impl_fieldParts.j0])
 | succ kj2 =>
  have H := HA.out
  clear HA
  simp only [impl_fieldParts.j0] at H
  by_cases c8 : x19_2 = true
  ·subst c8
   have H1 : (some (([] : List ByteArray), (⟨#[]⟩ : ByteArray), false)) = some (r1, r2, r3) := by rw [if_pos rfl] at H; exact H
   clear H
   have H := H1
   clear H1
   simp only [Option.some.injEq, Prod.mk.injEq] at H
   obtain ⟨rfl, rfl, rfl⟩ := H
   go_wp2
   go_ret3
   exact ⟨_, dq27, dq26, dq25⟩
  replace c8 := Bool.eq_false_iff.mpr c8
  subst c8
  have H1 : (if a0.toList = ([46] : List UInt8) then (impl_fieldParts.j1 kj2 t306 t307 t308 true) else (if t308 = true then (impl_fieldParts.j1 kj2 t306 t307 t308 (t306.toList == ([] : List UInt8))) else (impl_fieldParts.j1 kj2 t306 t307 t308 false))) = some (r1, r2, r3) := by rw [if_neg (show ¬ (false = true) by decide)] at H; exact H
  clear H
  have H := H1
  clear H1
  have HC9 := Aside0.mk H
  clear H
  go_upto_region 4 with (fail)
  go_cut [31] (fun v31 wc => ∃ (kq : Nat) (x31_8 : Bool), v31 = .bool x31_8 ∧ Aside0 (impl_fieldParts.j1 kq t306 t307 t308 x31_8 = some (r1, r2, r3)) ∧ Aside0 (kq ≤ kj2) ∧ Aside0 (Below w.heap.size w wc))
  case first =>
   have H := HC9.out
   clear HC9
   by_cases c10 : a0.toList = ([46] : List UInt8)
   ·rw [if_pos c10] at H
    have c10b0 := beq_iff_eq.mpr c10
    have c10b1 := bne_eq_false_iff_eq.mpr c10
    clear c10
    (first | rw [c10b0] | (simp only [i64_w, i32_w]; rw [c10b0]) | skip)
    have H' := Aside0.mk H
    clear H
    go_wp2
    go_meet
    case rel => exact ⟨_, (true), dq17, H', ⟨by have := HJ2.out; first | omega | exact Nat.le_refl _⟩, ⟨dq25⟩⟩
   rw [if_neg c10] at H
   have c10b0 := beq_eq_false_iff_ne.mpr c10
   have c10b1 := bne_iff_ne.mpr c10
   (first | rw [c10b0] | (simp only [i64_w, i32_w]; rw [c10b0]) | skip)
   by_cases c11 : t308 = true
   ·subst c11
    have H1 : (impl_fieldParts.j1 kj2 t306 t307 true (t306.toList == ([] : List UInt8))) = some (r1, r2, r3) := by rw [if_pos rfl] at H; exact H
    clear H
    have H := H1
    clear H1
    have H' := Aside0.mk H
    clear H
    go_wp2
    go_meet
    case rel => exact ⟨_, ((t306.toList == ([] : List UInt8))), dq17, H', ⟨by have := HJ2.out; first | omega | exact Nat.le_refl _⟩, ⟨dq25⟩⟩
   replace c11 := Bool.eq_false_iff.mpr c11
   subst c11
   have H1 : (impl_fieldParts.j1 kj2 t306 t307 false false) = some (r1, r2, r3) := by rw [if_neg (show ¬ (false = true) by decide)] at H; exact H
   clear H
   have H := H1
   clear H1
   have H' := Aside0.mk H
   clear H
   go_wp2
   go_meet
   case rel => exact ⟨_, (false), dq17, H', ⟨by have := HJ2.out; first | omega | exact Nat.le_refl _⟩, ⟨dq25⟩⟩
  clear HC9
  obtain ⟨kq, x31_8, rfl, HA, HJ8, HB⟩ := hcut
  cases kq with
  | zero => exact absurd HA.out (by simp [impl_fieldParts.j1])
  | succ kj8 =>
   have H := HA.out
   clear HA
   simp only [impl_fieldParts.j1] at H
   by_cases c12 : x31_8 = true
   ·subst c12
    have H1 : (some (([] : List ByteArray), t307, true)) = some (r1, r2, r3) := by rw [if_pos rfl] at H; exact H
    clear H
    have H := H1
    clear H1
    simp only [Option.some.injEq, Prod.mk.injEq] at H
    obtain ⟨rfl, rfl, rfl⟩ := H
    go_wp2
    go_ret3
    exact ⟨_, dq27, dq26, dq25⟩
   replace c12 := Bool.eq_false_iff.mpr c12
   subst c12
   have H1 : (if t308 = true then ((strings_CutSuffix.f t306 (⟨#[47]⟩ : ByteArray)).bind fun bt310 => (if bt310.2 = true then ((impl_stepsOf.f kj8 bt310.1).bind fun bt312 => (if bt312.2.2 = true then (some (bt312.1, t307, !bt312.2.1)) else (some (bt312.1, t307, false)))) else (some (([] : List ByteArray), (⟨#[]⟩ : ByteArray), false)))) else ((impl_stepsOf.f kj8 t306).bind fun bt317 => (if bt317.2.2 = true then (some (bt317.1, t307, !bt317.2.1)) else (some (bt317.1, t307, false))))) = some (r1, r2, r3) := by rw [if_neg (show ¬ (false = true) by decide)] at H; exact H
   clear H
   have H := H1
   clear H1
   by_cases c13 : t308 = true
   rotate_left
   ·replace c13 := Bool.eq_false_iff.mpr c13
    subst c13
    have H1 : ((impl_stepsOf.f kj8 t306).bind fun bt317 => (if bt317.2.2 = true then (some (bt317.1, t307, !bt317.2.1)) else (some (bt317.1, t307, false)))) = some (r1, r2, r3) := by rw [if_neg (show ¬ (false = true) by decide)] at H; exact H
    clear H
    have H := H1
    clear H1
    replace H := Option.bind_eq_some_iff.mp H
    obtain ⟨⟨t317, t318, t319⟩, A200, H⟩ := H
    replace H : (if t319 = true then (some (t317, t307, !t318)) else (some (t317, t307, false))) = some (r1, r2, r3) := H
    have A20 := Aside0.mk A200
    clear A200
    by_cases c21 : t319 = true
    ·subst c21
     have H1 : (some (t317, t307, !t318)) = some (r1, r2, r3) := by rw [if_pos rfl] at H; exact H
     clear H
     have H := H1
     clear H1
     simp only [Option.some.injEq, Prod.mk.injEq] at H
     obtain ⟨rfl, rfl, rfl⟩ := H
     go_wp2_with (first | ((with_reducible refine gate_callee (f := 80) rfl ?_); refine goesL_ (some 54) rfl rfl Tryz.func80 dq22 rfl #[.string t306] rfl dq21 ?_; (with_reducible refine (impl_stepsOf.calls kj8 t306 t317 t318 true _ ?side1 A20.out).mono ?_); (case side1 => exact dq3); rintro e w22 ⟨v320, rfl, ho0, hb⟩; refine ⟨_, rfl, ?_⟩; have n0_ := Aside0.mk (Kd.R_lower ho0 (below_size dq25)); have n1_ := Aside0.mk (below_step dq25 hb); clear HB; have HO321 := n0_; have HB := n1_; clear n0_ n1_; (try clear hb); (try clear hb2); (try clear hk); (try clear hi); (try clear ho0)))
     go_ret3
     exact ⟨_, dq27, by (with_reducible repeat (first | apply Kd.R_alloc | apply Kd.R_drewN | apply Kd.R_drew)); exact HO321.out, dq25⟩
    replace c21 := Bool.eq_false_iff.mpr c21
    subst c21
    have H1 : (some (t317, t307, false)) = some (r1, r2, r3) := by rw [if_neg (show ¬ (false = true) by decide)] at H; exact H
    clear H
    have H := H1
    clear H1
    simp only [Option.some.injEq, Prod.mk.injEq] at H
    obtain ⟨rfl, rfl, rfl⟩ := H
    go_wp2_with (first | ((with_reducible refine gate_callee (f := 80) rfl ?_); refine goesL_ (some 54) rfl rfl Tryz.func80 dq22 rfl #[.string t306] rfl dq21 ?_; (with_reducible refine (impl_stepsOf.calls kj8 t306 t317 t318 false _ ?side1 A20.out).mono ?_); (case side1 => exact dq3); rintro e w23 ⟨v320, rfl, ho0, hb⟩; refine ⟨_, rfl, ?_⟩; have n0_ := Aside0.mk (Kd.R_lower ho0 (below_size dq25)); have n1_ := Aside0.mk (below_step dq25 hb); clear HB; have HO321 := n0_; have HB := n1_; clear n0_ n1_; (try clear hb); (try clear hb2); (try clear hk); (try clear hi); (try clear ho0)))
    go_ret3
    exact ⟨_, dq27, by (with_reducible repeat (first | apply Kd.R_alloc | apply Kd.R_drewN | apply Kd.R_drew)); exact HO321.out, dq25⟩
   subst c13
   have H1 : ((strings_CutSuffix.f t306 (⟨#[47]⟩ : ByteArray)).bind fun bt310 => (if bt310.2 = true then ((impl_stepsOf.f kj8 bt310.1).bind fun bt312 => (if bt312.2.2 = true then (some (bt312.1, t307, !bt312.2.1)) else (some (bt312.1, t307, false)))) else (some (([] : List ByteArray), (⟨#[]⟩ : ByteArray), false)))) = some (r1, r2, r3) := by rw [if_pos rfl] at H; exact H
   clear H
   have H := H1
   clear H1
   replace H := Option.bind_eq_some_iff.mp H
   obtain ⟨⟨t310, t311⟩, A140, H⟩ := H
   replace H : (if t311 = true then ((impl_stepsOf.f kj8 t310).bind fun bt312 => (if bt312.2.2 = true then (some (bt312.1, t307, !bt312.2.1)) else (some (bt312.1, t307, false)))) else (some (([] : List ByteArray), (⟨#[]⟩ : ByteArray), false))) = some (r1, r2, r3) := H
   have A14 := Aside0.mk A140
   clear A140
   by_cases c15 : t311 = true
   rotate_left
   ·replace c15 := Bool.eq_false_iff.mpr c15
    subst c15
    have H1 : (some (([] : List ByteArray), (⟨#[]⟩ : ByteArray), false)) = some (r1, r2, r3) := by rw [if_neg (show ¬ (false = true) by decide)] at H; exact H
    clear H
    have H := H1
    clear H1
    simp only [Option.some.injEq, Prod.mk.injEq] at H
    obtain ⟨rfl, rfl, rfl⟩ := H
    go_wp2_with (first | ((with_reducible refine gate_callee (f := 97) rfl ?_); refine goesL_ (some 46) rfl rfl Tryz.func97 dq22 rfl #[.string t306, .string (⟨#[47]⟩ : ByteArray)] rfl dq21 ?_; (with_reducible refine (strings_CutSuffix.calls t306 (⟨#[47]⟩ : ByteArray) t310 false _ A14.out).mono ?_); rintro e w' ⟨rfl, ⟨nd, rfl⟩⟩; refine ⟨_, rfl, ?_⟩))
    go_ret3
    exact ⟨_, dq27, dq26, dq25⟩
   subst c15
   have H1 : ((impl_stepsOf.f kj8 t310).bind fun bt312 => (if bt312.2.2 = true then (some (bt312.1, t307, !bt312.2.1)) else (some (bt312.1, t307, false)))) = some (r1, r2, r3) := by rw [if_pos rfl] at H; exact H
   clear H
   have H := H1
   clear H1
   replace H := Option.bind_eq_some_iff.mp H
   obtain ⟨⟨t312, t313, t314⟩, A160, H⟩ := H
   replace H : (if t314 = true then (some (t312, t307, !t313)) else (some (t312, t307, false))) = some (r1, r2, r3) := H
   have A16 := Aside0.mk A160
   clear A160
   by_cases c17 : t314 = true
   ·subst c17
    have H1 : (some (t312, t307, !t313)) = some (r1, r2, r3) := by rw [if_pos rfl] at H; exact H
    clear H
    have H := H1
    clear H1
    simp only [Option.some.injEq, Prod.mk.injEq] at H
    obtain ⟨rfl, rfl, rfl⟩ := H
    go_wp2_with (first | ((with_reducible refine gate_callee (f := 97) rfl ?_); refine goesL_ (some 46) rfl rfl Tryz.func97 dq22 rfl #[.string t306, .string (⟨#[47]⟩ : ByteArray)] rfl dq21 ?_; (with_reducible refine (strings_CutSuffix.calls t306 (⟨#[47]⟩ : ByteArray) t310 true _ A14.out).mono ?_); rintro e w' ⟨rfl, ⟨nd, rfl⟩⟩; refine ⟨_, rfl, ?_⟩) | ((with_reducible refine gate_callee (f := 80) rfl ?_); refine goesL_ (some 54) rfl rfl Tryz.func80 dq22 rfl #[.string t310] rfl dq21 ?_; (with_reducible refine (impl_stepsOf.calls kj8 t310 t312 t313 true _ ?side1 A16.out).mono ?_); (case side1 => exact dq3); rintro e w18 ⟨v315, rfl, ho0, hb⟩; refine ⟨_, rfl, ?_⟩; have n0_ := Aside0.mk (Kd.R_lower ho0 (below_size dq25)); have n1_ := Aside0.mk (below_step dq25 hb); clear HB; have HO316 := n0_; have HB := n1_; clear n0_ n1_; (try clear hb); (try clear hb2); (try clear hk); (try clear hi); (try clear ho0)))
    go_ret3
    exact ⟨_, dq27, by (with_reducible repeat (first | apply Kd.R_alloc | apply Kd.R_drewN | apply Kd.R_drew)); exact HO316.out, dq25⟩
   replace c17 := Bool.eq_false_iff.mpr c17
   subst c17
   have H1 : (some (t312, t307, false)) = some (r1, r2, r3) := by rw [if_neg (show ¬ (false = true) by decide)] at H; exact H
   clear H
   have H := H1
   clear H1
   simp only [Option.some.injEq, Prod.mk.injEq] at H
   obtain ⟨rfl, rfl, rfl⟩ := H
   go_wp2_with (first | ((with_reducible refine gate_callee (f := 97) rfl ?_); refine goesL_ (some 46) rfl rfl Tryz.func97 dq22 rfl #[.string t306, .string (⟨#[47]⟩ : ByteArray)] rfl dq21 ?_; (with_reducible refine (strings_CutSuffix.calls t306 (⟨#[47]⟩ : ByteArray) t310 true _ A14.out).mono ?_); rintro e w' ⟨rfl, ⟨nd, rfl⟩⟩; refine ⟨_, rfl, ?_⟩) | ((with_reducible refine gate_callee (f := 80) rfl ?_); refine goesL_ (some 54) rfl rfl Tryz.func80 dq22 rfl #[.string t310] rfl dq21 ?_; (with_reducible refine (impl_stepsOf.calls kj8 t310 t312 t313 false _ ?side1 A16.out).mono ?_); (case side1 => exact dq3); rintro e w19 ⟨v315, rfl, ho0, hb⟩; refine ⟨_, rfl, ?_⟩; have n0_ := Aside0.mk (Kd.R_lower ho0 (below_size dq25)); have n1_ := Aside0.mk (below_step dq25 hb); clear HB; have HO316 := n0_; have HB := n1_; clear n0_ n1_; (try clear hb); (try clear hb2); (try clear hk); (try clear hi); (try clear ho0)))
   go_ret3
   exact ⟨_, dq27, by (with_reducible repeat (first | apply Kd.R_alloc | apply Kd.R_drewN | apply Kd.R_drew)); exact HO316.out, dq25⟩

/-! ### impl_CharOk: function 163 -/
def impl_CharOk.f (a0 : Int) : Option (Bool) := if a0 = 9 then (some true) else (if a0 = 10 then (some true) else (if a0 = 13 then (some true) else ((impl_in.f a0 32 55295).bind fun t322 => (if t322 = true then (some true) else ((impl_in.f a0 57344 65533).bind fun t323 => (if t323 = true then (some true) else ((impl_in.f a0 65536 1114111).bind fun t324 => (some t324))))))))
set_option maxHeartbeats 8000000 in
set_option maxRecDepth 100000 in
theorem impl_CharOk.calls (a0 : Int) (r : Bool) (w : World) (h : impl_CharOk.f a0 = some r) :
  Calls Tryz.prog 163 #[.int .i64 a0] w fun e w' => e = .returned (.bool r) ∧ Drawn0 w w' := by
 have H : (if a0 = 9 then (some true) else (if a0 = 10 then (some true) else (if a0 = 13 then (some true) else ((impl_in.f a0 32 55295).bind fun t322 => (if t322 = true then (some true) else ((impl_in.f a0 57344 65533).bind fun t323 => (if t323 = true then (some true) else ((impl_in.f a0 65536 1114111).bind fun t324 => (some t324))))))))) = some r := h
 clear h
 by_cases c2 : a0 = 9
 ·rw [if_pos c2] at H
  have c2b0 := beq_iff_eq.mpr c2
  have c2b1 := bne_eq_false_iff_eq.mpr c2
  clear c2
  obtain rfl := Option.some.inj H
  go_enter Tryz.func163, Tryz.ntmps163
  go_wp2
  go_ret
  exact ⟨dq17, dq16⟩
 rw [if_neg c2] at H
 have c2b0 := beq_eq_false_iff_ne.mpr c2
 have c2b1 := bne_iff_ne.mpr c2
 by_cases c3 : a0 = 10
 ·rw [if_pos c3] at H
  have c3b0 := beq_iff_eq.mpr c3
  have c3b1 := bne_eq_false_iff_eq.mpr c3
  clear c3
  obtain rfl := Option.some.inj H
  go_enter Tryz.func163, Tryz.ntmps163
  go_wp2
  go_ret
  exact ⟨dq17, dq16⟩
 rw [if_neg c3] at H
 have c3b0 := beq_eq_false_iff_ne.mpr c3
 have c3b1 := bne_iff_ne.mpr c3
 by_cases c4 : a0 = 13
 ·rw [if_pos c4] at H
  have c4b0 := beq_iff_eq.mpr c4
  have c4b1 := bne_eq_false_iff_eq.mpr c4
  clear c4
  obtain rfl := Option.some.inj H
  go_enter Tryz.func163, Tryz.ntmps163
  go_wp2
  go_ret
  exact ⟨dq17, dq16⟩
 rw [if_neg c4] at H
 have c4b0 := beq_eq_false_iff_ne.mpr c4
 have c4b1 := bne_iff_ne.mpr c4
 replace H := Option.bind_eq_some_iff.mp H
 obtain ⟨t322, A50, H⟩ := H
 replace H : (if t322 = true then (some true) else ((impl_in.f a0 57344 65533).bind fun t323 => (if t323 = true then (some true) else ((impl_in.f a0 65536 1114111).bind fun t324 => (some t324))))) = some r := H
 have A5 := Aside0.mk A50
 clear A50
 by_cases c6 : t322 = true
 ·subst c6
  have H1 : (some true) = some r := by rw [if_pos rfl] at H; exact H
  clear H
  have H := H1
  clear H1
  obtain rfl := Option.some.inj H
  go_enter Tryz.func163, Tryz.ntmps163
  go_wp2_with (first | (go_at_call 99; (with_reducible refine (impl_in.calls a0 32 55295 true _ A5.out).mono ?_); rintro e w' ⟨rfl, ⟨nd, rfl⟩⟩))
  go_ret
  exact ⟨dq17, dq16⟩
 replace c6 := Bool.eq_false_iff.mpr c6
 subst c6
 have H1 : ((impl_in.f a0 57344 65533).bind fun t323 => (if t323 = true then (some true) else ((impl_in.f a0 65536 1114111).bind fun t324 => (some t324)))) = some r := by rw [if_neg (show ¬ (false = true) by decide)] at H; exact H
 clear H
 have H := H1
 clear H1
 replace H := Option.bind_eq_some_iff.mp H
 obtain ⟨t323, A70, H⟩ := H
 replace H : (if t323 = true then (some true) else ((impl_in.f a0 65536 1114111).bind fun t324 => (some t324))) = some r := H
 have A7 := Aside0.mk A70
 clear A70
 by_cases c8 : t323 = true
 ·subst c8
  have H1 : (some true) = some r := by rw [if_pos rfl] at H; exact H
  clear H
  have H := H1
  clear H1
  obtain rfl := Option.some.inj H
  go_enter Tryz.func163, Tryz.ntmps163
  go_wp2_with (first | (go_at_call 99; (with_reducible refine (impl_in.calls a0 32 55295 false _ A5.out).mono ?_); rintro e w' ⟨rfl, ⟨nd, rfl⟩⟩) | (go_at_call 99; (with_reducible refine (impl_in.calls a0 57344 65533 true _ A7.out).mono ?_); rintro e w' ⟨rfl, ⟨nd, rfl⟩⟩))
  go_ret
  exact ⟨dq17, dq16⟩
 replace c8 := Bool.eq_false_iff.mpr c8
 subst c8
 have H1 : ((impl_in.f a0 65536 1114111).bind fun t324 => (some t324)) = some r := by rw [if_neg (show ¬ (false = true) by decide)] at H; exact H
 clear H
 have H := H1
 clear H1
 replace H := Option.bind_eq_some_iff.mp H
 obtain ⟨t324, A90, H⟩ := H
 replace H : (some t324) = some r := H
 have A9 := Aside0.mk A90
 clear A90
 obtain rfl := Option.some.inj H
 go_enter Tryz.func163, Tryz.ntmps163
 go_wp2_with (first | (go_at_call 99; (with_reducible refine (impl_in.calls a0 32 55295 false _ A5.out).mono ?_); rintro e w' ⟨rfl, ⟨nd, rfl⟩⟩) | (go_at_call 99; (with_reducible refine (impl_in.calls a0 57344 65533 false _ A7.out).mono ?_); rintro e w' ⟨rfl, ⟨nd, rfl⟩⟩) | (go_at_call 99; (with_reducible refine (impl_in.calls a0 65536 1114111 t324 _ A9.out).mono ?_); rintro e w' ⟨rfl, ⟨nd, rfl⟩⟩))
 go_ret
 exact ⟨dq17, dq16⟩

end Go.Proofs.YtpmjpbaeecnpiaaGreatDoor.L

namespace Go.Proofs
open Go.Shelf
def Tryz.lays196_ren : Go.Shelf.Ren := ⟨fun | 196 => 183 | 259 => 195 | n => n, fun | 9 => 9 | 4 => 4 | 3 => 3 | 5 => 5 | 12 => 12 | 119 => 201 | 0 => 0 | 46 => 178 | 139 => 233 | 138 => 232 | 53 => 176 | n => n, fun | 3 => 1 | 4 => 2 | n => n⟩
theorem Tryz.lays196 : Go.Proofs.Lays.n196 Tryz.prog Tryz.lays196_ren := {
  mixed := by kernel_rfl
  f196 := Tryz.func183.trans (congrArg some (by kernel_rfl))
  f259 := Tryz.func195.trans (congrArg some (by kernel_rfl))
  t0 := Tryz.underlying0
  a0 := Tryz.isAgg0
  z0 := Tryz.sizeOf0
  v0 := Tryz.zeroValue0
  t3 := Tryz.underlying3
  a3 := Tryz.isAgg3
  z3 := Tryz.sizeOf3
  v3 := Tryz.zeroValue3
  t4 := Tryz.underlying4
  a4 := Tryz.isAgg4
  z4 := Tryz.sizeOf4
  v4 := Tryz.zeroValue4
  t5 := Tryz.underlying5
  a5 := Tryz.isAgg5
  z5 := Tryz.sizeOf5
  v5 := Tryz.zeroValue5
  t9 := Tryz.underlying9
  a9 := Tryz.isAgg9
  z9 := Tryz.sizeOf9
  v9 := Tryz.zeroValue9
  t12 := Tryz.underlying12
  a12 := Tryz.isAgg12
  z12 := Tryz.sizeOf12
  v12 := Tryz.zeroValue12
  t46 := Tryz.underlying178
  a46 := Tryz.isAgg178
  z46 := Tryz.sizeOf178
  v46 := Tryz.zeroValue178
  t53 := Tryz.underlying176
  a53 := Tryz.isAgg176
  z53 := Tryz.sizeOf176
  v53 := Tryz.zeroValue176
  t119 := Tryz.underlying201
  a119 := Tryz.isAgg201
  z119 := Tryz.sizeOf201
  t138 := Tryz.underlying232
  a138 := Tryz.isAgg232
  z138 := Tryz.sizeOf232
  v138 := Tryz.zeroValue232
  t139 := Tryz.underlying233
  a139 := Tryz.isAgg233
  z139 := Tryz.sizeOf233
  v139 := Tryz.zeroValue233
  g3 := by kernel_rfl
  g4 := by kernel_rfl }
end Go.Proofs

namespace Go.Proofs.YtpmjpbaeecnpiaaGreatDoor.L
open Go.RowKit Go.Proofs.YtpmjpbaeecnpiaaGreatDoorW.PrintWords Go.Proofs.YtpmjpbaeecnpiaaGreatDoorW.PrintLast Go.Proofs.YtpmjpbaeecnpiaaGreatDoorW.PrintMore
set_option linter.unusedVariables false
set_option linter.unusedSimpArgs false

/-- The characters from place pos on, at most fuel of them. -/
def runesFrom (s : ByteArray) : Nat → Nat → List Int
  | 0, _ => []
  | fuel + 1, pos => if pos < s.size then ((Utf8.decode s pos).1 : Int) :: runesFrom s fuel (pos + (Utf8.decode s pos).2) else []
def runesOf (s : ByteArray) : List Int := runesFrom s s.size 0
theorem runesFrom_end (s : ByteArray) (fuel pos : Nat) (h : ¬ pos < s.size) : runesFrom s fuel pos = [] := by
  cases fuel with
  | zero => rfl
  | succ f => simp [runesFrom, h]
theorem rune_width (s : ByteArray) (pos : Nat) (h : pos < s.size) : 1 ≤ (Utf8.decode s pos).2 := by
  by_cases ha : (s[pos]'h).toNat < 128
  · rw [decode_ascii s pos h ha]
    exact Nat.le_refl _
  · exact (decode_high s pos h (by omega)).2
def impl_Runes.f (a0 : ByteArray) : Option (List Int × Bool) :=
  if a0.size ≤ 9223372036854775807 then (if 20000 < a0.size then some ([], false) else if Lib.validD a0.data.toList = true then some (runesOf a0, true) else some ([], false)) else none
set_option maxHeartbeats 4000000 in
set_option maxRecDepth 100000 in
theorem impl_Runes.calls (a0 : ByteArray) (r1 : List Int) (r2 : Bool) (w : World) (hT : Gl w) (h : impl_Runes.f a0 = some (r1, r2)) :
    Calls Tryz.prog 162 #[.string a0] w fun e w' => ∃ v0_ : Value, e = .returned (.tuple #[v0_, .bool r2]) ∧ Kd.R (Kd.int .i64) 2 w' w.heap.size (fun _ => True) v0_ r1 ∧ Below w.heap.size w w' := by
  unfold impl_Runes.f at h
  by_cases hs : a0.size ≤ 9223372036854775807
  · rw [if_pos hs] at h
    by_cases c1 : 20000 < a0.size
    · rw [if_pos c1] at h
      simp only [Option.some.injEq, Prod.mk.injEq] at h
      obtain ⟨rfl, rfl⟩ := h
      have d1 : decide ((20000 : Int) < (a0.size : Int)) = true := decide_eq_true (by omega)
      go_enter Tryz.func162, Tryz.ntmps162
      go_wp2
      go_ret2
      exact ⟨_, rfl, Kd.R_nil _ _ _ _ _, Below.refl _ _⟩
    · rw [if_neg c1] at h
      have d1 : decide ((20000 : Int) < (a0.size : Int)) = false := decide_eq_false (by omega)
      have HV := fun q => Any.utf8_ValidString Tryz.lays196 a0 (w.drewN q) hs (Go.Proofs.Utf8Tabs_below hT.tabs (pw_below_drewN (Below.refl _ _) q))
      have HV0 := Any.utf8_ValidString Tryz.lays196 a0 w hs hT.tabs
      clear hT
      cases c2 : Lib.validD a0.data.toList with
      | false =>
        rw [c2] at h HV HV0
        simp only [Bool.false_eq_true, if_false, Option.some.injEq, Prod.mk.injEq] at h
        obtain ⟨rfl, rfl⟩ := h
        clear c2
        go_enter Tryz.func162, Tryz.ntmps162
        go_wp2_with (go_at_call 183; (first | refine HV0.mono ?_ | refine (HV _).mono ?_); rintro e w' ⟨rfl, hb⟩)
        go_ret2
        exact ⟨_, rfl, Kd.R_nil _ _ _ _ _, hb⟩
      | true =>
        rw [c2] at h HV HV0
        simp only [if_true, Option.some.injEq, Prod.mk.injEq] at h
        obtain ⟨rfl, rfl⟩ := h
        clear c2
        have HB := Aside0.mk (Below.refl w.heap.size w)
        go_enter Tryz.func162, Tryz.ntmps162
        go_wp2_with (first | (go_at_call 183; (first | refine HV0.mono ?_ | refine (HV _).mono ?_); rintro e w' ⟨rfl, hb⟩; have n1_ := Aside0.mk hb; clear HB; have HB := n1_; clear n1_ hb) | ((with_reducible refine gate_dst (N := 15) rfl ?_); refine Kd.R_lit (Kd.int .i64) _ 2 ?hg (N := 15) ?hd (xs := ([] : List Int)) (inner := []) (ok := fun _ => True) (okp := fun _ => True) ?hr ?hp (fun _ hk => hk) trivial (Below.refl _ _) (Nat.le_refl _) (by simp) ?_; (case hd => rfl); (case hg => rfl); (case hr => first | (go_simp; done) | (go_simp; rfl)); (case hp => exact (Reps.none _ _)); intro v109 w3 ho4 hb hg_ hnew_; clear hg_ hnew_; have n0_ := Aside0.mk (Kd.R_lower ho4 (below_size (by repeat (first | (with_reducible first | exact HB.out | apply below_alloc | apply pw_below_drewN | apply below_drew1) | exact HB.out)))); have n1_ := Aside0.mk (below_step (by repeat (first | (with_reducible first | exact HB.out | apply below_alloc | apply pw_below_drewN | apply below_drew1) | exact HB.out)) hb); clear HB; have HO110 := n0_; have HB := n1_; clear n0_ n1_; clear hb ho4))
        clear HV HV0
        have HBs := Aside0.mk HB.out.size
        go_loopw [4] (fun s4 wr => ∃ (pos fuel : Nat) (acc : List Int), Aside0 (Kd.R (Kd.int .i64) 2 wr w.heap.size (fun k => k ≠ w3.heap.size) s4 acc) ∧ wr.heap[w3.heap.size]? = some (.stringIter a0 pos) ∧ Aside0 (Below w.heap.size w wr) ∧ Aside0 (acc ++ runesFrom a0 fuel pos = runesOf a0) ∧ Aside0 (a0.size ≤ pos + fuel) ∧ Aside0 (acc.length ≤ pos)) (fun _ wr => a0.size - wr.iterPos w3.heap.size)
        case atStart =>
          refine ⟨0, a0.size, [], ⟨?_⟩, World.iter_heap w3 a0 0, ⟨?_⟩, ⟨rfl⟩, ⟨by omega⟩, ⟨Nat.le_refl _⟩⟩
          · exact Kd.R_mono (Kd.R_below (Kd.R_bound HO110.out) (below_alloc (Below.refl _ _) _)) (fun k hk => by have := hk.2.2.1; omega)
          · exact HB.out.trans (Below.mono (below_alloc (Below.refl _ _) _) HBs.out)
        case round =>
          obtain ⟨pos, fuel, acc, HO, hit, HB, HA, HF, HL⟩ := hrel
          by_cases hp : pos < a0.size
          · have hnx : ∀ ty, (Instr.next (.pointer (some ⟨w3.heap.size, 0, none⟩)) true ty).run Tryz.prog wr = _ := fun ty => Lib.run_next_any_at wr w3.heap.size a0 pos ty hit hp
            have hwd := Aside0.mk (rune_width a0 pos hp)
            have hd1 := Aside0.mk (decode_le a0 pos)
            have HO2 := Aside0.mk (Kd.R_move HO.out (fun k hk => Lib.iterAt_other wr w3.heap.size k a0 (pos + (Utf8.decode a0 pos).2) hk))
            have hit2 := Aside0.mk (Lib.iterAt_heap wr w3.heap.size a0 pos (pos + (Utf8.decode a0 pos).2) hit)
            have HB2 := Aside0.mk (Lib.below_iterAt HB.out HBs.out a0 (pos + (Utf8.decode a0 pos).2))
            have hpp := Aside0.mk hp
            have hsz := Aside0.mk hs
            clear HO HB
            have hsmall := Aside0.mk (show a0.size ≤ 20000 by omega)
            have hwr : wrap64 ((Utf8.decode a0 pos).1 : Int) = ((Utf8.decode a0 pos).1 : Int) := by have := hd1.out; unfold wrap64; omega
            go_wp2_with (first | ((with_reducible refine gate_builtin (b := .append) (xs := #[.tmp 21, .tmp 24]) rfl ?_); at_builtin; refine Kd.R_append (Kd.int .i64) (w0 := w) w.heap.size rfl (.tmp 21) (.tmp 24) 47 2 (.int .i64 0) 8 rfl Tryz.underlying47 info2 rfl (by decide) (by omega) u4 acc ((Utf8.decode a0 pos).1 : Int) [.int .i64 ((Utf8.decode a0 pos).1 : Int)] (fun k => k ≠ w3.heap.size) (fun _ => False) rfl rfl ?aP (fun _ hk => hk.elim) ?aF ?aO ?aB ?aS ?aL ?_; (case aP => exact rfl); (case aB => exact HB2.out); (case aF => exact (fun k hk => by have h1 := (Array.getElem?_eq_some_iff.1 hit2.out).1; omega)); (case aO => exact HO2.out); (case aS => exact HB2.out.size); (case aL => have := HL.out; have := hpp.out; have := hsmall.out; omega); intro v114 w11 ho hb hg hat; have n0_ := Aside0.mk hb; have n1_ := Aside0.mk ho; have n2_ := Aside0.mk ((hg.block w3.heap.size (Array.getElem?_eq_some_iff.1 hit2.out).1 (fun e => HO2.out.1 w3.heap.size e.symm rfl)).trans hit2.out); have HB := n0_; have HO := n1_; have HI := n2_; clear n0_ n1_ n2_; clear ho hb hg hat))
            go_roundw
            case rel =>
              obtain ⟨f, hf⟩ : ∃ f, fuel = f + 1 := ⟨fuel - 1, by have := HF.out; have := hpp.out; omega⟩
              refine ⟨pos + (Utf8.decode a0 pos).2, f, acc ++ [((Utf8.decode a0 pos).1 : Int)], HO, HI.out, HB, ⟨?_⟩, ⟨?_⟩, ⟨?_⟩⟩
              · have e := HA.out
                rw [hf] at e
                rw [← e]
                simp [runesFrom, hpp.out]
              · have := HF.out; have := hwd.out; omega
              · have := HL.out; have := hwd.out; simp; omega
            case measure =>
              have := hwd.out; have := hpp.out
              simp only [World.iterPos, HI.out, hit]
              omega
          · have hnx : ∀ ty, (Instr.next (.pointer (some ⟨w3.heap.size, 0, none⟩)) true ty).run Tryz.prog wr = _ := fun ty => Lib.run_next_end_at wr w3.heap.size a0 pos ty hit hp
            go_wp2
            go_ret2
            have e := HA.out
            rw [runesFrom_end a0 fuel pos hp, List.append_nil] at e
            rw [e] at HO
            exact ⟨_, rfl, Kd.R_mono HO.out (fun _ _ => trivial), HB.out⟩
  · rw [if_neg hs] at h
    cases h
end Go.Proofs.YtpmjpbaeecnpiaaGreatDoor.L

namespace Go.Proofs.YtpmjpbaeecnpiaaGreatDoor.L
open Go.RowKit Go.Proofs.YtpmjpbaeecnpiaaGreatDoorW.PrintWords Go.Proofs.YtpmjpbaeecnpiaaGreatDoorW.PrintLast Go.Proofs.YtpmjpbaeecnpiaaGreatDoorW.PrintMore
attribute [local go_sem] max2_int min2_int max_two min_two max_three min_three max_four min_four
set_option linter.unusedVariables false
set_option linter.unusedSimpArgs false

/-! ### impl_isPlain: function 141 -/
def impl_isPlain.l0 : Nat → Bool → List Int → Int → Int → Option (Bool)
 | 0, _, _, _, _ => none
 | k + 1, x4, x12, x13, x14 => if x14 < x13 then (if 0 ≤ x14 then (if x14 < (x12.length : Int) then (if x4 = true then ((impl_CharOk.f (rd x12 x14)).bind fun t330 => (impl_isPlain.l0 k t330 x12 x13 (wrap64 (x14 + 1)))) else (impl_isPlain.l0 k false x12 x13 (wrap64 (x14 + 1)))) else (none)) else (none)) else (some x4)
def impl_isPlain.f (k : Nat) (a0 : ByteArray) : Option (Bool) := (impl_Runes.f a0).bind fun bt325 => (impl_isPlain.l0 k bt325.2 bt325.1 (bt325.1.length : Int) 0)
set_option maxHeartbeats 8000000 in
set_option maxRecDepth 100000 in
theorem impl_isPlain.calls (k : Nat) (a0 : ByteArray) (r : Bool) (w : World) (hT : Gl w) (h : impl_isPlain.f k a0 = some r) :
  Calls Tryz.prog 141 #[.string a0] w fun e w' => e = .returned (.bool r) ∧ Below w.heap.size w w' := by
 have HT := Aside0.mk hT
 clear hT
 have HB := Aside0.mk (Below.refl w.heap.size w)
 have H : ((impl_Runes.f a0).bind fun bt325 => (impl_isPlain.l0 k bt325.2 bt325.1 (bt325.1.length : Int) 0)) = some r := h
 clear h
 replace H := Option.bind_eq_some_iff.mp H
 obtain ⟨⟨t325, t326⟩, A20, H⟩ := H
 replace H : (impl_isPlain.l0 k t326 t325 (t325.length : Int) 0) = some r := H
 have A2 := Aside0.mk A20
 clear A20
 have H' := Aside0.mk H
 clear H
 go_enter Tryz.func141, Tryz.ntmps141
 go_wp2_with (first | ((with_reducible refine gate_callee (f := 162) rfl ?_); refine goesL_ (some 9) rfl rfl Tryz.func162 dq22 rfl #[.string a0] rfl dq21 ?_; (with_reducible refine (impl_Runes.calls a0 t325 t326 _ ?side1 A2.out).mono ?_); (case side1 => exact dq3); rintro e w3 ⟨v327, rfl, ho0, hb⟩; refine ⟨_, rfl, ?_⟩; have n0_ := Aside0.mk (Kd.R_lower ho0 (below_size dq25)); have n1_ := Aside0.mk (below_step dq25 hb); clear HB; have HO328 := n0_; have HB := n1_; clear n0_ n1_; (try clear hb); (try clear hb2); (try clear hk); (try clear hi); (try clear ho0); obtain ⟨Ao4, co4, eo4⟩ := Kd.R_slice HO328.out; subst eo4))
 go_loopg [4, 14] k (fun kq v4 v14 w' => ∃ (x4_1 : Bool) (x14_1 : Int), v4 = .bool x4_1 ∧ v14 = .int .i64 x14_1 ∧ Aside0 (impl_isPlain.l0 kq x4_1 t325 (t325.length : Int) x14_1 = some r) ∧ Aside0 (kq ≤ k) ∧ Aside0 (Kd.R (Kd.int .i64) 2 w' w.heap.size (fun _ => True) (.slice Ao4 t325.length co4) t325) ∧ Aside0 (Below w.heap.size w w'))
 case atStart => exact ⟨(t326), (0), dq17, dq17, H', ⟨Nat.le_refl _⟩, ⟨by (with_reducible repeat (first | apply Kd.R_alloc | apply Kd.R_drewN | apply Kd.R_drew)); exact HO328.out⟩, ⟨dq25⟩⟩
 clear H'
 try clear c1
 try clear p2
 obtain ⟨x4_1, x14_1, rfl, rfl, HA, HK1, HO_12, HB⟩ := hrel
 cases gk with
 | zero => exact absurd HA.out (by simp [impl_isPlain.l0])
 | succ k1 =>
  have H := HA.out
  clear HA
  simp only [impl_isPlain.l0] at H
  by_cases c5 : x14_1 < (t325.length : Int)
  rotate_left
  ·rw [if_neg c5] at H
   have c5b0 := decide_eq_false c5
   clear c5
   obtain rfl := Option.some.inj H
   go_wp2
   go_ret
   exact ⟨dq27, dq25⟩
  rw [if_pos c5] at H
  have c5b0 := decide_eq_true c5
  clear c5
  by_cases c6 : 0 ≤ x14_1
  rotate_left
  ·rw [if_neg c6] at H
   exact absurd H dq20
  rw [if_pos c6] at H
  have c6b0 := decide_eq_true c6
  clear c6
  by_cases c7 : x14_1 < (t325.length : Int)
  rotate_left
  ·rw [if_neg c7] at H
   exact absurd H dq20
  rw [if_pos c7] at H
  have c7b0 := decide_eq_true c7
  clear c7
  by_cases c8 : x4_1 = true
  rotate_left
  ·replace c8 := Bool.eq_false_iff.mpr c8
   subst c8
   have H1 : (impl_isPlain.l0 k1 false t325 (t325.length : Int) (wrap64 (x14_1 + 1))) = some r := by rw [if_neg (show ¬ (false = true) by decide)] at H; exact H
   clear H
   have H := H1
   clear H1
   have H' := Aside0.mk H
   clear H
   have p329 : 0 ≤ (x14_1 : Int) := of_decide_eq_true dq18
   have q329 : x14_1 < (t325.length : Int) := of_decide_eq_true dq18
   obtain ⟨ad329, e329, hx329_0⟩ := Kd.at_int (Kd.R_reads' HO_12.out).2.2 x14_1 p329 q329
   cases e329
   replace p329 := eq_true p329
   replace q329 := eq_true q329
   go_wp2
   go_roundg k1
   case measure => have := HK1.out; omega
   case rel => exact ⟨(false), (wrap64 (x14_1 + 1)), dq17, dq17, H', ⟨dq19⟩, ⟨by (with_reducible repeat (first | apply Kd.R_alloc | apply Kd.R_drewN | apply Kd.R_drew)); exact HO_12.out⟩, ⟨dq25⟩⟩
  subst c8
  have H1 : ((impl_CharOk.f (rd t325 x14_1)).bind fun t330 => (impl_isPlain.l0 k1 t330 t325 (t325.length : Int) (wrap64 (x14_1 + 1)))) = some r := by rw [if_pos rfl] at H; exact H
  clear H
  have H := H1
  clear H1
  replace H := Option.bind_eq_some_iff.mp H
  obtain ⟨t330, A90, H⟩ := H
  replace H : (impl_isPlain.l0 k1 t330 t325 (t325.length : Int) (wrap64 (x14_1 + 1))) = some r := H
  have A9 := Aside0.mk A90
  clear A90
  have H' := Aside0.mk H
  clear H
  have p329 : 0 ≤ (x14_1 : Int) := of_decide_eq_true dq18
  have q329 : x14_1 < (t325.length : Int) := of_decide_eq_true dq18
  obtain ⟨ad329, e329, hx329_0⟩ := Kd.at_int (Kd.R_reads' HO_12.out).2.2 x14_1 p329 q329
  cases e329
  replace p329 := eq_true p329
  replace q329 := eq_true q329
  go_wp2_with (first | (go_at_call 163; (with_reducible refine (impl_CharOk.calls (rd t325 x14_1) t330 _ A9.out).mono ?_); rintro e w' ⟨rfl, ⟨nd, rfl⟩⟩))
  go_roundg k1
  case measure => have := HK1.out; omega
  case rel => exact ⟨(t330), (wrap64 (x14_1 + 1)), dq17, dq17, H', ⟨dq19⟩, ⟨by (with_reducible repeat (first | apply Kd.R_alloc | apply Kd.R_drewN | apply Kd.R_drew)); exact HO_12.out⟩, ⟨dq25⟩⟩

/-! ### impl_Split: function 164 -/
def impl_Split.j0 : Nat → ByteArray → ByteArray → ByteArray → Bool → Bool → Option (ByteArray × ByteArray × Bool)
 | 0, _, _, _, _, _ => none
 | k + 1, x0, x5, x6, x7, x14 => if x14 = true then (some ((⟨#[]⟩ : ByteArray), x0, true)) else (if x7 = true then ((impl_NameOk.f k x5).bind fun t335 => (if t335 = true then ((impl_NameOk.f k x6).bind fun t336 => (if t336 = true then (some (x5, x6, true)) else (some ((⟨#[]⟩ : ByteArray), (⟨#[]⟩ : ByteArray), false)))) else (some ((⟨#[]⟩ : ByteArray), (⟨#[]⟩ : ByteArray), false)))) else (some ((⟨#[]⟩ : ByteArray), (⟨#[]⟩ : ByteArray), false)))
def impl_Split.f (k : Nat) (a0 : ByteArray) : Option (ByteArray × ByteArray × Bool) := (strings_Cut.f a0 (⟨#[58]⟩ : ByteArray)).bind fun bt331 => (if bt331.2.2 = true then (impl_Split.j0 k a0 bt331.1 bt331.2.1 bt331.2.2 false) else ((impl_NameOk.f k a0).bind fun t334 => (impl_Split.j0 k a0 bt331.1 bt331.2.1 bt331.2.2 t334)))
set_option maxHeartbeats 8000000 in
set_option maxRecDepth 100000 in
theorem impl_Split.calls (k : Nat) (a0 : ByteArray) (r1 : ByteArray) (r2 : ByteArray) (r3 : Bool) (w : World) (h : impl_Split.f k a0 = some (r1, r2, r3)) :
  Calls Tryz.prog 164 #[.string a0] w fun e w' => e = .returned (.tuple #[.string r1, .string r2, .bool r3]) ∧ Below w.heap.size w w' := by
 have HB := Aside0.mk (Below.refl w.heap.size w)
 have H : ((strings_Cut.f a0 (⟨#[58]⟩ : ByteArray)).bind fun bt331 => (if bt331.2.2 = true then (impl_Split.j0 k a0 bt331.1 bt331.2.1 bt331.2.2 false) else ((impl_NameOk.f k a0).bind fun t334 => (impl_Split.j0 k a0 bt331.1 bt331.2.1 bt331.2.2 t334)))) = some (r1, r2, r3) := h
 clear h
 replace H := Option.bind_eq_some_iff.mp H
 obtain ⟨⟨t331, t332, t333⟩, A20, H⟩ := H
 replace H : (if t333 = true then (impl_Split.j0 k a0 t331 t332 t333 false) else ((impl_NameOk.f k a0).bind fun t334 => (impl_Split.j0 k a0 t331 t332 t333 t334))) = some (r1, r2, r3) := H
 have A2 := Aside0.mk A20
 clear A20
 have HC3 := Aside0.mk H
 clear H
 go_enter Tryz.func164, Tryz.ntmps164
 go_upto_region 2 with (first | ((with_reducible refine gate_callee (f := 95) rfl ?_); refine goesL_ (some 10) rfl rfl Tryz.func95 dq22 rfl #[.string a0, .string (⟨#[58]⟩ : ByteArray)] rfl dq21 ?_; (with_reducible refine (strings_Cut.calls a0 (⟨#[58]⟩ : ByteArray) t331 t332 t333 _ A2.out).mono ?_); rintro e w4 ⟨rfl, hb⟩; refine ⟨_, rfl, ?_⟩; have n0_ := Aside0.mk (below_step dq25 hb); clear HB; have HB := n0_; clear n0_; (try clear hb); (try clear hb2); (try clear hk); (try clear hi)))
 (try simp only [Act.put, List.setIfInBounds_toArray, List.set_cons_zero, List.set_cons_succ])
 go_cut [14] (fun v14 wc => ∃ (kq : Nat) (x14_2 : Bool), v14 = .bool x14_2 ∧ Aside0 (impl_Split.j0 kq a0 t331 t332 t333 x14_2 = some (r1, r2, r3)) ∧ Aside0 (kq ≤ k) ∧ Aside0 (Below w.heap.size w wc))
 case first =>
  have H := HC3.out
  clear HC3
  by_cases c5 : t333 = true
  ·subst c5
   have H1 : (impl_Split.j0 k a0 t331 t332 true false) = some (r1, r2, r3) := by rw [if_pos rfl] at H; exact H
   clear H
   have H := H1
   clear H1
   have H' := Aside0.mk H
   clear H
   go_wp2
   go_meet
   case rel => exact ⟨_, (false), dq17, H', ⟨dq24⟩, ⟨dq25⟩⟩
  replace c5 := Bool.eq_false_iff.mpr c5
  subst c5
  have H1 : ((impl_NameOk.f k a0).bind fun t334 => (impl_Split.j0 k a0 t331 t332 false t334)) = some (r1, r2, r3) := by rw [if_neg (show ¬ (false = true) by decide)] at H; exact H
  clear H
  have H := H1
  clear H1
  replace H := Option.bind_eq_some_iff.mp H
  obtain ⟨t334, A60, H⟩ := H
  replace H : (impl_Split.j0 k a0 t331 t332 false t334) = some (r1, r2, r3) := H
  have A6 := Aside0.mk A60
  clear A60
  have H' := Aside0.mk H
  clear H
  go_wp2_with (first | (go_at_call 96; (with_reducible refine (impl_NameOk.calls k a0 t334 _ A6.out).mono ?_); rintro e w' ⟨rfl, ⟨nd, rfl⟩⟩))
  go_meet
  case rel => exact ⟨_, (t334), dq17, H', ⟨dq24⟩, ⟨dq25⟩⟩
 clear HC3
 obtain ⟨kq, x14_2, rfl, HA, HJ2, HB⟩ := hcut
 cases kq with
 | zero => exact absurd HA.out (by simp [impl_Split.j0])
 | succ kj2 =>
  have H := HA.out
  clear HA
  simp only [impl_Split.j0] at H
  by_cases c7 : x14_2 = true
  ·subst c7
   have H1 : (some ((⟨#[]⟩ : ByteArray), a0, true)) = some (r1, r2, r3) := by rw [if_pos rfl] at H; exact H
   clear H
   have H := H1
   clear H1
   simp only [Option.some.injEq, Prod.mk.injEq] at H
   obtain ⟨rfl, rfl, rfl⟩ := H
   go_wp2
   go_ret3
   exact ⟨dq27, dq25⟩
  replace c7 := Bool.eq_false_iff.mpr c7
  subst c7
  have H1 : (if t333 = true then ((impl_NameOk.f kj2 t331).bind fun t335 => (if t335 = true then ((impl_NameOk.f kj2 t332).bind fun t336 => (if t336 = true then (some (t331, t332, true)) else (some ((⟨#[]⟩ : ByteArray), (⟨#[]⟩ : ByteArray), false)))) else (some ((⟨#[]⟩ : ByteArray), (⟨#[]⟩ : ByteArray), false)))) else (some ((⟨#[]⟩ : ByteArray), (⟨#[]⟩ : ByteArray), false))) = some (r1, r2, r3) := by rw [if_neg (show ¬ (false = true) by decide)] at H; exact H
  clear H
  have H := H1
  clear H1
  by_cases c8 : t333 = true
  rotate_left
  ·replace c8 := Bool.eq_false_iff.mpr c8
   subst c8
   have H1 : (some ((⟨#[]⟩ : ByteArray), (⟨#[]⟩ : ByteArray), false)) = some (r1, r2, r3) := by rw [if_neg (show ¬ (false = true) by decide)] at H; exact H
   clear H
   have H := H1
   clear H1
   simp only [Option.some.injEq, Prod.mk.injEq] at H
   obtain ⟨rfl, rfl, rfl⟩ := H
   go_wp2
   go_ret3
   exact ⟨dq27, dq25⟩
  subst c8
  have H1 : ((impl_NameOk.f kj2 t331).bind fun t335 => (if t335 = true then ((impl_NameOk.f kj2 t332).bind fun t336 => (if t336 = true then (some (t331, t332, true)) else (some ((⟨#[]⟩ : ByteArray), (⟨#[]⟩ : ByteArray), false)))) else (some ((⟨#[]⟩ : ByteArray), (⟨#[]⟩ : ByteArray), false)))) = some (r1, r2, r3) := by rw [if_pos rfl] at H; exact H
  clear H
  have H := H1
  clear H1
  replace H := Option.bind_eq_some_iff.mp H
  obtain ⟨t335, A90, H⟩ := H
  replace H : (if t335 = true then ((impl_NameOk.f kj2 t332).bind fun t336 => (if t336 = true then (some (t331, t332, true)) else (some ((⟨#[]⟩ : ByteArray), (⟨#[]⟩ : ByteArray), false)))) else (some ((⟨#[]⟩ : ByteArray), (⟨#[]⟩ : ByteArray), false))) = some (r1, r2, r3) := H
  have A9 := Aside0.mk A90
  clear A90
  by_cases c10 : t335 = true
  rotate_left
  ·replace c10 := Bool.eq_false_iff.mpr c10
   subst c10
   have H1 : (some ((⟨#[]⟩ : ByteArray), (⟨#[]⟩ : ByteArray), false)) = some (r1, r2, r3) := by rw [if_neg (show ¬ (false = true) by decide)] at H; exact H
   clear H
   have H := H1
   clear H1
   simp only [Option.some.injEq, Prod.mk.injEq] at H
   obtain ⟨rfl, rfl, rfl⟩ := H
   go_wp2_with (first | (go_at_call 96; (with_reducible refine (impl_NameOk.calls kj2 t331 false _ A9.out).mono ?_); rintro e w' ⟨rfl, ⟨nd, rfl⟩⟩))
   go_ret3
   exact ⟨dq27, dq25⟩
  subst c10
  have H1 : ((impl_NameOk.f kj2 t332).bind fun t336 => (if t336 = true then (some (t331, t332, true)) else (some ((⟨#[]⟩ : ByteArray), (⟨#[]⟩ : ByteArray), false)))) = some (r1, r2, r3) := by rw [if_pos rfl] at H; exact H
  clear H
  have H := H1
  clear H1
  replace H := Option.bind_eq_some_iff.mp H
  obtain ⟨t336, A110, H⟩ := H
  replace H : (if t336 = true then (some (t331, t332, true)) else (some ((⟨#[]⟩ : ByteArray), (⟨#[]⟩ : ByteArray), false))) = some (r1, r2, r3) := H
  have A11 := Aside0.mk A110
  clear A110
  by_cases c12 : t336 = true
  ·subst c12
   have H1 : (some (t331, t332, true)) = some (r1, r2, r3) := by rw [if_pos rfl] at H; exact H
   clear H
   have H := H1
   clear H1
   simp only [Option.some.injEq, Prod.mk.injEq] at H
   obtain ⟨rfl, rfl, rfl⟩ := H
   go_wp2_with (first | (go_at_call 96; (with_reducible refine (impl_NameOk.calls kj2 t331 true _ A9.out).mono ?_); rintro e w' ⟨rfl, ⟨nd, rfl⟩⟩) | (go_at_call 96; (with_reducible refine (impl_NameOk.calls kj2 t332 true _ A11.out).mono ?_); rintro e w' ⟨rfl, ⟨nd, rfl⟩⟩))
   go_ret3
   exact ⟨dq27, dq25⟩
  replace c12 := Bool.eq_false_iff.mpr c12
  subst c12
  have H1 : (some ((⟨#[]⟩ : ByteArray), (⟨#[]⟩ : ByteArray), false)) = some (r1, r2, r3) := by rw [if_neg (show ¬ (false = true) by decide)] at H; exact H
  clear H
  have H := H1
  clear H1
  simp only [Option.some.injEq, Prod.mk.injEq] at H
  obtain ⟨rfl, rfl, rfl⟩ := H
  go_wp2_with (first | (go_at_call 96; (with_reducible refine (impl_NameOk.calls kj2 t331 true _ A9.out).mono ?_); rintro e w' ⟨rfl, ⟨nd, rfl⟩⟩) | (go_at_call 96; (with_reducible refine (impl_NameOk.calls kj2 t332 false _ A11.out).mono ?_); rintro e w' ⟨rfl, ⟨nd, rfl⟩⟩))
  go_ret3
  exact ⟨dq27, dq25⟩

/-! ### impl_isQualified: function 142 -/
def impl_isQualified.f (k : Nat) (a0 : ByteArray) : Option (Bool) := (impl_Split.f k a0).bind fun bt337 => (some bt337.2.2)
set_option maxHeartbeats 8000000 in
set_option maxRecDepth 100000 in
theorem impl_isQualified.calls (k : Nat) (a0 : ByteArray) (r : Bool) (w : World) (h : impl_isQualified.f k a0 = some r) :
  Calls Tryz.prog 142 #[.string a0] w fun e w' => e = .returned (.bool r) ∧ Below w.heap.size w w' := by
 have HB := Aside0.mk (Below.refl w.heap.size w)
 have H : ((impl_Split.f k a0).bind fun bt337 => (some bt337.2.2)) = some r := h
 clear h
 replace H := Option.bind_eq_some_iff.mp H
 obtain ⟨⟨t337, t338, t339⟩, A20, H⟩ := H
 replace H : (some t339) = some r := H
 have A2 := Aside0.mk A20
 clear A20
 obtain rfl := Option.some.inj H
 go_enter Tryz.func142, Tryz.ntmps142
 go_wp2_with (first | ((with_reducible refine gate_callee (f := 164) rfl ?_); refine goesL_ (some 8) rfl rfl Tryz.func164 dq22 rfl #[.string a0] rfl dq21 ?_; (with_reducible refine (impl_Split.calls k a0 t337 t338 t339 _ A2.out).mono ?_); rintro e w3 ⟨rfl, hb⟩; refine ⟨_, rfl, ?_⟩; have n0_ := Aside0.mk (below_step dq25 hb); clear HB; have HB := n0_; clear n0_; (try clear hb); (try clear hb2); (try clear hk); (try clear hi)))
 go_ret
 exact ⟨dq27, dq25⟩

/-! ### impl_Item_isGood: function 104 -/
mutual
def impl_Item_isGood.j0 : Nat → Bool → Int → ByteArray → ByteArray → List (S67) → Option (Bool)
 | 0, _, _, _, _, _ => none
 | k + 1, x38, x341000, x341001, x341002, x341003 => if x38 = true then (some false) else (impl_Item_isGood.l0 k x341003 (x341003.length : Int) 0 x341000 x341001 x341002 x341003)
def impl_Item_isGood.l0 : Nat → List (S67) → Int → Int → Int → ByteArray → ByteArray → List (S67) → Option (Bool)
 | 0, _, _, _, _, _, _, _ => none
 | k + 1, x40, x41, x42, x341000, x341001, x341002, x341003 => if x42 < x41 then (if 0 ≤ x42 then (if x42 < (x40.length : Int) then ((impl_isQualified.f k ((rd_T67 x40 x42).f0)).bind fun t345 => (if t345 = true then ((impl_isPlain.f k ((rd_T67 x40 x42).f1)).bind fun t346 => (impl_Item_isGood.j2 k x42 x40 x41 x42 (!t346) x341000 x341001 x341002 x341003 ((rd_T67 x40 x42).f0) ((rd_T67 x40 x42).f1))) else (impl_Item_isGood.j2 k x42 x40 x41 x42 true x341000 x341001 x341002 x341003 ((rd_T67 x40 x42).f0) ((rd_T67 x40 x42).f1)))) else (none)) else (none)) else (some true)
def impl_Item_isGood.j2 : Nat → Int → List (S67) → Int → Int → Bool → Int → ByteArray → ByteArray → List (S67) → ByteArray → ByteArray → Option (Bool)
 | 0, _, _, _, _, _, _, _, _, _, _, _ => none
 | k + 1, x3, x40, x41, x42, x56, x341000, x341001, x341002, x341003, x345000, x345001 => if x56 = true then (some false) else (if 0 ≤ x3 then (if x3 ≤ (x341003.length : Int) then ((some (x341003.take (x3 : Int).toNat : List (S67))).bind fun y347 => (impl_Item_isGood.l1 k x40 x41 x42 y347 (y347.length : Int) 0 x341000 x341001 x341002 x341003 x345000 x345001)) else (none)) else (none))
def impl_Item_isGood.l1 : Nat → List (S67) → Int → Int → List (S67) → Int → Int → Int → ByteArray → ByteArray → List (S67) → ByteArray → ByteArray → Option (Bool)
 | 0, _, _, _, _, _, _, _, _, _, _, _, _ => none
 | k + 1, x40, x41, x42, x60, x61, x62, x341000, x341001, x341002, x341003, x345000, x345001 => if x62 < x61 then (if 0 ≤ x62 then (if x62 < (x60.length : Int) then (if x345000.toList = ((rd_T67 x60 x62).f0).toList then (some false) else (impl_Item_isGood.l1 k x40 x41 x42 x60 x61 (wrap64 (x62 + 1)) x341000 x341001 x341002 x341003 x345000 x345001)) else (none)) else (none)) else (impl_Item_isGood.l0 k x40 x41 (wrap64 (x42 + 1)) x341000 x341001 x341002 x341003)
end
def impl_Item_isGood.f (k : Nat) (a0_0 : Int) (a0_1 : ByteArray) (a0_2 : ByteArray) (l0_3 : List (S67)) : Option (Bool) := if a0_1.toList = ([] : List UInt8) then (if a0_2.toList = ([] : List UInt8) then (some false) else ((impl_isPlain.f k a0_2).bind fun t341 => (if t341 = true then (some ((l0_3.length : Int) == 0)) else (some false)))) else ((impl_isQualified.f k a0_1).bind fun t342 => (if t342 = true then (if a0_2.toList = ([] : List UInt8) then (impl_Item_isGood.j0 k (decide ((l0_3.length : Int) > 10)) a0_0 a0_1 a0_2 l0_3) else (impl_Item_isGood.j0 k true a0_0 a0_1 a0_2 l0_3)) else (impl_Item_isGood.j0 k true a0_0 a0_1 a0_2 l0_3)))
set_option maxHeartbeats 8000000 in
set_option maxRecDepth 100000 in
theorem impl_Item_isGood.calls (k : Nat) (a0_0 : Int) (a0_1 : ByteArray) (a0_2 : ByteArray) (A0_3 : Option Addr) (c0_3 : Nat) (l0_3 : List (S67)) (r : Bool) (w : World) (hT : Gl w) (hr0_3 : Kd.C k67 w A0_3 l0_3.length l0_3) (hc0_3 : l0_3.length ≤ c0_3) (h : impl_Item_isGood.f k a0_0 a0_1 a0_2 l0_3 = some r) :
  Calls Tryz.prog 104 #[.agg #[.int .i64 a0_0, .string a0_1, .string a0_2, .slice A0_3 l0_3.length c0_3]] w fun e w' => e = .returned (.bool r) ∧ Below w.heap.size w w' := by
 have hu65 := Tryz.underlying65
 have hu67 := Tryz.underlying67
 have HR0_3 := Aside0.mk hr0_3
 have HC0_3 := Aside0.mk hc0_3
 clear hr0_3 hc0_3
 have HT := Aside0.mk hT
 clear hT
 have HB := Aside0.mk (Below.refl w.heap.size w)
 have H : (if a0_1.toList = ([] : List UInt8) then (if a0_2.toList = ([] : List UInt8) then (some false) else ((impl_isPlain.f k a0_2).bind fun t341 => (if t341 = true then (some ((l0_3.length : Int) == 0)) else (some false)))) else ((impl_isQualified.f k a0_1).bind fun t342 => (if t342 = true then (if a0_2.toList = ([] : List UInt8) then (impl_Item_isGood.j0 k (decide ((l0_3.length : Int) > 10)) a0_0 a0_1 a0_2 l0_3) else (impl_Item_isGood.j0 k true a0_0 a0_1 a0_2 l0_3)) else (impl_Item_isGood.j0 k true a0_0 a0_1 a0_2 l0_3)))) = some r := h
 clear h
 by_cases c2 : a0_1.toList = ([] : List UInt8)
 ·rw [if_pos c2] at H
  have c2b0 := beq_iff_eq.mpr c2
  have c2b1 := bne_eq_false_iff_eq.mpr c2
  clear c2
  by_cases c3 : a0_2.toList = ([] : List UInt8)
  ·rw [if_pos c3] at H
   have c3b0 := beq_iff_eq.mpr c3
   have c3b1 := bne_eq_false_iff_eq.mpr c3
   clear c3
   obtain rfl := Option.some.inj H
   go_enter Tryz.func104, Tryz.ntmps104
   go_wp2_with (first | ((with_reducible refine gate_dst (N := 1) rfl ?_); (try (refine gate_guard (by rfl) ?_; dsimp only)); refine box_event ?hg (N := 1) ?hd (cs := #[.int .i64 a0_0, .string a0_1, .string a0_2, .slice A0_3 l0_3.length c0_3]) (t := 65) ?hr ?_; (case hd => rfl); (case hg => rfl); (case hr => exact dq0); intro gb340 hg w4 hbox hb; have n0_ := Aside0.mk (below_step dq25 hb); have n1_ := Aside0.mk (hbox); have n2_ := Aside0.mk ((dq32 : w.heap.size ≤ gb340)); have n3_ := Aside0.mk ((dq32 : w.heap.size ≤ gb340)); clear HB; have HB := n0_; have BK340 := n1_; have GW340 := n2_; have GE340 := n3_; clear n0_ n1_ n2_ n3_; clear hb hbox hg; obtain ⟨⟨hcz5_0, hcz5_1, hcz5_2, hcz5_3⟩, hfz5_0, hfz5_1, hfz5_2, hfz5_3⟩ := blkC4 BK340.out))
   go_ret
   exact ⟨dq27, dq57⟩
  rw [if_neg c3] at H
  have c3b0 := beq_eq_false_iff_ne.mpr c3
  have c3b1 := bne_iff_ne.mpr c3
  replace H := Option.bind_eq_some_iff.mp H
  obtain ⟨t341, A60, H⟩ := H
  replace H : (if t341 = true then (some ((l0_3.length : Int) == 0)) else (some false)) = some r := H
  have A6 := Aside0.mk A60
  clear A60
  by_cases c7 : t341 = true
  rotate_left
  ·replace c7 := Bool.eq_false_iff.mpr c7
   subst c7
   have H1 : (some false) = some r := by rw [if_neg (show ¬ (false = true) by decide)] at H; exact H
   clear H
   have H := H1
   clear H1
   obtain rfl := Option.some.inj H
   go_enter Tryz.func104, Tryz.ntmps104
   go_wp2_with (first | ((with_reducible refine gate_dst (N := 1) rfl ?_); (try (refine gate_guard (by rfl) ?_; dsimp only)); refine box_event ?hg (N := 1) ?hd (cs := #[.int .i64 a0_0, .string a0_1, .string a0_2, .slice A0_3 l0_3.length c0_3]) (t := 65) ?hr ?_; (case hd => rfl); (case hg => rfl); (case hr => exact dq0); intro gb340 hg w12 hbox hb; have n0_ := Aside0.mk (below_step dq25 hb); have n1_ := Aside0.mk (hbox); have n2_ := Aside0.mk ((dq32 : w.heap.size ≤ gb340)); have n3_ := Aside0.mk ((dq32 : w.heap.size ≤ gb340)); clear HB; have HB := n0_; have BK340 := n1_; have GW340 := n2_; have GE340 := n3_; clear n0_ n1_ n2_ n3_; clear hb hbox hg; obtain ⟨⟨hcz13_0, hcz13_1, hcz13_2, hcz13_3⟩, hfz13_0, hfz13_1, hfz13_2, hfz13_3⟩ := blkC4 BK340.out) | (go_at_call 141; (with_reducible refine (impl_isPlain.calls k a0_2 false _ ?side1 A6.out).mono ?_); (case side1 => exact dq4); rintro e w14 ⟨rfl, hb⟩; have n0_ := Aside0.mk (blk_below (g := gb340) (o := .cells #[.int .i64 a0_0, .string a0_1, .string a0_2, .slice A0_3 l0_3.length c0_3] 65 (0, 0)) dq58 hb); have n1_ := Aside0.mk (below_step dq57 hb); clear BK340; clear HB; have BK340 := n0_; have HB := n1_; clear n0_ n1_; (try clear hb); (try clear hb2); (try clear hk); (try clear hi)))
   go_ret
   exact ⟨dq27, dq57⟩
  subst c7
  have H1 : (some ((l0_3.length : Int) == 0)) = some r := by rw [if_pos rfl] at H; exact H
  clear H
  have H := H1
  clear H1
  obtain rfl := Option.some.inj H
  go_enter Tryz.func104, Tryz.ntmps104
  go_wp2_with (first | ((with_reducible refine gate_dst (N := 1) rfl ?_); (try (refine gate_guard (by rfl) ?_; dsimp only)); refine box_event ?hg (N := 1) ?hd (cs := #[.int .i64 a0_0, .string a0_1, .string a0_2, .slice A0_3 l0_3.length c0_3]) (t := 65) ?hr ?_; (case hd => rfl); (case hg => rfl); (case hr => exact dq0); intro gb340 hg w8 hbox hb; have n0_ := Aside0.mk (below_step dq25 hb); have n1_ := Aside0.mk (hbox); have n2_ := Aside0.mk ((dq32 : w.heap.size ≤ gb340)); have n3_ := Aside0.mk ((dq32 : w.heap.size ≤ gb340)); clear HB; have HB := n0_; have BK340 := n1_; have GW340 := n2_; have GE340 := n3_; clear n0_ n1_ n2_ n3_; clear hb hbox hg; obtain ⟨⟨hcz9_0, hcz9_1, hcz9_2, hcz9_3⟩, hfz9_0, hfz9_1, hfz9_2, hfz9_3⟩ := blkC4 BK340.out) | (go_at_call 141; (with_reducible refine (impl_isPlain.calls k a0_2 true _ ?side1 A6.out).mono ?_); (case side1 => exact dq4); rintro e w10 ⟨rfl, hb⟩; have n0_ := Aside0.mk (blk_below (g := gb340) (o := .cells #[.int .i64 a0_0, .string a0_1, .string a0_2, .slice A0_3 l0_3.length c0_3] 65 (0, 0)) dq58 hb); have n1_ := Aside0.mk (below_step dq57 hb); clear BK340; clear HB; have BK340 := n0_; have HB := n1_; clear n0_ n1_; (try clear hb); (try clear hb2); (try clear hk); (try clear hi); obtain ⟨⟨hcz11_0, hcz11_1, hcz11_2, hcz11_3⟩, hfz11_0, hfz11_1, hfz11_2, hfz11_3⟩ := blkC4 BK340.out))
  go_ret
  exact ⟨dq27, dq57⟩
 rw [if_neg c2] at H
 have c2b0 := beq_eq_false_iff_ne.mpr c2
 have c2b1 := bne_iff_ne.mpr c2
 have HC15 := Aside0.mk H
 clear H
 go_enter Tryz.func104, Tryz.ntmps104
 go_upto_region 3 with (first | ((with_reducible refine gate_dst (N := 1) rfl ?_); (try (refine gate_guard (by rfl) ?_; dsimp only)); refine box_event ?hg (N := 1) ?hd (cs := #[.int .i64 a0_0, .string a0_1, .string a0_2, .slice A0_3 l0_3.length c0_3]) (t := 65) ?hr ?_; (case hd => rfl); (case hg => rfl); (case hr => exact dq0); intro gb340 hg w16 hbox hb; have n0_ := Aside0.mk (below_step dq25 hb); have n1_ := Aside0.mk (hbox); have n2_ := Aside0.mk ((dq32 : w.heap.size ≤ gb340)); have n3_ := Aside0.mk ((dq32 : w.heap.size ≤ gb340)); clear HB; have HB := n0_; have BK340 := n1_; have GW340 := n2_; have GE340 := n3_; clear n0_ n1_ n2_ n3_; clear hb hbox hg; obtain ⟨⟨hcz17_0, hcz17_1, hcz17_2, hcz17_3⟩, hfz17_0, hfz17_1, hfz17_2, hfz17_3⟩ := blkC4 BK340.out))
 (try simp only [Act.put, List.setIfInBounds_toArray, List.set_cons_zero, List.set_cons_succ])
 go_cut [38] (fun v38 wc => ∃ (kq : Nat) (x38_14 : Bool), v38 = .bool x38_14 ∧ Aside0 (impl_Item_isGood.j0 kq x38_14 a0_0 a0_1 a0_2 l0_3 = some r) ∧ Aside0 (kq ≤ k) ∧ Aside0 (wc.heap[gb340]? = some (.cells #[.int .i64 a0_0, .string a0_1, .string a0_2, (.slice A0_3 l0_3.length c0_3)] 65 (0, 0))) ∧ Aside0 (Below w.heap.size w wc))
 case first =>
  have H := HC15.out
  clear HC15
  replace H := Option.bind_eq_some_iff.mp H
  obtain ⟨t342, A180, H⟩ := H
  replace H : (if t342 = true then (if a0_2.toList = ([] : List UInt8) then (impl_Item_isGood.j0 k (decide ((l0_3.length : Int) > 10)) a0_0 a0_1 a0_2 l0_3) else (impl_Item_isGood.j0 k true a0_0 a0_1 a0_2 l0_3)) else (impl_Item_isGood.j0 k true a0_0 a0_1 a0_2 l0_3)) = some r := H
  have A18 := Aside0.mk A180
  clear A180
  by_cases c19 : t342 = true
  rotate_left
  ·replace c19 := Bool.eq_false_iff.mpr c19
   subst c19
   have H1 : (impl_Item_isGood.j0 k true a0_0 a0_1 a0_2 l0_3) = some r := by rw [if_neg (show ¬ (false = true) by decide)] at H; exact H
   clear H
   have H := H1
   clear H1
   have H' := Aside0.mk H
   clear H
   obtain ⟨⟨hcz27_0, hcz27_1, hcz27_2, hcz27_3⟩, hfz27_0, hfz27_1, hfz27_2, hfz27_3⟩ := blkC4 BK340.out
   go_wp2_with (first | ((with_reducible refine gate_callee (f := 142) rfl ?_); refine goesL_ (some 26) rfl rfl Tryz.func142 dq22 rfl #[.string a0_1] rfl dq21 ?_; (with_reducible refine (impl_isQualified.calls k a0_1 false _ A18.out).mono ?_); rintro e w28 ⟨rfl, hb⟩; refine ⟨_, rfl, ?_⟩; have n0_ := Aside0.mk (blk_below (g := gb340) (o := .cells #[.int .i64 a0_0, .string a0_1, .string a0_2, .slice A0_3 l0_3.length c0_3] 65 (0, 0)) dq58 hb); have n1_ := Aside0.mk (below_step dq57 hb); clear BK340; clear HB; have BK340 := n0_; have HB := n1_; clear n0_ n1_; (try clear hb); (try clear hb2); (try clear hk); (try clear hi)))
   go_meet
   case rel => exact ⟨_, (true), dq17, H', ⟨dq24⟩, ⟨dq58⟩, ⟨dq57⟩⟩
  subst c19
  have H1 : (if a0_2.toList = ([] : List UInt8) then (impl_Item_isGood.j0 k (decide ((l0_3.length : Int) > 10)) a0_0 a0_1 a0_2 l0_3) else (impl_Item_isGood.j0 k true a0_0 a0_1 a0_2 l0_3)) = some r := by rw [if_pos rfl] at H; exact H
  clear H
  have H := H1
  clear H1
  by_cases c20 : a0_2.toList = ([] : List UInt8)
  rotate_left
  ·rw [if_neg c20] at H
   have c20b0 := beq_eq_false_iff_ne.mpr c20
   have c20b1 := bne_iff_ne.mpr c20
   (first | rw [c20b0] | (simp only [i64_w, i32_w]; rw [c20b0]) | skip)
   have H' := Aside0.mk H
   clear H
   obtain ⟨⟨hcz24_0, hcz24_1, hcz24_2, hcz24_3⟩, hfz24_0, hfz24_1, hfz24_2, hfz24_3⟩ := blkC4 BK340.out
   go_wp2_with (first | ((with_reducible refine gate_callee (f := 142) rfl ?_); refine goesL_ (some 26) rfl rfl Tryz.func142 dq22 rfl #[.string a0_1] rfl dq21 ?_; (with_reducible refine (impl_isQualified.calls k a0_1 true _ A18.out).mono ?_); rintro e w25 ⟨rfl, hb⟩; refine ⟨_, rfl, ?_⟩; have n0_ := Aside0.mk (blk_below (g := gb340) (o := .cells #[.int .i64 a0_0, .string a0_1, .string a0_2, .slice A0_3 l0_3.length c0_3] 65 (0, 0)) dq58 hb); have n1_ := Aside0.mk (below_step dq57 hb); clear BK340; clear HB; have BK340 := n0_; have HB := n1_; clear n0_ n1_; (try clear hb); (try clear hb2); (try clear hk); (try clear hi); obtain ⟨⟨hcz26_0, hcz26_1, hcz26_2, hcz26_3⟩, hfz26_0, hfz26_1, hfz26_2, hfz26_3⟩ := blkC4 BK340.out))
   go_meet
   case rel => exact ⟨_, (true), dq17, H', ⟨dq24⟩, ⟨dq58⟩, ⟨dq57⟩⟩
  rw [if_pos c20] at H
  have c20b0 := beq_iff_eq.mpr c20
  have c20b1 := bne_eq_false_iff_eq.mpr c20
  clear c20
  (first | rw [c20b0] | (simp only [i64_w, i32_w]; rw [c20b0]) | skip)
  have H' := Aside0.mk H
  clear H
  obtain ⟨⟨hcz21_0, hcz21_1, hcz21_2, hcz21_3⟩, hfz21_0, hfz21_1, hfz21_2, hfz21_3⟩ := blkC4 BK340.out
  go_wp2_with (first | ((with_reducible refine gate_callee (f := 142) rfl ?_); refine goesL_ (some 26) rfl rfl Tryz.func142 dq22 rfl #[.string a0_1] rfl dq21 ?_; (with_reducible refine (impl_isQualified.calls k a0_1 true _ A18.out).mono ?_); rintro e w22 ⟨rfl, hb⟩; refine ⟨_, rfl, ?_⟩; have n0_ := Aside0.mk (blk_below (g := gb340) (o := .cells #[.int .i64 a0_0, .string a0_1, .string a0_2, .slice A0_3 l0_3.length c0_3] 65 (0, 0)) dq58 hb); have n1_ := Aside0.mk (below_step dq57 hb); clear BK340; clear HB; have BK340 := n0_; have HB := n1_; clear n0_ n1_; (try clear hb); (try clear hb2); (try clear hk); (try clear hi); obtain ⟨⟨hcz23_0, hcz23_1, hcz23_2, hcz23_3⟩, hfz23_0, hfz23_1, hfz23_2, hfz23_3⟩ := blkC4 BK340.out))
  go_meet
  case rel => exact ⟨_, (decide ((l0_3.length : Int) > 10)), dq17, H', ⟨dq24⟩, ⟨dq58⟩, ⟨dq57⟩⟩
 clear HC15
 try clear c2
 try clear c2b0
 try clear c2b1
 try clear hcz17_0
 try clear hcz17_1
 try clear hcz17_2
 try clear hcz17_3
 try clear hfz17_0
 try clear hfz17_1
 try clear hfz17_2
 try clear hfz17_3
 obtain ⟨kq, x38_14, rfl, HA, HJ14, BK340, HB⟩ := hcut
 cases kq with
 | zero => exact absurd HA.out (by simp [impl_Item_isGood.j0])
 | succ kj14 =>
  have H := HA.out
  clear HA
  simp only [impl_Item_isGood.j0] at H
  by_cases c29 : x38_14 = true
  ·subst c29
   have H1 : (some false) = some r := by rw [if_pos rfl] at H; exact H
   clear H
   have H := H1
   clear H1
   obtain rfl := Option.some.inj H
   go_wp2
   go_ret
   exact ⟨dq27, dq57⟩
  replace c29 := Bool.eq_false_iff.mpr c29
  subst c29
  have H1 : (impl_Item_isGood.l0 kj14 l0_3 (l0_3.length : Int) 0 a0_0 a0_1 a0_2 l0_3) = some r := by rw [if_neg (show ¬ (false = true) by decide)] at H; exact H
  clear H
  have H := H1
  clear H1
  have H' := Aside0.mk H
  clear H
  obtain ⟨⟨hcz30_0, hcz30_1, hcz30_2, hcz30_3⟩, hfz30_0, hfz30_1, hfz30_2, hfz30_3⟩ := blkC4 BK340.out
  go_wp2
  go_loopg [42] kj14 (fun kq v42 w' => ∃ (x42_2 : Int), v42 = .int .i64 x42_2 ∧ Aside0 (impl_Item_isGood.l0 kq l0_3 (l0_3.length : Int) x42_2 a0_0 a0_1 a0_2 l0_3 = some r) ∧ Aside0 (kq ≤ kj14) ∧ Aside0 (w'.heap[gb340]? = some (.cells #[.int .i64 a0_0, .string a0_1, .string a0_2, (.slice A0_3 l0_3.length c0_3)] 65 (0, 0))) ∧ Aside0 (Below w.heap.size w w'))
  case atStart => exact ⟨(0), dq17, H', ⟨Nat.le_refl _⟩, ⟨dq58⟩, ⟨dq57⟩⟩
  clear H'
  try clear hcz30_0
  try clear hcz30_1
  try clear hcz30_2
  try clear hcz30_3
  try clear hfz30_0
  try clear hfz30_1
  try clear hfz30_2
  try clear hfz30_3
  obtain ⟨x42_2, rfl, HA, HK2, BK340, HB⟩ := hrel
  cases gk with
  | zero => exact absurd HA.out (by simp [impl_Item_isGood.l0])
  | succ k2 =>
   have H := HA.out
   clear HA
   simp only [impl_Item_isGood.l0] at H
   by_cases c31 : x42_2 < (l0_3.length : Int)
   rotate_left
   ·rw [if_neg c31] at H
    have c31b0 := decide_eq_false c31
    clear c31
    obtain rfl := Option.some.inj H
    go_wp2
    go_ret
    exact ⟨dq27, dq57⟩
   rw [if_pos c31] at H
   have c31b0 := decide_eq_true c31
   clear c31
   by_cases c32 : 0 ≤ x42_2
   rotate_left
   ·rw [if_neg c32] at H
    exact absurd H dq20
   rw [if_pos c32] at H
   have c32b0 := decide_eq_true c32
   clear c32
   by_cases c33 : x42_2 < (l0_3.length : Int)
   rotate_left
   ·rw [if_neg c33] at H
    exact absurd H dq20
   rw [if_pos c33] at H
   have c33b0 := decide_eq_true c33
   clear c33
   have HC34 := Aside0.mk H
   clear H
   have p343 : 0 ≤ (x42_2 : Int) := of_decide_eq_true dq18
   have q343 : x42_2 < (l0_3.length : Int) := of_decide_eq_true dq18
   obtain ⟨ad343, e343, hx343_0, hx343_1⟩ := at_T67 HR0_3.out x42_2 p343 q343
   cases e343
   replace hx343_0 := (HB.out.cell (World.block_lt_of_cell? w _ hx343_0)).trans hx343_0
   replace hx343_1 := (HB.out.cell (World.block_lt_of_cell? w _ hx343_1)).trans hx343_1
   replace p343 := eq_true p343
   replace q343 := eq_true q343
   go_upto_region 8 with (first | ((with_reducible refine gate_dst (N := 4) rfl ?_); (try (refine gate_guard (by rfl) ?_; dsimp only)); refine box_event ?hg (N := 4) ?hd (cs := #[.string (⟨#[]⟩ : ByteArray), .string (⟨#[]⟩ : ByteArray)]) (t := 67) ?hr ?_; (case hd => rfl); (case hg => rfl); (case hr => exact dq0); intro gb344 hg w35 hbox hb; have n0_ := Aside0.mk (blk_below (g := gb340) (o := .cells #[.int .i64 a0_0, .string a0_1, .string a0_2, .slice (some ad343) l0_3.length c0_3] 65 (0, 0)) dq58 hb); have n1_ := Aside0.mk (below_step dq57 hb); have n2_ := Aside0.mk (hbox); have n3_ := Aside0.mk ((dq61 : w.heap.size ≤ gb344)); have n4_ := Aside0.mk ((dq61 : w.heap.size ≤ gb344)); have n5_ := Aside0.mk ((dq60 : gb340 ≠ gb344)); have n6_ := Aside0.mk ((dq59 : gb344 ≠ gb340)); clear BK340; clear HB; have BK340 := n0_; have HB := n1_; have BK344 := n2_; have GW344 := n3_; have GE344 := n4_; have NB340_344 := n5_; have NB344_340 := n6_; clear n0_ n1_ n2_ n3_ n4_ n5_ n6_; clear hb hbox hg; have hnb36 := NB344_340.out; have hnc36 := NB340_344.out; obtain ⟨⟨hcz37_0, hcz37_1⟩, hfz37_0, hfz37_1⟩ := blkC2 BK344.out))
   (try simp only [Act.put, List.setIfInBounds_toArray, List.set_cons_zero, List.set_cons_succ])
   go_cut [56] (fun v56 wc => ∃ (kq : Nat) (x56_33 : Bool), v56 = .bool x56_33 ∧ Aside0 (impl_Item_isGood.j2 kq x42_2 l0_3 (l0_3.length : Int) x42_2 x56_33 a0_0 a0_1 a0_2 l0_3 ((rd_T67 l0_3 x42_2).f0) ((rd_T67 l0_3 x42_2).f1) = some r) ∧ Aside0 (kq ≤ k2) ∧ Aside0 (wc.heap[gb340]? = some (.cells #[.int .i64 a0_0, .string a0_1, .string a0_2, (.slice (some ad343) l0_3.length c0_3)] 65 (0, 0))) ∧ Aside0 (wc.heap[gb344]? = some (.cells #[.string ((rd_T67 l0_3 x42_2).f0), .string ((rd_T67 l0_3 x42_2).f1)] 67 (0, 0))) ∧ Aside0 (Below w.heap.size w wc))
   case first =>
    have H := HC34.out
    clear HC34
    replace H := Option.bind_eq_some_iff.mp H
    obtain ⟨t345, A380, H⟩ := H
    replace H : (if t345 = true then ((impl_isPlain.f k2 ((rd_T67 l0_3 x42_2).f1)).bind fun t346 => (impl_Item_isGood.j2 k2 x42_2 l0_3 (l0_3.length : Int) x42_2 (!t346) a0_0 a0_1 a0_2 l0_3 ((rd_T67 l0_3 x42_2).f0) ((rd_T67 l0_3 x42_2).f1))) else (impl_Item_isGood.j2 k2 x42_2 l0_3 (l0_3.length : Int) x42_2 true a0_0 a0_1 a0_2 l0_3 ((rd_T67 l0_3 x42_2).f0) ((rd_T67 l0_3 x42_2).f1))) = some r := H
    have A38 := Aside0.mk A380
    clear A380
    by_cases c39 : t345 = true
    rotate_left
    ·replace c39 := Bool.eq_false_iff.mpr c39
     subst c39
     have H1 : (impl_Item_isGood.j2 k2 x42_2 l0_3 (l0_3.length : Int) x42_2 true a0_0 a0_1 a0_2 l0_3 ((rd_T67 l0_3 x42_2).f0) ((rd_T67 l0_3 x42_2).f1)) = some r := by rw [if_neg (show ¬ (false = true) by decide)] at H; exact H
     clear H
     have H := H1
     clear H1
     have H' := Aside0.mk H
     clear H
     have hnb46 := NB344_340.out
     have hnc46 := NB340_344.out
     obtain ⟨⟨hcz47_0, hcz47_1⟩, hfz47_0, hfz47_1⟩ := blkC2 BK344.out
     go_wp2_with (first | ((with_reducible refine gate_callee (f := 142) rfl ?_); refine goesL_ (some 49) rfl rfl Tryz.func142 dq22 rfl #[.string ((rd_T67 l0_3 x42_2).f0)] rfl dq21 ?_; (with_reducible refine (impl_isQualified.calls k2 ((rd_T67 l0_3 x42_2).f0) false _ A38.out).mono ?_); rintro e w48 ⟨rfl, hb⟩; refine ⟨_, rfl, ?_⟩; have n0_ := Aside0.mk (blk_below (g := gb340) (o := .cells #[.int .i64 a0_0, .string a0_1, .string a0_2, .slice (some ad343) l0_3.length c0_3] 65 (0, 0)) dq65 hb); have n1_ := Aside0.mk (blk_below (g := gb344) (o := .cells #[.string ((rd_T67 l0_3 x42_2).f0), .string ((rd_T67 l0_3 x42_2).f1)] 67 (0, 0)) dq64 hb); have n2_ := Aside0.mk (below_step dq62 hb); clear BK340; clear BK344; clear HB; have BK340 := n0_; have BK344 := n1_; have HB := n2_; clear n0_ n1_ n2_; (try clear hb); (try clear hb2); (try clear hk); (try clear hi)))
     go_meet
     case rel => exact ⟨_, (true), dq17, H', ⟨by have := HJ14.out; have := HK2.out; first | omega | exact Nat.le_refl _⟩, ⟨dq58⟩, ⟨dq63⟩, ⟨dq62⟩⟩
    subst c39
    have H1 : ((impl_isPlain.f k2 ((rd_T67 l0_3 x42_2).f1)).bind fun t346 => (impl_Item_isGood.j2 k2 x42_2 l0_3 (l0_3.length : Int) x42_2 (!t346) a0_0 a0_1 a0_2 l0_3 ((rd_T67 l0_3 x42_2).f0) ((rd_T67 l0_3 x42_2).f1))) = some r := by rw [if_pos rfl] at H; exact H
    clear H
    have H := H1
    clear H1
    replace H := Option.bind_eq_some_iff.mp H
    obtain ⟨t346, A400, H⟩ := H
    replace H : (impl_Item_isGood.j2 k2 x42_2 l0_3 (l0_3.length : Int) x42_2 (!t346) a0_0 a0_1 a0_2 l0_3 ((rd_T67 l0_3 x42_2).f0) ((rd_T67 l0_3 x42_2).f1)) = some r := H
    have A40 := Aside0.mk A400
    clear A400
    have H' := Aside0.mk H
    clear H
    have hnb41 := NB344_340.out
    have hnc41 := NB340_344.out
    obtain ⟨⟨hcz42_0, hcz42_1⟩, hfz42_0, hfz42_1⟩ := blkC2 BK344.out
    go_wp2_with (first | ((with_reducible refine gate_callee (f := 142) rfl ?_); refine goesL_ (some 49) rfl rfl Tryz.func142 dq22 rfl #[.string ((rd_T67 l0_3 x42_2).f0)] rfl dq21 ?_; (with_reducible refine (impl_isQualified.calls k2 ((rd_T67 l0_3 x42_2).f0) true _ A38.out).mono ?_); rintro e w43 ⟨rfl, hb⟩; refine ⟨_, rfl, ?_⟩; have n0_ := Aside0.mk (blk_below (g := gb340) (o := .cells #[.int .i64 a0_0, .string a0_1, .string a0_2, .slice (some ad343) l0_3.length c0_3] 65 (0, 0)) dq65 hb); have n1_ := Aside0.mk (blk_below (g := gb344) (o := .cells #[.string ((rd_T67 l0_3 x42_2).f0), .string ((rd_T67 l0_3 x42_2).f1)] 67 (0, 0)) dq64 hb); have n2_ := Aside0.mk (below_step dq62 hb); clear BK340; clear BK344; clear HB; have BK340 := n0_; have BK344 := n1_; have HB := n2_; clear n0_ n1_ n2_; (try clear hb); (try clear hb2); (try clear hk); (try clear hi); obtain ⟨⟨hcz44_0, hcz44_1⟩, hfz44_0, hfz44_1⟩ := blkC2 BK344.out) | (go_at_call 141; (with_reducible refine (impl_isPlain.calls k2 ((rd_T67 l0_3 x42_2).f1) t346 _ ?side1 A40.out).mono ?_); (case side1 => exact Gl_below HT.out dq62); rintro e w45 ⟨rfl, hb⟩; have n0_ := Aside0.mk (blk_below (g := gb340) (o := .cells #[.int .i64 a0_0, .string a0_1, .string a0_2, .slice (some ad343) l0_3.length c0_3] 65 (0, 0)) dq58 hb); have n1_ := Aside0.mk (blk_below (g := gb344) (o := .cells #[.string ((rd_T67 l0_3 x42_2).f0), .string ((rd_T67 l0_3 x42_2).f1)] 67 (0, 0)) dq63 hb); have n2_ := Aside0.mk (below_step dq62 hb); clear BK340; clear BK344; clear HB; have BK340 := n0_; have BK344 := n1_; have HB := n2_; clear n0_ n1_ n2_; (try clear hb); (try clear hb2); (try clear hk); (try clear hi)))
    go_meet
    case rel => exact ⟨_, (!t346), dq17, H', ⟨by have := HJ14.out; have := HK2.out; first | omega | exact Nat.le_refl _⟩, ⟨dq58⟩, ⟨dq63⟩, ⟨dq62⟩⟩
   clear HC34
   try clear c31b0
   try clear c32b0
   try clear c33b0
   try clear hcz37_0
   try clear hcz37_1
   try clear hfz37_0
   try clear hfz37_1
   try clear hx343_0
   try clear hx343_1
   try clear p343
   try clear q343
   obtain ⟨kq, x56_33, rfl, HA, HJ33, BK340, BK344, HB⟩ := hcut
   cases kq with
   | zero => exact absurd HA.out (by simp [impl_Item_isGood.j2])
   | succ kj33 =>
    have H := HA.out
    clear HA
    simp only [impl_Item_isGood.j2] at H
    by_cases c49 : x56_33 = true
    ·subst c49
     have H1 : (some false) = some r := by rw [if_pos rfl] at H; exact H
     clear H
     have H := H1
     clear H1
     obtain rfl := Option.some.inj H
     go_wp2
     go_ret
     exact ⟨dq27, dq62⟩
    replace c49 := Bool.eq_false_iff.mpr c49
    subst c49
    have H1 : (if 0 ≤ x42_2 then (if x42_2 ≤ (l0_3.length : Int) then ((some (l0_3.take (x42_2 : Int).toNat : List (S67))).bind fun y347 => (impl_Item_isGood.l1 kj33 l0_3 (l0_3.length : Int) x42_2 y347 (y347.length : Int) 0 a0_0 a0_1 a0_2 l0_3 ((rd_T67 l0_3 x42_2).f0) ((rd_T67 l0_3 x42_2).f1))) else (none)) else (none)) = some r := by rw [if_neg (show ¬ (false = true) by decide)] at H; exact H
    clear H
    have H := H1
    clear H1
    by_cases c50 : 0 ≤ x42_2
    rotate_left
    ·rw [if_neg c50] at H
     exact absurd H dq20
    rw [if_pos c50] at H
    have c50b0 := eq_true c50
    have c50b1 := decide_eq_true c50
    clear c50
    by_cases c51 : x42_2 ≤ (l0_3.length : Int)
    rotate_left
    ·rw [if_neg c51] at H
     exact absurd H dq20
    rw [if_pos c51] at H
    have c51b0 := eq_true c51
    have c51b1 := decide_eq_true c51
    clear c51
    obtain ⟨y347, hy347⟩ : ∃ y_ : List (S67), y_ = (l0_3.take (x42_2 : Int).toNat) := ⟨_, rfl⟩
    replace H : (impl_Item_isGood.l1 kj33 l0_3 (l0_3.length : Int) x42_2 y347 (y347.length : Int) 0 a0_0 a0_1 a0_2 l0_3 ((rd_T67 l0_3 x42_2).f0) ((rd_T67 l0_3 x42_2).f1)) = some r := by first | (rw [hy347]; with_reducible exact H) | (have H2_ := (Option.bind_some _ _).symm.trans H; rw [hy347]; with_reducible exact H2_) | (have H2_ := (Option.bind_some _ _).symm.trans H; with_reducible exact H2_) | with_reducible exact H | (rw [hy347]; exact H) | exact H
    have Ny347 := Aside0.mk hy347
    clear hy347
    have H' := Aside0.mk H
    clear H
    have hnb52 := NB340_344.out
    have hnc52 := NB344_340.out
    obtain ⟨⟨hcz53_0, hcz53_1, hcz53_2, hcz53_3⟩, hfz53_0, hfz53_1, hfz53_2, hfz53_3⟩ := blkC4 BK340.out
    have q54 : (x42_2 : Int) ≤ ((l0_3.length : Int) : Int) := of_decide_eq_true dq18
    obtain ⟨i054, hi054, _, hsz54, _⟩ := info_parts info67
    have hroom54 : l0_3.length ≤ c0_3 := HC0_3.out
    have hC54 : Kd.C k67 _ (some ad343) l0_3.length l0_3 := HR0_3.out
    have hcut54 := cut_to (P := Tryz.prog) 63 67 .i64 Tryz.underlying63 hi054 (some ad343) l0_3.length c0_3 x42_2 (of_decide_eq_true dq18) q54 hroom54
    have hr54 := Kd.C_take (m := (x42_2 : Int).toNat) hC54 dq23
    have hy54 : y347.length = (x42_2 : Int).toNat := (by rw [Ny347.out, List.length_take]; omega)
    rw [← Ny347.out] at hr54
    rw [← hy54] at hcut54
    have HR350 := Aside0.mk hr54
    have HC350 := Aside0.mk (show y347.length ≤ c0_3 from by omega)
    clear hr54 hC54 hroom54 hi054 hsz54
    have KY54 := Aside0.mk hy54
    clear hy54
    replace q54 := eq_true q54
    go_wp2
    go_loopg [62] kj33 (fun kq v62 w' => ∃ (x62_4 : Int), v62 = .int .i64 x62_4 ∧ Aside0 (impl_Item_isGood.l1 kq l0_3 (l0_3.length : Int) x42_2 y347 (y347.length : Int) x62_4 a0_0 a0_1 a0_2 l0_3 ((rd_T67 l0_3 x42_2).f0) ((rd_T67 l0_3 x42_2).f1) = some r) ∧ Aside0 (kq ≤ kj33) ∧ Aside0 (w'.heap[gb340]? = some (.cells #[.int .i64 a0_0, .string a0_1, .string a0_2, (.slice (some ad343) l0_3.length c0_3)] 65 (0, 0))) ∧ Aside0 (w'.heap[gb344]? = some (.cells #[.string ((rd_T67 l0_3 x42_2).f0), .string ((rd_T67 l0_3 x42_2).f1)] 67 (0, 0))) ∧ Aside0 (Below w.heap.size w w'))
    case atStart => exact ⟨(0), dq17, H', ⟨Nat.le_refl _⟩, ⟨dq58⟩, ⟨dq63⟩, ⟨dq62⟩⟩
    clear H'
    try clear c50b0
    try clear c50b1
    try clear c51b0
    try clear c51b1
    try clear q54
    try clear hcz53_0
    try clear hcz53_1
    try clear hcz53_2
    try clear hcz53_3
    try clear hfz53_0
    try clear hfz53_1
    try clear hfz53_2
    try clear hfz53_3
    obtain ⟨x62_4, rfl, HA, HK4, BK340, BK344, HB⟩ := hrel
    cases gk with
    | zero => exact absurd HA.out (by simp [impl_Item_isGood.l1])
    | succ k4 =>
     have H := HA.out
     clear HA
     simp only [impl_Item_isGood.l1] at H
     by_cases c55 : x62_4 < (y347.length : Int)
     rotate_left
     ·rw [if_neg c55] at H
      have c55b0 := decide_eq_false c55
      clear c55
      have H' := Aside0.mk H
      clear H
      go_wp2
      go_roundg k4
      case measure => have := HJ14.out; have := HK2.out; have := HJ33.out; have := HK4.out; omega
      case rel => exact ⟨(wrap64 (x42_2 + 1)), dq17, H', ⟨by have := HJ14.out; have := HK2.out; have := HJ33.out; have := HK4.out; omega⟩, ⟨dq58⟩, ⟨dq62⟩⟩
     rw [if_pos c55] at H
     have c55b0 := decide_eq_true c55
     clear c55
     by_cases c56 : 0 ≤ x62_4
     rotate_left
     ·rw [if_neg c56] at H
      exact absurd H dq20
     rw [if_pos c56] at H
     have c56b0 := decide_eq_true c56
     clear c56
     by_cases c57 : x62_4 < (y347.length : Int)
     rotate_left
     ·rw [if_neg c57] at H
      exact absurd H dq20
     rw [if_pos c57] at H
     have c57b0 := decide_eq_true c57
     clear c57
     by_cases c58 : ((rd_T67 l0_3 x42_2).f0).toList = ((rd_T67 y347 x62_4).f0).toList
     ·rw [if_pos c58] at H
      have c58b0 := beq_iff_eq.mpr c58
      have c58b1 := bne_eq_false_iff_eq.mpr c58
      clear c58
      obtain rfl := Option.some.inj H
      have p351 : 0 ≤ (x62_4 : Int) := of_decide_eq_true dq18
      have q351 : x62_4 < (y347.length : Int) := of_decide_eq_true dq18
      obtain ⟨ad351, e351, hx351_0, hx351_1⟩ := at_T67 HR350.out x62_4 p351 q351
      obtain rfl : ad343 = ad351 := (by injection e351)
      replace hx351_0 := (HB.out.cell (World.block_lt_of_cell? w _ hx351_0)).trans hx351_0
      replace hx351_1 := (HB.out.cell (World.block_lt_of_cell? w _ hx351_1)).trans hx351_1
      replace p351 := eq_true p351
      replace q351 := eq_true q351
      go_wp2_with (first | ((with_reducible refine gate_dst (N := 6) rfl ?_); (try (refine gate_guard (by rfl) ?_; dsimp only)); refine box_event ?hg (N := 6) ?hd (cs := #[.string (⟨#[]⟩ : ByteArray), .string (⟨#[]⟩ : ByteArray)]) (t := 67) ?hr ?_; (case hd => rfl); (case hg => rfl); (case hr => exact dq0); intro gb352 hg w59 hbox hb; have n0_ := Aside0.mk (blk_below (g := gb340) (o := .cells #[.int .i64 a0_0, .string a0_1, .string a0_2, .slice (some ad343) l0_3.length c0_3] 65 (0, 0)) dq58 hb); have n1_ := Aside0.mk (blk_below (g := gb344) (o := .cells #[.string ((rd_T67 l0_3 x42_2).f0), .string ((rd_T67 l0_3 x42_2).f1)] 67 (0, 0)) dq63 hb); have n2_ := Aside0.mk (below_step dq62 hb); have n3_ := Aside0.mk (hbox); have n4_ := Aside0.mk ((dq68 : w.heap.size ≤ gb352)); have n5_ := Aside0.mk ((dq68 : w.heap.size ≤ gb352)); have n6_ := Aside0.mk ((dq60 : gb340 ≠ gb352)); have n7_ := Aside0.mk ((dq59 : gb352 ≠ gb340)); have n8_ := Aside0.mk ((dq67 : gb344 ≠ gb352)); have n9_ := Aside0.mk ((dq66 : gb352 ≠ gb344)); clear BK340; clear BK344; clear HB; have BK340 := n0_; have BK344 := n1_; have HB := n2_; have BK352 := n3_; have GW352 := n4_; have GE352 := n5_; have NB340_352 := n6_; have NB352_340 := n7_; have NB344_352 := n8_; have NB352_344 := n9_; clear n0_ n1_ n2_ n3_ n4_ n5_ n6_ n7_ n8_ n9_; clear hb hbox hg; have hnb60 := NB352_340.out; have hnc60 := NB340_352.out; have hnb61 := NB352_344.out; have hnc61 := NB344_352.out; obtain ⟨⟨hcz62_0, hcz62_1⟩, hfz62_0, hfz62_1⟩ := blkC2 BK352.out; have hnb63 := NB344_340.out; have hnc63 := NB340_344.out; obtain ⟨⟨hcz64_0, hcz64_1⟩, hfz64_0, hfz64_1⟩ := blkC2 BK344.out))
      go_ret
      exact ⟨dq27, dq69⟩
     rw [if_neg c58] at H
     have c58b0 := beq_eq_false_iff_ne.mpr c58
     have c58b1 := bne_iff_ne.mpr c58
     have H' := Aside0.mk H
     clear H
     have p351 : 0 ≤ (x62_4 : Int) := of_decide_eq_true dq18
     have q351 : x62_4 < (y347.length : Int) := of_decide_eq_true dq18
     obtain ⟨ad351, e351, hx351_0, hx351_1⟩ := at_T67 HR350.out x62_4 p351 q351
     obtain rfl : ad343 = ad351 := (by injection e351)
     replace hx351_0 := (HB.out.cell (World.block_lt_of_cell? w _ hx351_0)).trans hx351_0
     replace hx351_1 := (HB.out.cell (World.block_lt_of_cell? w _ hx351_1)).trans hx351_1
     replace p351 := eq_true p351
     replace q351 := eq_true q351
     go_wp2_with (first | ((with_reducible refine gate_dst (N := 6) rfl ?_); (try (refine gate_guard (by rfl) ?_; dsimp only)); refine box_event ?hg (N := 6) ?hd (cs := #[.string (⟨#[]⟩ : ByteArray), .string (⟨#[]⟩ : ByteArray)]) (t := 67) ?hr ?_; (case hd => rfl); (case hg => rfl); (case hr => exact dq0); intro gb352 hg w65 hbox hb; have n0_ := Aside0.mk (blk_below (g := gb340) (o := .cells #[.int .i64 a0_0, .string a0_1, .string a0_2, .slice (some ad343) l0_3.length c0_3] 65 (0, 0)) dq58 hb); have n1_ := Aside0.mk (blk_below (g := gb344) (o := .cells #[.string ((rd_T67 l0_3 x42_2).f0), .string ((rd_T67 l0_3 x42_2).f1)] 67 (0, 0)) dq63 hb); have n2_ := Aside0.mk (below_step dq62 hb); have n3_ := Aside0.mk (hbox); have n4_ := Aside0.mk ((dq68 : w.heap.size ≤ gb352)); have n5_ := Aside0.mk ((dq68 : w.heap.size ≤ gb352)); have n6_ := Aside0.mk ((dq60 : gb340 ≠ gb352)); have n7_ := Aside0.mk ((dq59 : gb352 ≠ gb340)); have n8_ := Aside0.mk ((dq67 : gb344 ≠ gb352)); have n9_ := Aside0.mk ((dq66 : gb352 ≠ gb344)); clear BK340; clear BK344; clear HB; have BK340 := n0_; have BK344 := n1_; have HB := n2_; have BK352 := n3_; have GW352 := n4_; have GE352 := n5_; have NB340_352 := n6_; have NB352_340 := n7_; have NB344_352 := n8_; have NB352_344 := n9_; clear n0_ n1_ n2_ n3_ n4_ n5_ n6_ n7_ n8_ n9_; clear hb hbox hg; have hnb66 := NB352_340.out; have hnc66 := NB340_352.out; have hnb67 := NB352_344.out; have hnc67 := NB344_352.out; obtain ⟨⟨hcz68_0, hcz68_1⟩, hfz68_0, hfz68_1⟩ := blkC2 BK352.out; have hnb69 := NB344_340.out; have hnc69 := NB340_344.out; obtain ⟨⟨hcz70_0, hcz70_1⟩, hfz70_0, hfz70_1⟩ := blkC2 BK344.out))
     go_roundg k4
     case measure => have := HJ14.out; have := HK2.out; have := HJ33.out; have := HK4.out; omega
     case rel => exact ⟨(wrap64 (x62_4 + 1)), dq17, H', ⟨by have := HJ14.out; have := HK2.out; have := HJ33.out; have := HK4.out; omega⟩, ⟨by refine blk_up ?_; refine blk_far ?_ NB340_352.out _; refine blk_up ?_; refine blk_far ?_ NB340_352.out _; refine blk_up ?_; exact BK340.out⟩, ⟨by refine blk_up ?_; refine blk_far ?_ NB344_352.out _; refine blk_up ?_; refine blk_far ?_ NB344_352.out _; refine blk_up ?_; exact BK344.out⟩, ⟨dq69⟩⟩

/-! ### impl_Item_bytes: function 105 -/
def impl_Item_bytes.l0 : Nat → Int → List (S67) → Int → Int → Option (Int)
 | 0, _, _, _, _ => none
 | k + 1, x3, x14, x15, x16 => if x16 < x15 then (if 0 ≤ x16 then (if x16 < (x14.length : Int) then (impl_Item_bytes.l0 k (wrap64 (x3 + (wrap64 ((((rd_T67 x14 x16).f0).size : Int) + (((rd_T67 x14 x16).f1).size : Int))))) x14 x15 (wrap64 (x16 + 1))) else (none)) else (none)) else (some x3)
def impl_Item_bytes.f (k : Nat) (a0_0 : Int) (a0_1 : ByteArray) (a0_2 : ByteArray) (l0_3 : List (S67)) : Option (Int) := impl_Item_bytes.l0 k (wrap64 ((a0_1.size : Int) + (a0_2.size : Int))) l0_3 (l0_3.length : Int) 0
set_option maxHeartbeats 8000000 in
set_option maxRecDepth 100000 in
theorem impl_Item_bytes.calls (k : Nat) (a0_0 : Int) (a0_1 : ByteArray) (a0_2 : ByteArray) (A0_3 : Option Addr) (c0_3 : Nat) (l0_3 : List (S67)) (r : Int) (w : World) (hr0_3 : Kd.C k67 w A0_3 l0_3.length l0_3) (hc0_3 : l0_3.length ≤ c0_3) (h : impl_Item_bytes.f k a0_0 a0_1 a0_2 l0_3 = some r) :
  Calls Tryz.prog 105 #[.agg #[.int .i64 a0_0, .string a0_1, .string a0_2, .slice A0_3 l0_3.length c0_3]] w fun e w' => e = .returned (.int .i64 r) ∧ Below w.heap.size w w' := by
 have hu65 := Tryz.underlying65
 have hu67 := Tryz.underlying67
 have HR0_3 := Aside0.mk hr0_3
 have HC0_3 := Aside0.mk hc0_3
 clear hr0_3 hc0_3
 have HB := Aside0.mk (Below.refl w.heap.size w)
 have H : (impl_Item_bytes.l0 k (wrap64 ((a0_1.size : Int) + (a0_2.size : Int))) l0_3 (l0_3.length : Int) 0) = some r := h
 clear h
 have H' := Aside0.mk H
 clear H
 go_enter Tryz.func105, Tryz.ntmps105
 go_wp2_with (first | ((with_reducible refine gate_dst (N := 1) rfl ?_); refine box_event ?hg (N := 1) ?hd (cs := #[.int .i64 a0_0, .string a0_1, .string a0_2, .slice A0_3 l0_3.length c0_3]) (t := 65) ?hr ?_; (case hd => rfl); (case hg => rfl); (case hr => exact dq0); intro gb353 hg w2 hbox hb; have n0_ := Aside0.mk (below_step dq25 hb); have n1_ := Aside0.mk (hbox); have n2_ := Aside0.mk ((dq32 : w.heap.size ≤ gb353)); have n3_ := Aside0.mk ((dq32 : w.heap.size ≤ gb353)); clear HB; have HB := n0_; have BK353 := n1_; have GW353 := n2_; have GE353 := n3_; clear n0_ n1_ n2_ n3_; clear hb hbox hg; obtain ⟨⟨hcz3_0, hcz3_1, hcz3_2, hcz3_3⟩, hfz3_0, hfz3_1, hfz3_2, hfz3_3⟩ := blkC4 BK353.out))
 go_loopg [3, 16] k (fun kq v3 v16 w' => ∃ (x3_1 : Int) (x16_1 : Int), v3 = .int .i64 x3_1 ∧ v16 = .int .i64 x16_1 ∧ Aside0 (impl_Item_bytes.l0 kq x3_1 l0_3 (l0_3.length : Int) x16_1 = some r) ∧ Aside0 (kq ≤ k) ∧ Aside0 (w'.heap[gb353]? = some (.cells #[.int .i64 a0_0, .string a0_1, .string a0_2, (.slice A0_3 l0_3.length c0_3)] 65 (0, 0))) ∧ Aside0 (Below w.heap.size w w'))
 case atStart => exact ⟨(wrap64 ((a0_1.size : Int) + (a0_2.size : Int))), (0), dq17, dq17, H', ⟨Nat.le_refl _⟩, ⟨by refine blk_up ?_; exact BK353.out⟩, ⟨dq70⟩⟩
 clear H'
 try clear hcz3_0
 try clear hcz3_1
 try clear hcz3_2
 try clear hcz3_3
 try clear hfz3_0
 try clear hfz3_1
 try clear hfz3_2
 try clear hfz3_3
 obtain ⟨x3_1, x16_1, rfl, rfl, HA, HK1, BK353, HB⟩ := hrel
 cases gk with
 | zero => exact absurd HA.out (by simp [impl_Item_bytes.l0])
 | succ k1 =>
  have H := HA.out
  clear HA
  simp only [impl_Item_bytes.l0] at H
  by_cases c4 : x16_1 < (l0_3.length : Int)
  rotate_left
  ·rw [if_neg c4] at H
   have c4b0 := decide_eq_false c4
   clear c4
   obtain rfl := Option.some.inj H
   go_wp2
   go_ret
   exact ⟨dq27, dq70⟩
  rw [if_pos c4] at H
  have c4b0 := decide_eq_true c4
  clear c4
  by_cases c5 : 0 ≤ x16_1
  rotate_left
  ·rw [if_neg c5] at H
   exact absurd H dq20
  rw [if_pos c5] at H
  have c5b0 := decide_eq_true c5
  clear c5
  by_cases c6 : x16_1 < (l0_3.length : Int)
  rotate_left
  ·rw [if_neg c6] at H
   exact absurd H dq20
  rw [if_pos c6] at H
  have c6b0 := decide_eq_true c6
  clear c6
  have H' := Aside0.mk H
  clear H
  have p354 : 0 ≤ (x16_1 : Int) := of_decide_eq_true dq18
  have q354 : x16_1 < (l0_3.length : Int) := of_decide_eq_true dq18
  obtain ⟨ad354, e354, hx354_0, hx354_1⟩ := at_T67 HR0_3.out x16_1 p354 q354
  cases e354
  replace hx354_0 := (HB.out.cell (World.block_lt_of_cell? w _ hx354_0)).trans hx354_0
  replace hx354_1 := (HB.out.cell (World.block_lt_of_cell? w _ hx354_1)).trans hx354_1
  replace p354 := eq_true p354
  replace q354 := eq_true q354
  go_wp2_with (first | ((with_reducible refine gate_dst (N := 5) rfl ?_); refine box_event ?hg (N := 5) ?hd (cs := #[.string (⟨#[]⟩ : ByteArray), .string (⟨#[]⟩ : ByteArray)]) (t := 67) ?hr ?_; (case hd => rfl); (case hg => rfl); (case hr => exact dq0); intro gb355 hg w7 hbox hb; have n0_ := Aside0.mk (blk_below (g := gb353) (o := .cells #[.int .i64 a0_0, .string a0_1, .string a0_2, .slice (some ad354) l0_3.length c0_3] 65 (0, 0)) (by refine blk_up ?_; exact BK353.out) hb); have n1_ := Aside0.mk (below_step dq70 hb); have n2_ := Aside0.mk (hbox); have n3_ := Aside0.mk ((dq71 : w.heap.size ≤ gb355)); have n4_ := Aside0.mk ((dq71 : w.heap.size ≤ gb355)); have n5_ := Aside0.mk ((by rw [hg]; exact Nat.ne_of_lt (blk_lt (g := gb353) (o := .cells #[.int .i64 a0_0, .string a0_1, .string a0_2, .slice (some ad354) l0_3.length c0_3] 65 (0, 0)) (by refine blk_up ?_; exact BK353.out)) : gb353 ≠ gb355)); have n6_ := Aside0.mk ((by rw [hg]; exact Nat.ne_of_gt (blk_lt (g := gb353) (o := .cells #[.int .i64 a0_0, .string a0_1, .string a0_2, .slice (some ad354) l0_3.length c0_3] 65 (0, 0)) (by refine blk_up ?_; exact BK353.out)) : gb355 ≠ gb353)); clear BK353; clear HB; have BK353 := n0_; have HB := n1_; have BK355 := n2_; have GW355 := n3_; have GE355 := n4_; have NB353_355 := n5_; have NB355_353 := n6_; clear n0_ n1_ n2_ n3_ n4_ n5_ n6_; clear hb hbox hg; have hnb8 := NB355_353.out; have hnc8 := NB353_355.out; obtain ⟨⟨hcz9_0, hcz9_1⟩, hfz9_0, hfz9_1⟩ := blkC2 BK355.out))
  go_roundg k1
  case measure => have := HK1.out; omega
  case rel => exact ⟨(wrap64 (x3_1 + (wrap64 ((((rd_T67 l0_3 x16_1).f0).size : Int) + (((rd_T67 l0_3 x16_1).f1).size : Int))))), (wrap64 (x16_1 + 1)), dq17, dq17, H', ⟨dq19⟩, ⟨by refine blk_up ?_; refine blk_far ?_ NB353_355.out _; refine blk_up ?_; refine blk_far ?_ NB353_355.out _; refine blk_up ?_; exact BK353.out⟩, ⟨by repeat (first | (with_reducible first | exact HB.out | apply below_alloc | apply pw_below_drewN | apply below_drew1 | refine below_set ?_ GE353.out | refine below_set ?_ GE355.out) | exact HB.out)⟩⟩

end Go.Proofs.YtpmjpbaeecnpiaaGreatDoor.L
