/- Two right numbers are told the same order by the program and by the reference, in plain Lean. -/
import Derived.Test.YtilmhfkbpnejeaaDoorL23
import Derived.Test.YtilmhfkbpnejeaaDoorPDec
namespace Go.Proofs.YtilmhfkbpnejeaaDoor.Pure
open Go.RowKit Go.Proofs.YtilmhfkbpnejeaaDoor.L Go.Proofs.YtilmhfkbpnejeaaDoorW.PrintWords Go.Proofs.YtilmhfkbpnejeaaDoorW.PrintLast Go.Proofs.YtilmhfkbpnejeaaDoorW.PrintMore
set_option linter.unusedVariables false
set_option linter.unusedSimpArgs false

def lessB (a b : ByteArray) : Bool := Op.bytesLess a.data.toList b.data.toList
def cmpB (a b : ByteArray) : Int := if lessB a b = true then -1 else if lessB b a = true then 1 else 0
theorem cmp_string_f (a b : ByteArray) : cmp_Compare_string.f a b = some (cmpB a b) := by
  unfold cmp_Compare_string.f cmp_isNaN_string.f
  simp only [Option.bind_some, bne_self_eq_false, Bool.false_eq_true, if_false, Lib.toList_data]
  unfold cmpB lessB
  (repeat' split) <;> rfl
theorem cmp_int_f (a b : Int) : cmp_Compare_int64.f a b = some (if a < b then -1 else if a > b then 1 else 0) := by
  unfold cmp_Compare_int64.f cmp_isNaN_int64.f
  have h1 : (a != a) = false := by simp
  have h2 : (b != b) = false := by simp
  simp only [Option.bind_some, h1, h2, Bool.false_eq_true, if_false]
  (repeat' split) <;> rfl
theorem l4Compare_f (n0 : Bool) (s0 : ByteArray) (x0 : Int) (n1 : Bool) (s1 : ByteArray) (x1 : Int) (h0 : s0.size ≤ 60) (h1 : s1.size ≤ 60) (a0 : 0 ≤ x0) (a1 : x0 ≤ 60) (b0 : 0 ≤ x1) (b1 : x1 ≤ 60) :
    Ev (fun k => spec_l4Compare.f k n0 s0 x0 n1 s1 x1)
      (if n0 != n1 then (if n0 then -1 else 1) else if n0 then -(cmpB (lx s0 x0 s1 x1) (ly s0 x0 s1 x1)) else cmpB (lx s0 x0 s1 x1) (ly s0 x0 s1 x1)) := by
  unfold spec_l4Compare.f
  refine Ev.bind (l4Same_f n0 s0 x0 n1 s1 x1 h0 h1 a0 a1 b0 b1) ?_
  have j (z : Int) (hz : z = 1 ∨ z = -1) : Ev (fun k => spec_l4Compare.j0 k (lx s0 x0 s1 x1) (ly s0 x0 s1 x1) z) (z * cmpB (lx s0 x0 s1 x1) (ly s0 x0 s1 x1)) := by
    refine Ev.step (f := fun _ => some (z * cmpB (lx s0 x0 s1 x1) (ly s0 x0 s1 x1))) (fun k => ?_) (Ev.now _)
    simp only [spec_l4Compare.j0, Lib.toList_data]
    have e : wrap64 (-z) = -z := by rw [w64] <;> omega
    rw [e]
    unfold cmpB lessB
    split
    · congr 1; omega
    · split
      · congr 1; omega
      · congr 1; omega
  cases n0 <;> cases n1 <;> simp only [bne_self_eq_false, Bool.false_eq_true, if_false, if_true, Bool.true_bne, Bool.false_bne, Bool.not_false, Bool.not_true]
  · have := j 1 (.inl rfl); rwa [Int.one_mul] at this
  · exact Ev.now _
  · exact Ev.now _
  · have := j (-1) (.inr rfl); rwa [show (-1 : Int) * cmpB (lx s0 x0 s1 x1) (ly s0 x0 s1 x1) = -cmpB (lx s0 x0 s1 x1) (ly s0 x0 s1 x1) by omega] at this

/-! ### nought is below what is above it -/
theorem zeros_less : ∀ (l : List UInt8), (∀ b ∈ l, 48 ≤ b.toNat) → (∃ b ∈ l, b.toNat ≠ 48) → Op.bytesLess (List.replicate l.length 48) l = true ∧ Op.bytesLess l (List.replicate l.length 48) = false
  | [], _, h => by obtain ⟨b, h, _⟩ := h; cases h
  | b :: l, h0, h => by
    have hb := h0 b (by simp)
    rw [List.length_cons, List.replicate_succ]
    simp only [Op.bytesLess]
    by_cases c : b = 48
    · subst c
      have ih := zeros_less l (fun x hx => h0 x (List.mem_cons_of_mem _ hx)) (by
        obtain ⟨x, hx, hne⟩ := h
        rcases List.mem_cons.1 hx with rfl | hx
        · exact absurd rfl hne
        · exact ⟨x, hx, hne⟩)
      have e : ¬ ((48 : UInt8) < 48) := by decide
      simp [ih.1, ih.2, e]
    · have c1 : (48 : UInt8) < b := by
        rw [UInt8.lt_iff_toNat_lt]
        have : b.toNat ≠ 48 := fun e => c (UInt8.toNat.inj (by rw [e]; rfl))
        have e2 : (48 : UInt8).toNat = 48 := rfl
        omega
      have c2 : ¬ (b < 48) := by
        rw [UInt8.lt_iff_toNat_lt]
        have e2 : (48 : UInt8).toNat = 48 := rfl
        omega
      have c3 : (b == 48) = false := by simpa using c
      simp [c1, c2, c3]
theorem pad_size {n : Nat} {s : ByteArray} (h : s.size ≤ n) : (pad n s).size = n := by rw [pad, app_size, Z_size]; omega
theorem le_top0 (s0 : ByteArray) (x0 : Int) (s1 : ByteArray) (x1 : Int) : (lv (mx x0 x1) s0 x0).size ≤ top s0 x0 s1 x1 := by unfold top; omega
theorem le_top1 (s0 : ByteArray) (x0 : Int) (s1 : ByteArray) (x1 : Int) : (lv (mx x0 x1) s1 x1).size ≤ top s0 x0 s1 x1 := by unfold top; omega
theorem lx_size (s0 : ByteArray) (x0 : Int) (s1 : ByteArray) (x1 : Int) : (lx s0 x0 s1 x1).size = top s0 x0 s1 x1 := pad_size (le_top0 s0 x0 s1 x1)
theorem ly_size (s0 : ByteArray) (x0 : Int) (s1 : ByteArray) (x1 : Int) : (ly s0 x0 s1 x1).size = top s0 x0 s1 x1 := pad_size (le_top1 s0 x0 s1 x1)
/-- Nought on any scale. -/
theorem pad_nought (n m : Nat) (s : ByteArray) (hs : s.data.toList = []) (h : m ≤ n) : (Z (n - (s ++ Z m).size) ++ (s ++ Z m)).data.toList = List.replicate n 48 := by
  have e : s = Z 0 := ba_ext (by rw [hs, Z_list]; rfl)
  subst e
  rw [Z_none_l, Z_size, ba_app, Z_list, Z_list, List.replicate_append_replicate]
  congr 1; omega
theorem pad_has (n m : Nat) (b : UInt8) (l : List UInt8) (s : ByteArray) (hs : s.data.toList = b :: l) (hd : (b :: l).all digB = true) (hb : b.toNat ≠ 48) :
    (∀ c ∈ (Z (n - (s ++ Z m).size) ++ (s ++ Z m)).data.toList, 48 ≤ c.toNat) ∧ ∃ c ∈ (Z (n - (s ++ Z m).size) ++ (s ++ Z m)).data.toList, c.toNat ≠ 48 := by
  rw [ba_app, ba_app, Z_list, Z_list, hs]
  refine ⟨fun c hc => ?_, b, by simp, hb⟩
  rw [List.mem_append, List.mem_append] at hc
  rcases hc with hc | hc | hc
  · rw [(List.mem_replicate.1 hc).2]; decide
  · have := List.all_eq_true.1 hd c hc
    simp only [digB, Bool.and_eq_true, decide_eq_true_eq] at this
    exact this.1
  · rw [(List.mem_replicate.1 hc).2]; decide

theorem ok_nil {n : Bool} {s : ByteArray} {x : Int} (h : okB n s x = true) (e : s.data.toList = []) : n = false ∧ x = 0 := by
  unfold okB at h
  rw [e] at h
  simp only [okL, Bool.and_eq_true, beq_iff_eq, Bool.not_eq_true'] at h
  exact h
theorem ok_cons {n : Bool} {s : ByteArray} {x : Int} {b : UInt8} {l : List UInt8} (h : okB n s x = true) (e : s.data.toList = b :: l) : (b :: l).all digB = true ∧ b.toNat ≠ 48 := by
  unfold okB at h
  rw [e] at h
  simp only [okL, Bool.and_eq_true, bne_iff_ne] at h
  exact ⟨h.2.1, h.2.2.1⟩
def signI (n : Bool) (s : ByteArray) : Int := if n then -1 else if s.data.toList = [] then 0 else 1
theorem sign_f (n : Bool) (s : ByteArray) (x : Int) : impl_Dec_sign.f n s x = some (signI n s) := by
  unfold impl_Dec_sign.f signI
  rw [Lib.toList_data]
  (repeat' split) <;> rfl

/-- How two right numbers stand. -/
def cmpD (n0 : Bool) (s0 : ByteArray) (x0 : Int) (n1 : Bool) (s1 : ByteArray) (x1 : Int) : Int :=
  if n0 != n1 then (if n0 then -1 else 1) else if n0 then -(cmpB (lx s0 x0 s1 x1) (ly s0 x0 s1 x1)) else cmpB (lx s0 x0 s1 x1) (ly s0 x0 s1 x1)
theorem cmpB_range (a b : ByteArray) : -1 ≤ cmpB a b ∧ cmpB a b ≤ 1 := by unfold cmpB; (repeat' split) <;> omega

theorem impl_j0 (n0 : Bool) (s0 : ByteArray) (x0 : Int) (n1 : Bool) (s1 : ByteArray) (x1 : Int) (h0 : okB n0 s0 x0 = true) (h1 : okB n1 s1 x1 = true) :
    Ev (fun k => impl_CompareDec.j0 k false n0 s0 x0 n1 s1 x1) (cmpD n0 s0 x0 n1 s1 x1) := by
  obtain ⟨z0, a0, a1⟩ := ok_len h0
  obtain ⟨z1, b0, b1⟩ := ok_len h1
  refine Ev.step (f := fun _ => some (cmpD n0 s0 x0 n1 s1 x1)) (fun k => ?_) (Ev.now _)
  simp only [impl_CompareDec.j0, Bool.false_eq_true, if_false, sign_f, Option.bind_some, level_f n0 s0 x0 n1 s1 x1 z0 z1 a0 a1 b0 b1, cmp_string_f, cmp_int_f]
  have hr := cmpB_range (lx s0 x0 s1 x1) (ly s0 x0 s1 x1)
  by_cases c : signI n0 s0 = signI n1 s1
  · rw [if_pos c]
    congr 1
    unfold cmpD
    cases n0 with
    | true =>
      cases n1 with
      | true => simp only [signI, if_true, bne_self_eq_false, Bool.false_eq_true, if_false]; rw [w64] <;> omega
      | false => exfalso; simp only [signI, if_true, Bool.false_eq_true, if_false] at c; split at c <;> omega
    | false =>
      cases n1 with
      | true => exfalso; simp only [signI, if_true, Bool.false_eq_true, if_false] at c; split at c <;> omega
      | false =>
        simp only [bne_self_eq_false, Bool.false_eq_true, if_false]
        by_cases e : s0.data.toList = []
        · have e1 : s1.data.toList = [] := by
            simp only [signI, Bool.false_eq_true, if_false, e, if_true] at c
            by_cases e1 : s1.data.toList = []
            · exact e1
            · rw [if_neg e1] at c; cases c
          have hs : signI false s0 = 0 := by simp [signI, e]
          have x00 := (ok_nil h0 e).2
          have x10 := (ok_nil h1 e1).2
          have hxy : lx s0 x0 s1 x1 = ly s0 x0 s1 x1 := by
            have : s0 = s1 := ba_ext (by rw [e, e1])
            subst this; subst x00; subst x10; rfl
          rw [hs, Int.mul_zero, hxy]
          have : ∀ l : List UInt8, Op.bytesLess l l = false := fun l => by
            induction l with
            | nil => rfl
            | cons a l ih => simp [Op.bytesLess, ih]
          simp only [cmpB, lessB, this, Bool.false_eq_true, if_false]
          rw [w64] <;> omega
        · have hs : signI false s0 = 1 := by simp [signI, e]
          rw [hs, Int.mul_one]; rw [w64] <;> omega
  · rw [if_neg c]
    congr 1
    unfold cmpD
    cases n0 with
    | true =>
      cases n1 with
      | true => exact absurd rfl c
      | false =>
        simp only [Bool.true_bne, Bool.not_false, if_true]
        rw [if_pos]
        simp only [signI, if_true, Bool.false_eq_true, if_false]; split <;> omega
    | false =>
      cases n1 with
      | true =>
        simp only [Bool.false_bne, if_true, Bool.false_eq_true, if_false]
        rw [if_neg, if_pos]
        · simp only [signI, if_true, Bool.false_eq_true, if_false]; split <;> omega
        · simp only [signI, if_true, Bool.false_eq_true, if_false]; split <;> omega
      | false =>
        simp only [bne_self_eq_false, Bool.false_eq_true, if_false]
        obtain ⟨g0, g1, g2⟩ := mx_le x0 x1
        rcases e : s0.data.toList with _ | ⟨b, l⟩
        · rcases e1 : s1.data.toList with _ | ⟨b', l'⟩
          · exact absurd (by simp [signI, e, e1]) c
          · have q := ok_cons h1 e1
            have hx : (lx s0 x0 s1 x1).data.toList = List.replicate (top s0 x0 s1 x1) 48 := by
              have := le_top0 s0 x0 s1 x1
              rw [lv, app_size, Z_size] at this
              exact pad_nought _ _ _ e (by omega)
            have hy := pad_has (top s0 x0 s1 x1) (mx x0 x1 - x1).toNat b' l' s1 e1 q.1 q.2
            have k := zeros_less (ly s0 x0 s1 x1).data.toList hy.1 hy.2
            rw [← sz, ly_size] at k
            rw [cmpB, lessB, hx, k.1]
            simp [signI, e, e1]
        · rcases e1 : s1.data.toList with _ | ⟨b', l'⟩
          · have q := ok_cons h0 e
            have hx : (ly s0 x0 s1 x1).data.toList = List.replicate (top s0 x0 s1 x1) 48 := by
              have := le_top1 s0 x0 s1 x1
              rw [lv, app_size, Z_size] at this
              exact pad_nought _ _ _ e1 (by omega)
            have hy := pad_has (top s0 x0 s1 x1) (mx x0 x1 - x0).toNat b l s0 e q.1 q.2
            have k := zeros_less (lx s0 x0 s1 x1).data.toList hy.1 hy.2
            rw [← sz, lx_size] at k
            rw [cmpB, lessB, lessB, hx, k.1, k.2]
            simp [signI, e, e1]
          · exact absurd (by simp [signI, e, e1]) c

def answer (n0 : Bool) (s0 : ByteArray) (x0 : Int) (n1 : Bool) (s1 : ByteArray) (x1 : Int) : Int := if okB n0 s0 x0 && okB n1 s1 x1 then cmpD n0 s0 x0 n1 s1 x1 else 2
theorem spec_CompareDec_f (n0 : Bool) (s0 : ByteArray) (x0 : Int) (n1 : Bool) (s1 : ByteArray) (x1 : Int) (h0 : s0.size ≤ 9223372036854775806) (h1 : s1.size ≤ 9223372036854775806) :
    Ev (fun k => spec_CompareDec.f k n0 s0 x0 n1 s1 x1) (answer n0 s0 x0 n1 s1 x1) := by
  unfold spec_CompareDec.f
  refine Ev.bind (spec_DecOk_f n0 s0 x0 h0) ?_
  cases e0 : okB n0 s0 x0 with
  | false => simp only [answer, e0, Bool.false_and, Bool.false_eq_true, if_false]; exact Ev.now _
  | true =>
    simp only [if_true]
    refine Ev.bind (spec_DecOk_f n1 s1 x1 h1) ?_
    cases e1 : okB n1 s1 x1 with
    | false => simp only [answer, e0, e1, Bool.true_and, Bool.false_eq_true, if_false]; exact Ev.now _
    | true =>
      obtain ⟨z0, a0, a1⟩ := ok_len e0
      obtain ⟨z1, b0, b1⟩ := ok_len e1
      simp only [if_true, answer, e0, e1, Bool.true_and]
      exact Ev.bind (l4Compare_f n0 s0 x0 n1 s1 x1 z0 z1 a0 a1 b0 b1) (Ev.now _)
theorem impl_CompareDec_f (n0 : Bool) (s0 : ByteArray) (x0 : Int) (n1 : Bool) (s1 : ByteArray) (x1 : Int) (h0 : s0.size ≤ 9223372036854775806) (h1 : s1.size ≤ 9223372036854775806) :
    Ev (fun k => impl_CompareDec.f k n0 s0 x0 n1 s1 x1) (answer n0 s0 x0 n1 s1 x1) := by
  have jt : Ev (fun k => impl_CompareDec.j0 k true n0 s0 x0 n1 s1 x1) 2 := Ev.step (f := fun _ => some 2) (fun k => by simp only [impl_CompareDec.j0, if_true]) (Ev.now _)
  unfold impl_CompareDec.f
  simp only [impl_DecOk_f n0 s0 x0 (by omega), impl_DecOk_f n1 s1 x1 (by omega), Option.bind_some]
  cases e0 : okB n0 s0 x0 with
  | false => simp only [answer, e0, Bool.false_and, Bool.false_eq_true, if_false]; exact jt
  | true =>
    simp only [if_true]
    cases e1 : okB n1 s1 x1 with
    | false => simp only [answer, e0, e1, Bool.true_and, Bool.false_eq_true, if_false, Bool.not_false]; exact jt
    | true => simp only [answer, e0, e1, Bool.true_and, if_true, Bool.not_true]; exact impl_j0 n0 s0 x0 n1 s1 x1 e0 e1

theorem FnExactCompareDec (n0 : Bool) (s0 : ByteArray) (x0 : Int) (n1 : Bool) (s1 : ByteArray) (x1 : Int) (h0 : s0.size ≤ maxLen) (h1 : s1.size ≤ maxLen)
    (g0 : (Lit.int .i64 x0).wf = true) (g1 : (Lit.int .i64 x1).wf = true) : ∃ k, laws_FnExactCompareDec.f k n0 s0 x0 n1 s1 x1 = some true := by
  have hm : maxLen ≤ 9223372036854775807 := by decide
  have w0 : wrap64 (1048576 - (s0.size : Int)) = 1048576 - (s0.size : Int) := by rw [w64] <;> omega
  have z0 : laws_szDec.f n0 s0 x0 1048576 = some (if (1048576 - (s0.size : Int)) < 0 then -1 else 1048576 - (s0.size : Int)) := by
    unfold laws_szDec.f
    rw [w0]; split <;> rfl
  refine Ev.rounds ?_
  unfold laws_FnExactCompareDec.f
  rw [z0]
  simp only [Option.bind_some]
  by_cases c0 : (1048576 - (s0.size : Int)) < 0
  · simp only [c0, if_true, show (-1 : Int) < 0 by omega]; exact Ev.now _
  · simp only [c0, if_false]
    have w1 : wrap64 (1048576 - (s0.size : Int) - (s1.size : Int)) = 1048576 - (s0.size : Int) - (s1.size : Int) := by rw [w64] <;> omega
    have z1 : laws_szDec.f n1 s1 x1 (1048576 - (s0.size : Int)) = some (if (1048576 - (s0.size : Int) - (s1.size : Int)) < 0 then -1 else 1048576 - (s0.size : Int) - (s1.size : Int)) := by
      unfold laws_szDec.f
      rw [w1]; split <;> rfl
    rw [z1]
    simp only [Option.bind_some]
    by_cases c1 : (1048576 - (s0.size : Int) - (s1.size : Int)) < 0
    · simp only [c1, if_true, show (-1 : Int) < 0 by omega]; exact Ev.now _
    · simp only [c1, if_false]
      simp only [laws_toDec.f, Option.bind_some]
      refine Ev.bind (spec_CompareDec_f n0 s0 x0 n1 s1 x1 (by omega) (by omega)) ?_
      refine Ev.bind (impl_CompareDec_f n0 s0 x0 n1 s1 x1 (by omega) (by omega)) ?_
      simp only [if_true]
      exact Ev.now _
end Go.Proofs.YtilmhfkbpnejeaaDoor.Pure
