/- Words and contracts for the row RowFnExactMatches: what the Go functions answer that it calls; printed by programs of the kit and of this session, and merged. -/
import Derived.Test.YtilmhfkbpnejeaaDoorQm4
import Derived.ChangeArms
import Derived.ChangeSlices
import Derived.DataElems
import Derived.Lib.ValidLaws
import Derived.Lib.DecodeN
import Derived.Lib.MapLaws
import Derived.Lib.TrimUEq
namespace Go.Proofs.YtilmhfkbpnejeaaDoor.Pure
open Go.RowKit Go.Proofs.YtilmhfkbpnejeaaDoor.L Go.Proofs.YtilmhfkbpnejeaaDoorW.PrintWords Go.Proofs.YtilmhfkbpnejeaaDoorW.PrintLast Go.Proofs.YtilmhfkbpnejeaaDoorW.PrintMore
set_option linter.unusedVariables false
set_option linter.unusedSimpArgs false

def inZ (n a b : Int) : Bool := decide (a ≤ n) && decide (n ≤ b)
theorem spec_in (n a b : Int) : spec_l1In.f n a b = some (inZ n a b) := by
  unfold spec_l1In.f inZ
  by_cases h : a ≤ n
  · rw [if_pos h, decide_eq_true h, Bool.true_and]
  · rw [if_neg h, decide_eq_false h, Bool.false_and]
theorem impl_inZ (n a b : Int) : impl_in.f n a b = some (inZ n a b) := by
  unfold impl_in.f inZ
  by_cases h : a ≤ n
  · rw [if_pos h, decide_eq_true h, Bool.true_and]
  · rw [if_neg h, decide_eq_false h, Bool.false_and]
def charZ (n : Int) : Bool := inZ n 0 55295 || inZ n 57344 1114111
theorem spec_char (n : Int) : spec_l1Char.f n = some (charZ n) := by
  unfold spec_l1Char.f charZ
  rw [spec_in, spec_in]
  cases inZ n 0 55295 <;> rfl
theorem impl_char (n : Int) : impl_isRune.f n = some (charZ n) := by
  unfold impl_isRune.f charZ
  rw [impl_inZ, impl_inZ]
  cases inZ n 0 55295 <;> rfl
def rngOk (y : S100) : Bool := charZ y.f0 && (charZ y.f1 && decide (y.f0 ≤ y.f1))
def noRng (l : List S100) : Bool := decide (l.length = 0)
def nodeB (x : S93) : Bool :=
  if x.f0 = 1 then !x.f1 && (noRng x.f2 && (decide (x.f3 = 0) && (decide (x.f4 = 0) && (decide (x.f5 = 0) && decide (x.f6 = 0)))))
  else if x.f0 = 2 then (decide (1 ≤ x.f2.length) && decide (x.f2.length ≤ 12)) && ((decide (x.f3 = 0) && (decide (x.f4 = 0) && (decide (x.f5 = 0) && decide (x.f6 = 0)))) && x.f2.all rngOk)
  else if x.f0 = 3 ∨ x.f0 = 4 then !x.f1 && (noRng x.f2 && (decide (x.f5 = 0) && decide (x.f6 = 0)))
  else if x.f0 = 5 then !x.f1 && (noRng x.f2 && (decide (x.f4 = 0) && (inZ x.f5 0 20 && (decide (x.f6 = -1) || inZ x.f6 x.f5 20))))
  else false
theorem rdR (l : List S100) (i : Nat) (h : i < l.length) : rd_T100 l (i : Int) = l[i] := by
  unfold rd_T100
  simp [h]
theorem w1 {i m : Nat} (h : i < m) (hm : m ≤ 9223372036854775807) : wrap64 ((i : Int) + 1) = ((i + 1 : Nat) : Int) := by rw [w64] <;> omega
theorem spec_node_l0 (x : S93) (hl : x.f2.length ≤ 9223372036854775807) : ∀ (n i : Nat), i + n = x.f2.length → Ev (fun k => spec_l6NodeOk.l0 k (i : Int) x.f0 x.f1 x.f2 x.f3 x.f4 x.f5 x.f6) ((x.f2.drop i).all rngOk) := by
  intro n
  induction n with
  | zero =>
    intro i hi
    rw [List.drop_of_length_le (by omega)]
    refine Ev.step (f := fun _ => some true) (fun k => ?_) (Ev.now _)
    unfold spec_l6NodeOk.l0
    rw [if_neg (by omega)]
  | succ n ih =>
    intro i hi
    have hlt : i < x.f2.length := by omega
    rw [List.drop_eq_getElem_cons hlt, List.all_cons]
    have hf : ∀ k, spec_l6NodeOk.l0 (k + 1) (i : Int) x.f0 x.f1 x.f2 x.f3 x.f4 x.f5 x.f6 = (if charZ x.f2[i].f0 = true then (if charZ x.f2[i].f1 = true then (if x.f2[i].f0 > x.f2[i].f1 then (some false) else (spec_l6NodeOk.l0 k ((i + 1 : Nat) : Int) x.f0 x.f1 x.f2 x.f3 x.f4 x.f5 x.f6)) else (some false)) else (some false)) := by
      intro k
      conv => lhs; unfold spec_l6NodeOk.l0
      rw [if_pos (by omega), if_pos (by omega), rdR x.f2 i hlt, spec_char, w1 hlt hl]
      simp only [Option.bind_some, spec_char]
    refine Ev.step hf ?_
    unfold rngOk
    cases charZ x.f2[i].f0 with
    | false => exact Ev.now _
    | true =>
      cases charZ x.f2[i].f1 with
      | false => exact Ev.now _
      | true =>
        simp only [if_true, Bool.true_and]
        by_cases c : x.f2[i].f0 ≤ x.f2[i].f1
        · simp only [if_neg (show ¬ x.f2[i].f0 > x.f2[i].f1 by omega), decide_eq_true c, Bool.true_and]
          exact ih (i + 1) (by omega)
        · simp only [if_pos (show x.f2[i].f0 > x.f2[i].f1 by omega), decide_eq_false c, Bool.false_and]
          exact Ev.now _
theorem spec_j0 (x : S93) (b : Bool) (hl : x.f2.length ≤ 9223372036854775807) : Ev (fun k => spec_l6NodeOk.j0 k b x.f0 x.f1 x.f2 x.f3 x.f4 x.f5 x.f6) (!b && x.f2.all rngOk) := by
  cases b with
  | true =>
    refine Ev.step (f := fun _ => some false) (fun k => ?_) (Ev.now _)
    conv => lhs; unfold spec_l6NodeOk.j0
    rfl
  | false =>
    refine Ev.step (f := fun k => spec_l6NodeOk.l0 k ((0 : Nat) : Int) x.f0 x.f1 x.f2 x.f3 x.f4 x.f5 x.f6) (fun k => ?_) ?_
    · conv => lhs; unfold spec_l6NodeOk.j0
      rfl
    · simpa using spec_node_l0 x hl x.f2.length 0 (by omega)
theorem spec_j2 (x : S93) (b : Bool) : Ev (fun k => spec_l6NodeOk.j2 k x.f0 b x.f0 x.f1 x.f2 x.f3 x.f4 x.f5 x.f6)
    (if b = true then !x.f1 && (noRng x.f2 && (decide (x.f5 = 0) && decide (x.f6 = 0))) else if x.f0 = 5 then !x.f1 && (noRng x.f2 && (decide (x.f4 = 0) && (inZ x.f5 0 20 && (decide (x.f6 = -1) || inZ x.f6 x.f5 20)))) else false) := by
  have hf : ∀ k, spec_l6NodeOk.j2 (k + 1) x.f0 b x.f0 x.f1 x.f2 x.f3 x.f4 x.f5 x.f6 = (if b = true then (if x.f1 = true then (some false) else (if (x.f2.length : Int) = 0 then (if x.f5 = 0 then (some (x.f6 == 0)) else (some false)) else (some false))) else (if x.f0 = 5 then (if x.f1 = true then (some false) else (if (x.f2.length : Int) = 0 then (if x.f4 = 0 then ((spec_l1In.f x.f5 0 20).bind fun t123 => (if t123 = true then (if x.f6 = (-1) then (some true) else ((spec_l1In.f x.f6 x.f5 20).bind fun t124 => (some t124))) else (some false))) else (some false)) else (some false))) else (some false))) := fun k => by
    conv => lhs; unfold spec_l6NodeOk.j2
  refine Ev.step hf ?_
  have hn : ((x.f2.length : Int) = 0) ↔ x.f2.length = 0 := by omega
  simp only [hn, spec_in, Option.bind_some]
  refine Ev.congr (f := fun _ => some _) (fun k => ?_) (Ev.now _)
  unfold noRng
  cases b <;> cases x.f1 <;> by_cases h2 : x.f2.length = 0 <;> by_cases h4 : x.f4 = 0 <;> by_cases h5 : x.f5 = 0 <;> by_cases h6 : x.f6 = 0 <;> by_cases h0 : x.f0 = 5 <;> by_cases h61 : x.f6 = -1 <;> cases inZ x.f5 0 20 <;> cases inZ x.f6 x.f5 20 <;> simp_all
theorem spec_node (x : S93) (hl : x.f2.length ≤ 9223372036854775807) : Ev (fun k => spec_l6NodeOk.f k x.f0 x.f1 x.f2 x.f3 x.f4 x.f5 x.f6) (nodeB x) := by
  unfold nodeB
  by_cases h1 : x.f0 = 1
  · rw [if_pos h1]
    refine Ev.congr (f := fun _ => some _) (fun k => ?_) (Ev.now _)
    unfold spec_l6NodeOk.f noRng
    rw [if_pos h1]
    cases x.f1 <;> by_cases h2 : x.f2.length = 0 <;> by_cases h3 : x.f3 = 0 <;> by_cases h4 : x.f4 = 0 <;> by_cases h5 : x.f5 = 0 <;> by_cases h6 : x.f6 = 0 <;> simp_all
  · rw [if_neg h1]
    by_cases h2 : x.f0 = 2
    · rw [if_pos h2]
      obtain ⟨b, hb⟩ : ∃ b, (!(decide (1 ≤ x.f2.length) && decide (x.f2.length ≤ 12)) || !(decide (x.f3 = 0) && (decide (x.f4 = 0) && (decide (x.f5 = 0) && decide (x.f6 = 0))))) = b := ⟨_, rfl⟩
      have := spec_j0 x b hl
      have e : ((decide (1 ≤ x.f2.length) && decide (x.f2.length ≤ 12)) && ((decide (x.f3 = 0) && (decide (x.f4 = 0) && (decide (x.f5 = 0) && decide (x.f6 = 0)))) && x.f2.all rngOk)) = (!b && x.f2.all rngOk) := by
        rw [← hb]
        cases (decide (1 ≤ x.f2.length) && decide (x.f2.length ≤ 12)) <;> cases (decide (x.f3 = 0) && (decide (x.f4 = 0) && (decide (x.f5 = 0) && decide (x.f6 = 0)))) <;> rfl
      rw [e]
      refine Ev.congr (fun k => ?_) this
      unfold spec_l6NodeOk.f
      rw [if_neg h1, if_pos h2, ← hb]
      by_cases c1 : 1 ≤ x.f2.length
      · rw [if_neg (by omega), decide_eq_true c1]
        by_cases c2 : x.f2.length ≤ 12
        · rw [if_neg (by omega), decide_eq_true c2]
          by_cases c3 : x.f3 = 0
          · rw [if_pos c3, decide_eq_true c3]
            by_cases c4 : x.f4 = 0
            · rw [if_pos c4, decide_eq_true c4]
              by_cases c5 : x.f5 = 0
              · rw [if_pos c5, decide_eq_true c5]
                by_cases c6 : x.f6 = 0
                · rw [decide_eq_true c6, c6]; rfl
                · have : (x.f6 != 0) = true := by simpa using c6
                  rw [decide_eq_false c6, this]; rfl
              · rw [if_neg c5, decide_eq_false c5]; rfl
            · rw [if_neg c4, decide_eq_false c4]; rfl
          · rw [if_neg c3, decide_eq_false c3]; rfl
        · rw [if_pos (by omega), decide_eq_false c2]; rfl
      · rw [if_pos (by omega), decide_eq_false c1]; rfl
    · rw [if_neg h2]
      by_cases h3 : x.f0 = 3
      · rw [if_pos (.inl h3)]
        refine Ev.congr (fun k => ?_) (by have := spec_j2 x true; simpa using this)
        unfold spec_l6NodeOk.f
        rw [if_neg h1, if_neg h2, if_pos h3]
        have : (x.f0 == 3) = true := by simpa using h3
        rw [this]
      · have hx : ∀ k, spec_l6NodeOk.f k x.f0 x.f1 x.f2 x.f3 x.f4 x.f5 x.f6 = spec_l6NodeOk.j2 k x.f0 (x.f0 == 4) x.f0 x.f1 x.f2 x.f3 x.f4 x.f5 x.f6 := by
          intro k
          unfold spec_l6NodeOk.f
          rw [if_neg h1, if_neg h2, if_neg h3]
        by_cases h4 : x.f0 = 4
        · rw [if_pos (.inr h4)]
          refine Ev.congr (fun k => ?_) (by have := spec_j2 x true; simpa using this)
          rw [hx]
          have : (x.f0 == 4) = true := by simpa using h4
          rw [this]
        · rw [if_neg (by omega)]
          have := spec_j2 x false
          simp only [Bool.false_eq_true, if_false] at this
          refine Ev.congr (fun k => ?_) this
          rw [hx]
          have : (x.f0 == 4) = false := by simpa using h4
          rw [this]
theorem impl_node_l0 (x : S93) (hl : x.f2.length ≤ 9223372036854775807) : ∀ (n i : Nat), i + n = x.f2.length → Ev (fun k => impl_RNode_fits.l0 k x.f2 (x.f2.length : Int) (i : Int) x.f0 x.f1 x.f2 x.f3 x.f4 x.f5 x.f6)
    ((x.f2.drop i).all rngOk && ((decide (1 ≤ x.f2.length) && decide (x.f2.length ≤ 12)) && (decide (x.f3 = 0) && (decide (x.f4 = 0) && (decide (x.f5 = 0) && decide (x.f6 = 0)))))) := by
  intro n
  induction n with
  | zero =>
    intro i hi
    rw [List.drop_of_length_le (by omega)]
    refine Ev.step (f := fun _ => some _) (fun k => ?_) (Ev.now _)
    unfold impl_RNode_fits.l0
    rw [if_neg (by omega), impl_inZ]
    have e : inZ (x.f2.length : Int) 1 12 = (decide (1 ≤ x.f2.length) && decide (x.f2.length ≤ 12)) := by
      unfold inZ
      congr 1 <;> (simp only [decide_eq_decide]; omega)
    simp only [Option.bind_some, e]
    cases (decide (1 ≤ x.f2.length) && decide (x.f2.length ≤ 12)) <;> by_cases h3 : x.f3 = 0 <;> by_cases h4 : x.f4 = 0 <;> by_cases h5 : x.f5 = 0 <;> by_cases h6 : x.f6 = 0 <;> simp_all
  | succ n ih =>
    intro i hi
    have hlt : i < x.f2.length := by omega
    rw [List.drop_eq_getElem_cons hlt, List.all_cons]
    have hf : ∀ k, impl_RNode_fits.l0 (k + 1) x.f2 (x.f2.length : Int) (i : Int) x.f0 x.f1 x.f2 x.f3 x.f4 x.f5 x.f6 = (if charZ x.f2[i].f0 = true then (if charZ x.f2[i].f1 = true then (if x.f2[i].f0 > x.f2[i].f1 then (some false) else (impl_RNode_fits.l0 k x.f2 (x.f2.length : Int) ((i + 1 : Nat) : Int) x.f0 x.f1 x.f2 x.f3 x.f4 x.f5 x.f6)) else (some false)) else (some false)) := by
      intro k
      conv => lhs; unfold impl_RNode_fits.l0
      rw [if_pos (by omega), if_pos (by omega), if_pos (by omega), rdR x.f2 i hlt, impl_char, w1 hlt hl]
      simp only [Option.bind_some, impl_char]
    refine Ev.step hf ?_
    unfold rngOk
    cases charZ x.f2[i].f0 with
    | false => exact Ev.now _
    | true =>
      cases charZ x.f2[i].f1 with
      | false => exact Ev.now _
      | true =>
        simp only [if_true, Bool.true_and]
        by_cases c : x.f2[i].f0 ≤ x.f2[i].f1
        · simp only [if_neg (show ¬ x.f2[i].f0 > x.f2[i].f1 by omega), decide_eq_true c, Bool.true_and]
          exact ih (i + 1) (by omega)
        · simp only [if_pos (show x.f2[i].f0 > x.f2[i].f1 by omega), decide_eq_false c, Bool.false_and]
          exact Ev.now _
theorem impl_node (x : S93) (hl : x.f2.length ≤ 9223372036854775807) : Ev (fun k => impl_RNode_fits.f k x.f0 x.f1 x.f2 x.f3 x.f4 x.f5 x.f6) (nodeB x) := by
  unfold nodeB
  by_cases h2 : x.f0 = 2
  · rw [if_neg (by omega), if_pos h2]
    have := impl_node_l0 x hl x.f2.length 0 (by omega)
    rw [List.drop_zero] at this
    have e : ((decide (1 ≤ x.f2.length) && decide (x.f2.length ≤ 12)) && ((decide (x.f3 = 0) && (decide (x.f4 = 0) && (decide (x.f5 = 0) && decide (x.f6 = 0)))) && x.f2.all rngOk)) = (x.f2.all rngOk && ((decide (1 ≤ x.f2.length) && decide (x.f2.length ≤ 12)) && (decide (x.f3 = 0) && (decide (x.f4 = 0) && (decide (x.f5 = 0) && decide (x.f6 = 0)))))) := by
      cases (decide (1 ≤ x.f2.length) && decide (x.f2.length ≤ 12)) <;> cases (decide (x.f3 = 0) && (decide (x.f4 = 0) && (decide (x.f5 = 0) && decide (x.f6 = 0)))) <;> cases x.f2.all rngOk <;> rfl
    rw [e]
    refine Ev.congr (fun k => ?_) this
    unfold impl_RNode_fits.f
    rw [if_pos h2]
    rfl
  · refine Ev.congr (f := fun _ => some _) (fun k => ?_) (Ev.now _)
    unfold impl_RNode_fits.f noRng
    rw [if_neg h2]
    have hn : ((x.f2.length : Int) = 0) ↔ x.f2.length = 0 := by omega
    simp only [hn, impl_inZ, Option.bind_some]
    by_cases h5 : x.f0 = 5
    · have q1 : ¬ x.f0 = 1 := by omega
      have q3 : ¬ (x.f0 = 3 ∨ x.f0 = 4) := by omega
      rw [if_pos h5, if_neg q1, if_neg h2, if_neg q3, if_pos h5]
      by_cases c2 : x.f2.length = 0 <;> cases x.f1 <;> by_cases c4 : x.f4 = 0 <;> cases inZ x.f5 0 20 <;> by_cases c6 : x.f6 = -1 <;> cases inZ x.f6 x.f5 20 <;> simp_all
    · rw [if_neg h5]
      by_cases h1 : x.f0 = 1
      · rw [if_pos h1, if_pos h1]
        by_cases c2 : x.f2.length = 0 <;> cases x.f1 <;> by_cases h3 : x.f3 = 0 <;> by_cases h4 : x.f4 = 0 <;> by_cases c5 : x.f5 = 0 <;> by_cases h6 : x.f6 = 0 <;> simp_all
      · rw [if_neg h1, if_neg h1, if_neg h2]
        by_cases h3 : x.f0 = 3
        · have q3 : x.f0 = 3 ∨ x.f0 = 4 := .inl h3
          rw [if_pos h3, if_pos q3]
          by_cases c2 : x.f2.length = 0 <;> cases x.f1 <;> by_cases c5 : x.f5 = 0 <;> by_cases h6 : x.f6 = 0 <;> simp_all
        · rw [if_neg h3]
          by_cases h4 : x.f0 = 4
          · have q3 : x.f0 = 3 ∨ x.f0 = 4 := .inr h4
            rw [if_pos h4, if_pos q3]
            by_cases c2 : x.f2.length = 0 <;> cases x.f1 <;> by_cases c5 : x.f5 = 0 <;> by_cases h6 : x.f6 = 0 <;> simp_all
          · have q3 : ¬ (x.f0 = 3 ∨ x.f0 = 4) := by omega
            rw [if_neg h4, if_neg q3, if_neg h5]
/-- A class has a character. -/
def hasZ (x : S93) (r : Int) : Bool := if x.f0 = 2 then nodeB x && (charZ r && (x.f2.any (rngP r) != x.f1)) else false
theorem rngP_in (r : Int) (y : S100) : rngP r y = inZ r y.f0 y.f1 := by
  unfold rngP inZ
  by_cases h : y.f0 ≤ r
  · rw [if_pos h, decide_eq_true h, Bool.true_and]
  · rw [if_neg h, decide_eq_false h, Bool.false_and]
theorem impl_has (x : S93) (r : Int) (hl : x.f2.length ≤ 9223372036854775807) : Ev (fun k => impl_ClassHas.f k x.f0 x.f1 x.f2 x.f3 x.f4 x.f5 x.f6 r) (hasZ x r) := by
  unfold impl_ClassHas.f hasZ
  by_cases h2 : x.f0 = 2
  · simp only [if_pos h2]
    refine Ev.bind (impl_node x hl) ?_
    cases nodeB x with
    | false => exact Ev.now _
    | true =>
      simp only [if_true, impl_char, Option.bind_some]
      cases charZ r with
      | false => exact Ev.now _
      | true => exact Ev.now _
  · simp only [if_neg h2]
    exact Ev.now _
theorem spec_has_l0 (x : S93) (r : Int) (hl : x.f2.length ≤ 9223372036854775807) : ∀ (n i : Nat) (b : Bool), i + n = x.f2.length → Ev (fun k => spec_ClassHas.l0 k r b (i : Int) x.f0 x.f1 x.f2 x.f3 x.f4 x.f5 x.f6) ((b || (x.f2.drop i).any (rngP r)) != x.f1) := by
  intro n
  induction n with
  | zero =>
    intro i b hi
    rw [List.drop_of_length_le (by omega)]
    refine Ev.step (f := fun _ => some (b != x.f1)) (fun k => ?_) (by rw [List.any_nil, Bool.or_false]; exact Ev.now _)
    unfold spec_ClassHas.l0
    rw [if_neg (by omega)]
  | succ n ih =>
    intro i b hi
    have hlt : i < x.f2.length := by omega
    rw [List.drop_eq_getElem_cons hlt, List.any_cons, ← Bool.or_assoc]
    refine Ev.step (fun k => ?_) (ih (i + 1) (b || rngP r x.f2[i]) (by omega))
    conv => lhs; unfold spec_ClassHas.l0
    rw [if_pos (by omega), w1 hlt hl]
    cases b with
    | true => rw [if_pos rfl, Bool.true_or]
    | false =>
      rw [if_neg (by decide), if_pos (by omega), rdR x.f2 i hlt, spec_in, Bool.false_or, rngP_in]
      rfl
theorem spec_has (x : S93) (r : Int) (hl : x.f2.length ≤ 9223372036854775807) : Ev (fun k => spec_ClassHas.f k x.f0 x.f1 x.f2 x.f3 x.f4 x.f5 x.f6 r) (hasZ x r) := by
  have hbad : Ev (fun k => spec_ClassHas.j0 k r true x.f0 x.f1 x.f2 x.f3 x.f4 x.f5 x.f6) false := by
    refine Ev.step (f := fun _ => some false) (fun k => ?_) (Ev.now _)
    conv => lhs; unfold spec_ClassHas.j0
    rfl
  unfold spec_ClassHas.f hasZ
  by_cases h2 : x.f0 = 2
  · simp only [if_pos h2]
    refine Ev.bind (spec_node x hl) ?_
    cases nodeB x with
    | false => simpa using hbad
    | true =>
      simp only [if_true, spec_char, Option.bind_some, Bool.true_and]
      cases charZ r with
      | false => simpa using hbad
      | true =>
        simp only [Bool.not_true, Bool.true_and]
        refine Ev.step (f := fun k => spec_ClassHas.l0 k r false ((0 : Nat) : Int) x.f0 x.f1 x.f2 x.f3 x.f4 x.f5 x.f6) (fun k => ?_) ?_
        · conv => lhs; unfold spec_ClassHas.j0
          rfl
        · simpa using spec_has_l0 x r hl x.f2.length 0 false (by omega)
  · simp only [if_neg h2]
    exact hbad
abbrev RNd : Type := S93
theorem rdN (l : List RNd) (i : Nat) (h : i < l.length) : rd_T93 l (i : Int) = l[i] := by
  unfold rd_T93
  simp [h]
theorem rdI (l : List Int) (i : Nat) (h : i < l.length) : rd l (i : Int) = l[i] := by
  unfold rd
  simp [h]
theorem rdB (l : List Bool) (i : Nat) (h : i < l.length) : rdOf false l (i : Int) = l[i] := by
  unfold rdOf
  simp [h]
/-- Own nodes stand ahead. -/
def NodeAt (l : List RNd) (i : Nat) (x : RNd) : Prop := nodeB x = true ∧ ((x.f0 = 3 ∨ x.f0 = 4) → (0 ≤ x.f3 ∧ x.f3 < (i : Int)) ∧ (0 ≤ x.f4 ∧ x.f4 < (i : Int))) ∧ (x.f0 = 5 → 0 ≤ x.f3 ∧ x.f3 < (i : Int))
def NodesOk (l : List RNd) : Prop := ∀ i (h : i < l.length), NodeAt l i l[i]
/-- Two computations of places come to the same. -/
def Both (L : Nat) (f g : Nat → Option (List Bool)) : Prop := ∃ r, r.length = L ∧ Ev f r ∧ Ev g r
theorem Both.step {L : Nat} {f g f' g' : Nat → Option (List Bool)} (hf : ∀ k, f (k + 1) = f' k) (hg : ∀ k, g (k + 1) = g' k) (h : Both L f' g') : Both L f g := by
  obtain ⟨r, hr, a, b⟩ := h
  exact ⟨r, hr, Ev.step hf a, Ev.step hg b⟩
theorem Both.right {L : Nat} {f g g' : Nat → Option (List Bool)} (hg : ∀ k, g (k + 1) = g' k) (h : Both L f g') : Both L f g := by
  obtain ⟨r, hr, a, b⟩ := h
  exact ⟨r, hr, a, Ev.step hg b⟩
theorem Both.congr {L : Nat} {f g f' g' : Nat → Option (List Bool)} (hf : ∀ k, f k = f' k) (hg : ∀ k, g k = g' k) (h : Both L f' g') : Both L f g := by
  obtain ⟨r, hr, a, b⟩ := h
  exact ⟨r, hr, Ev.congr hf a, Ev.congr hg b⟩
theorem Both.now {L : Nat} (r : List Bool) (h : r.length = L) : Both L (fun _ => some r) (fun _ => some r) := ⟨r, h, Ev.now r, Ev.now r⟩
theorem Both.bind {L M : Nat} {f g : Nat → Option (List Bool)} {f' g' : Nat → List Bool → Option (List Bool)} (h : Both M f g) (k : ∀ r, r.length = M → Both L (fun n => f' n r) (fun n => g' n r)) :
    Both L (fun n => (f n).bind (f' n)) (fun n => (g n).bind (g' n)) := by
  obtain ⟨r, hr, a, b⟩ := h
  obtain ⟨q, hq, a', b'⟩ := k r hr
  exact ⟨q, hq, Ev.bind a a', Ev.bind b b'⟩

theorem nodeB_len {x : RNd} (h : nodeB x = true) : x.f2.length ≤ 12 := by
  unfold nodeB noRng at h
  split at h
  · simp only [Bool.and_eq_true, decide_eq_true_eq] at h; omega
  · split at h
    · simp only [Bool.and_eq_true, decide_eq_true_eq] at h; omega
    · split at h
      · simp only [Bool.and_eq_true, decide_eq_true_eq] at h; omega
      · split at h
        · simp only [Bool.and_eq_true, decide_eq_true_eq] at h; omega
        · exact absurd h (by decide)
/-- A class: the loops go side by side. -/
theorem class_both (x : RNd) (t : List Int) (fr : List Bool) (ht : t.length ≤ 300) (hfr : fr.length = t.length + 1) (hn : nodeB x = true) :
    ∀ (n i : Nat) (out : List Bool), i + n = t.length → out.length = t.length + 1 → (∀ j (h : j < out.length), i < j → out[j] = false) →
    Both (t.length + 1) (fun k => impl_ends.l0 k t out (fr.take t.length) ((fr.take t.length).length : Int) (i : Int) x.f0 x.f1 x.f2 x.f3 x.f4 x.f5 x.f6)
      (fun k => spec_l6Step.l0 k t fr out (i : Int) x.f0 x.f1 x.f2 x.f3 x.f4 x.f5 x.f6) := by
  have hx : x.f2.length ≤ 9223372036854775807 := Nat.le_trans (nodeB_len hn) (by decide)
  have hlen : (fr.take t.length).length = t.length := by rw [List.length_take]; omega
  rw [hlen]
  intro n
  induction n with
  | zero =>
    intro i out hi ho hz
    refine Both.step (f' := fun _ => some out) (g' := fun _ => some out) (fun k => ?_) (fun k => ?_) (Both.now out ho)
    · conv => lhs; unfold impl_ends.l0
      rw [if_neg (by omega)]
    · conv => lhs; unfold spec_l6Step.l0
      rw [if_neg (by omega)]
  | succ n ih =>
    intro i out hi ho hz
    have h1 : i < t.length := by omega
    have h2 : i < fr.length := by omega
    have h3 : i + 1 < out.length := by omega
    have e1 : rdOf false (fr.take t.length) (i : Int) = fr[i] := by
      rw [rdB _ i (by rw [hlen]; exact h1), List.getElem_take]
    have e2 : rdOf false fr (i : Int) = fr[i] := rdB fr i h2
    have e3 : rd t (i : Int) = t[i] := rdI t i h1
    have ew : wrap64 ((i : Int) + 1) = ((i + 1 : Nat) : Int) := w1 h1 (by omega)
    have same : out.set (i + 1) false = out := by
      apply List.ext_getElem (by simp)
      intro j ha hb
      rw [List.getElem_set]
      split
      · rename_i e
        exact (hz j hb (by omega)).symm
      · rfl
    have next : ∀ b, (∀ j (h : j < (out.set (i + 1) b).length), i + 1 < j → (out.set (i + 1) b)[j] = false) := by
      intro b j h hj
      rw [List.getElem_set_ne (by omega)]
      exact hz j (by simpa using h) (by omega)
    have c1 : ((i : Int) < (t.length : Int)) := by omega
    have c2 : (0 : Int) ≤ (i : Int) := by omega
    have c3 : ((i : Int) < (fr.length : Int)) := by omega
    have c4 : (0 : Int) ≤ ((i + 1 : Nat) : Int) := by omega
    have c5 : (((i + 1 : Nat) : Int) < (out.length : Int)) := by omega
    have c6 : ((i : Int) < ((fr.take t.length).length : Int)) := by rw [hlen]; omega
    have toN : (((i + 1 : Nat) : Int)).toNat = i + 1 := by omega
    cases hf : fr[i] with
    | false =>
      refine Both.step (f' := fun k => impl_ends.l0 k t (out.set (i + 1) false) (fr.take t.length) (t.length : Int) ((i + 1 : Nat) : Int) x.f0 x.f1 x.f2 x.f3 x.f4 x.f5 x.f6)
        (g' := fun k => spec_l6Step.l0 k t fr out ((i + 1 : Nat) : Int) x.f0 x.f1 x.f2 x.f3 x.f4 x.f5 x.f6) (fun k => ?_) (fun k => ?_) ?_
      · conv => lhs; unfold impl_ends.l0
        rw [if_pos c1, if_pos c2, if_pos c6, e1, hf, if_neg (by decide), ew, if_pos c4, if_pos c5, toN]
      · conv => lhs; unfold spec_l6Step.l0
        rw [if_pos c1, if_pos c2, if_pos c3, e2, hf, if_neg (by decide), ew]
      · rw [same]
        exact ih (i + 1) out (by omega) ho (fun j h hj => hz j h (by omega))
    | true =>
      refine Both.step (f' := fun k => (impl_ClassHas.f k x.f0 x.f1 x.f2 x.f3 x.f4 x.f5 x.f6 t[i]).bind fun b => impl_ends.l0 k t (out.set (i + 1) b) (fr.take t.length) (t.length : Int) ((i + 1 : Nat) : Int) x.f0 x.f1 x.f2 x.f3 x.f4 x.f5 x.f6)
        (g' := fun k => (spec_ClassHas.f k x.f0 x.f1 x.f2 x.f3 x.f4 x.f5 x.f6 t[i]).bind fun b => if b = true then spec_l6Step.l0 k t fr (out.set (i + 1) true) ((i + 1 : Nat) : Int) x.f0 x.f1 x.f2 x.f3 x.f4 x.f5 x.f6 else spec_l6Step.l0 k t fr out ((i + 1 : Nat) : Int) x.f0 x.f1 x.f2 x.f3 x.f4 x.f5 x.f6) (fun k => ?_) (fun k => ?_) ?_
      · conv => lhs; unfold impl_ends.l0
        rw [if_pos c1, if_pos c2, if_pos c6, e1, hf, if_pos rfl, if_pos c1, e3, ew]
        simp only [if_pos c4, if_pos c5, toN]
      · conv => lhs; unfold spec_l6Step.l0
        rw [if_pos c1, if_pos c2, if_pos c3, e2, hf, if_pos rfl, e3, ew]
        simp only [if_pos c4, if_pos c5, toN]
      · have A := impl_has x t[i] hx
        have B := spec_has x t[i] hx
        have C : Both (t.length + 1) (fun k => impl_ends.l0 k t (out.set (i + 1) (hasZ x t[i])) (fr.take t.length) (t.length : Int) ((i + 1 : Nat) : Int) x.f0 x.f1 x.f2 x.f3 x.f4 x.f5 x.f6)
          (fun k => if hasZ x t[i] = true then spec_l6Step.l0 k t fr (out.set (i + 1) true) ((i + 1 : Nat) : Int) x.f0 x.f1 x.f2 x.f3 x.f4 x.f5 x.f6 else spec_l6Step.l0 k t fr out ((i + 1 : Nat) : Int) x.f0 x.f1 x.f2 x.f3 x.f4 x.f5 x.f6) := by
          cases hasZ x t[i] with
          | true => exact ih (i + 1) (out.set (i + 1) true) (by omega) (by simpa using ho) (next true)
          | false =>
            rw [same]
            exact ih (i + 1) out (by omega) ho (fun j h hj => hz j h (by omega))
        obtain ⟨r, hr, a, b⟩ := C
        exact ⟨r, hr, Ev.bind A a, Ev.bind B b⟩

/-- The union of two sets of places. -/
abbrev orL (a b : List Bool) : List Bool := List.zipWith (· || ·) a b
theorem orL_len {a b : List Bool} (h : a.length = b.length) : (orL a b).length = a.length := by
  rw [List.length_zipWith]
  omega
theorem orL_at {a b : List Bool} {i : Nat} (ha : i < a.length) (hb : i < b.length) (h : i < (orL a b).length) : (orL a b)[i] = (a[i] || b[i]) := by
  rw [List.getElem_zipWith]
theorem set_row {z out : List Bool} {i : Nat} {v : Bool} (hz : out.length = z.length) (hi : i < z.length) (hv : v = z[i]) (h : ∀ j (h : j < out.length), j < i → out[j] = z[j]) :
    ∀ j (h : j < (out.set i v).length), j < i + 1 → (out.set i v)[j] = z[j]'(by simp at h; omega) := by
  intro j hj hlt
  rw [List.getElem_set]
  split
  · rename_i e
    subst e
    exact hv
  · exact h j (by simpa using hj) (by omega)
theorem row_all {z out : List Bool} (hz : out.length = z.length) (h : ∀ j (h : j < out.length), j < z.length → out[j] = z[j]) : out = z :=
  List.ext_getElem hz (fun j a b => h j a b)
theorem joined_l0 (a b : List Bool) (hl : a.length = b.length) (hb : b.length ≤ 1000) : ∀ (n i : Nat) (out : List Bool), i + n = b.length → (ho : out.length = b.length) →
    (∀ j (h : j < out.length), j < i → out[j] = (orL a b)[j]'(by rw [orL_len hl]; omega)) → (∀ j (h : j < out.length), i ≤ j → out[j] = a[j]'(by omega)) →
    Ev (fun k => impl_places_joined.l0 k out b (b.length : Int) (i : Int)) (orL a b) := by
  intro n
  induction n with
  | zero =>
    intro i out hi ho h1 h2
    have e : out = orL a b := row_all (by rw [orL_len hl]; omega) (fun j h h' => h1 j h (by rw [orL_len hl] at h'; omega))
    subst e
    refine Ev.step (f := fun _ => some _) (fun k => ?_) (Ev.now _)
    conv => lhs; unfold impl_places_joined.l0
    rw [if_neg (by omega)]
  | succ n ih =>
    intro i out hi ho h1 h2
    have hib : i < b.length := by omega
    have hia : i < a.length := by omega
    have hio : i < out.length := by omega
    have ew : wrap64 ((i : Int) + 1) = ((i + 1 : Nat) : Int) := w1 hib (by omega)
    have toN : ((i : Nat) : Int).toNat = i := by omega
    have e1 : rdOf false out (i : Int) = a[i] := by rw [rdB out i hio]; exact h2 i hio (by omega)
    have e2 : rdOf false b (i : Int) = b[i] := rdB b i hib
    refine Ev.step (f := fun k => impl_places_joined.l0 k (out.set i (a[i] || b[i])) b (b.length : Int) ((i + 1 : Nat) : Int)) (fun k => ?_) ?_
    · conv => lhs; unfold impl_places_joined.l0
      rw [if_pos (by omega), if_pos (by omega), if_pos (by omega), if_pos (by omega), e1, e2, ew, toN]
      cases a[i] <;> rfl
    · refine ih (i + 1) _ (by omega) (by simpa using ho) ?_ ?_
      · exact set_row (by rw [orL_len hl]; omega) (by rw [orL_len hl]; omega) (by rw [orL_at hia hib]) h1
      · intro j h hj
        rw [List.getElem_set_ne (by omega)]
        exact h2 j (by simpa using h) (by omega)
theorem joined_f (a b : List Bool) (hl : a.length = b.length) (hb : b.length ≤ 1000) : Ev (fun k => impl_places_joined.f k a b) (orL a b) := by
  refine Ev.congr (f := fun k => impl_places_joined.l0 k a b (b.length : Int) 0) (fun k => ?_) ?_
  · unfold impl_places_joined.f impl_places_bool_142.f
    rw [if_pos (by omega)]
    rfl
  · exact joined_l0 a b hl hb b.length 0 a (by omega) hl (fun j h hj => by omega) (fun j h hj => rfl)
theorem or_l1 (a b : List Bool) (hl : a.length = b.length) (hb : b.length ≤ 1000) : ∀ (n i : Nat) (out : List Bool), i + n = b.length → (ho : out.length = b.length) →
    (∀ j (h : j < out.length), j < i → out[j] = (orL a b)[j]'(by rw [orL_len hl]; omega)) →
    Ev (fun k => spec_l6Step.l1 k out a b (i : Int)) (orL a b) := by
  intro n
  induction n with
  | zero =>
    intro i out hi ho h1
    have e : out = orL a b := row_all (by rw [orL_len hl]; omega) (fun j h h' => h1 j h (by rw [orL_len hl] at h'; omega))
    subst e
    refine Ev.step (f := fun _ => some _) (fun k => ?_) (Ev.now _)
    conv => lhs; unfold spec_l6Step.l1
    rw [if_neg (by omega)]
  | succ n ih =>
    intro i out hi ho h1
    have hib : i < b.length := by omega
    have hia : i < a.length := by omega
    have hio : i < out.length := by omega
    have ew : wrap64 ((i : Int) + 1) = ((i + 1 : Nat) : Int) := w1 hib (by omega)
    have toN : ((i : Nat) : Int).toNat = i := by omega
    have e1 : rdOf false a (i : Int) = a[i] := rdB a i hia
    have e2 : rdOf false b (i : Int) = b[i] := rdB b i hib
    refine Ev.step (f := fun k => spec_l6Step.l1 k (out.set i (a[i] || b[i])) a b ((i + 1 : Nat) : Int)) (fun k => ?_) ?_
    · conv => lhs; unfold spec_l6Step.l1
      rw [if_pos (by omega), if_pos (by omega), if_pos (by omega), e1, e2, ew, toN]
      cases a[i] with
      | true => rfl
      | false =>
        rw [if_neg (by decide), if_pos (show (i : Int) < (b.length : Int) by omega), Bool.false_or]
    · refine ih (i + 1) _ (by omega) (by simpa using ho) ?_
      exact set_row (by rw [orL_len hl]; omega) (by rw [orL_len hl]; omega) (by rw [orL_at hia hib]) h1
theorem equal_l0 (a b : List Bool) (hl : a.length = b.length) (hb : b.length ≤ 1000) : ∀ (n i : Nat), i + n = b.length → Ev (fun k => impl_places_bool_114.l0 k a b (a.length : Int) (i : Int)) (decide (a.drop i = b.drop i)) := by
  intro n
  induction n with
  | zero =>
    intro i hi
    rw [List.drop_of_length_le (by omega), List.drop_of_length_le (by omega)]
    refine Ev.step (f := fun _ => some _) (fun k => ?_) (Ev.now _)
    conv => lhs; unfold impl_places_bool_114.l0
    rw [if_neg (by omega)]
    rfl
  | succ n ih =>
    intro i hi
    have hib : i < b.length := by omega
    have hia : i < a.length := by omega
    have ew : wrap64 ((i : Int) + 1) = ((i + 1 : Nat) : Int) := w1 hib (by omega)
    have e1 : rdOf false a (i : Int) = a[i] := rdB a i hia
    have e2 : rdOf false b (i : Int) = b[i] := rdB b i hib
    rw [List.drop_eq_getElem_cons hia, List.drop_eq_getElem_cons hib]
    by_cases c : a[i] = b[i]
    · refine Ev.step (f := fun k => impl_places_bool_114.l0 k a b (a.length : Int) ((i + 1 : Nat) : Int)) (fun k => ?_) ?_
      · conv => lhs; unfold impl_places_bool_114.l0
        rw [if_pos (by omega), if_pos (by omega), if_pos (by omega), if_pos (by omega), e1, e2, ew, c]
        simp only [bne_self_eq_false, Bool.false_eq_true, if_false]
      · have e : decide (a[i] :: a.drop (i + 1) = b[i] :: b.drop (i + 1)) = decide (a.drop (i + 1) = b.drop (i + 1)) := by
          rw [c]
          simp only [List.cons.injEq, true_and]
        rw [e]
        exact ih (i + 1) (by omega)
    · refine Ev.step (f := fun _ => some false) (fun k => ?_) ?_
      · conv => lhs; unfold impl_places_bool_114.l0
        rw [if_pos (by omega), if_pos (by omega), if_pos (by omega), if_pos (by omega), e1, e2, if_pos (by simpa using c)]
      · have : decide (a[i] :: a.drop (i + 1) = b[i] :: b.drop (i + 1)) = false := by
          simp only [List.cons.injEq, c, false_and, decide_false]
        rw [this]
        exact Ev.now _
theorem equal_f (a b : List Bool) (hl : a.length = b.length) (hb : b.length ≤ 1000) : Ev (fun k => impl_places_bool_114.f k a b) (decide (a = b)) := by
  refine Ev.congr (f := fun k => impl_places_bool_114.l0 k a b (a.length : Int) 0) (fun k => ?_) ?_
  · unfold impl_places_bool_114.f
    rw [if_pos (by omega)]
  · have := equal_l0 a b hl hb b.length 0 (by omega)
    simpa using this
/-- The places of the second one that the first one lacks. -/
abbrev newV (a b : List Bool) : List Bool := List.zipWith (fun p q => !p && q) a b
theorem newV_any : ∀ (a b : List Bool), a.length = b.length → (newV a b).any id = !decide (orL a b = a)
  | [], [], _ => rfl
  | p :: a, q :: b, h => by
    have ih := newV_any a b (by simpa using h)
    unfold newV orL at ih ⊢
    rw [List.zipWith_cons_cons, List.zipWith_cons_cons, List.any_cons, ih]
    cases p <;> cases q <;> simp
theorem falses_less : ∀ (a b : List Bool), a.length = b.length → (newV a b).any id = true → (orL a b).count false < a.count false
  | [], [], _, h => by simp at h
  | p :: a, q :: b, hl, h => by
    have hl' : a.length = b.length := by simpa using hl
    have le : ∀ (a b : List Bool), a.length = b.length → (orL a b).count false ≤ a.count false := by
      intro a
      induction a with
      | nil => intro b h; cases b <;> simp_all
      | cons p a ih =>
        intro b h
        cases b with
        | nil => simp at h
        | cons q b =>
          have := ih b (by simpa using h)
          unfold orL at this ⊢
          rw [List.zipWith_cons_cons, List.count_cons, List.count_cons]
          cases p <;> cases q <;> simp <;> omega
    unfold newV orL at *
    rw [List.zipWith_cons_cons, List.any_cons] at h
    rw [List.zipWith_cons_cons, List.count_cons, List.count_cons]
    cases p with
    | true =>
      have := falses_less a b hl' (by simpa using h)
      unfold orL at this
      simpa using this
    | false =>
      cases q with
      | true =>
        have := le a b hl'
        simp
        omega
      | false =>
        have := falses_less a b hl' (by simpa using h)
        unfold orL at this
        simp
        omega
theorem take_any (l : List Bool) (i : Nat) (h : i < l.length) : (l.take (i + 1)).any id = ((l.take i).any id || l[i]) := by
  rw [List.take_succ_eq_append_getElem h, List.any_append]
  simp
section
variable (x : RNd) (l : List RNd) (t : List Int)
/-- What one round of a count's second loop goes on with. -/
def grown (out now : List Bool) (kk : Int) (k : Nat) : Option (List Bool) :=
  if (newV out now).any id = true then (if x.f6 = -1 then spec_l6Step.l3 k l t (orL out now) (orL out now) (wrap64 (kk + 1)) x.f0 x.f1 x.f2 x.f3 x.f4 x.f5 x.f6
    else spec_l6Step.l3 k l t (orL out now) now (wrap64 (kk + 1)) x.f0 x.f1 x.f2 x.f3 x.f4 x.f5 x.f6) else some (orL out now)
theorem grow_l4 (out now : List Bool) (kk : Int) (R : List Bool) (hl : out.length = now.length) (hb : now.length ≤ 1000) (hR : Ev (grown x l t out now kk) R) :
    ∀ (n i : Nat) (cur : List Bool), i + n = now.length → (ho : cur.length = now.length) →
    (∀ j (h : j < cur.length), j < i → cur[j] = (orL out now)[j]'(by rw [orL_len hl]; omega)) → (∀ j (h : j < cur.length), i ≤ j → cur[j] = out[j]'(by omega)) →
    Ev (fun k => spec_l6Step.l4 k l t cur now kk (((newV out now).take i).any id) (i : Int) x.f0 x.f1 x.f2 x.f3 x.f4 x.f5 x.f6) R := by
  intro n
  induction n with
  | zero =>
    intro i cur hi ho h1 h2
    have e : cur = orL out now := row_all (by rw [orL_len hl]; omega) (fun j h h' => h1 j h (by rw [orL_len hl] at h'; omega))
    subst e
    have hlen : (orL out now).length = now.length := by rw [orL_len hl]; omega
    rw [List.take_of_length_le (by rw [List.length_zipWith]; omega)]
    refine Ev.step (fun k => ?_) hR
    conv => lhs; unfold spec_l6Step.l4
    rw [if_neg (by omega)]
    simp only [Option.bind_some, List.nil_append, List.length_nil]
    rw [if_pos (show 0 + (orL out now).length < 140737488355328 by omega)]
    rfl
  | succ n ih =>
    intro i cur hi ho h1 h2
    have hib : i < now.length := by omega
    have hia : i < out.length := by omega
    have hio : i < cur.length := by omega
    have ew : wrap64 ((i : Int) + 1) = ((i + 1 : Nat) : Int) := w1 hib (by omega)
    have toN : ((i : Nat) : Int).toNat = i := by omega
    have e1 : rdOf false cur (i : Int) = out[i] := by rw [rdB cur i hio]; exact h2 i hio (by omega)
    have e2 : rdOf false now (i : Int) = now[i] := rdB now i hib
    have c1 : (i : Int) < (cur.length : Int) := by omega
    have c2 : (0 : Int) ≤ (i : Int) := by omega
    have c3 : (i : Int) < (now.length : Int) := by omega
    have eN : (newV out now)[i]'(by rw [List.length_zipWith]; omega) = (!out[i] && now[i]) := by rw [List.getElem_zipWith]
    have next := ih (i + 1) (cur.set i (out[i] || now[i])) (by omega) (by simpa using ho)
      (set_row (by rw [orL_len hl]; omega) (by rw [orL_len hl]; omega) (by rw [orL_at hia hib]) h1)
      (fun j h hj => by
        rw [List.getElem_set_ne (by omega)]
        exact h2 j (by simpa using h) (by omega))
    rw [take_any _ i (by rw [List.length_zipWith]; omega), eN] at next
    refine Ev.step (fun k => ?_) next
    conv => lhs; unfold spec_l6Step.l4
    rw [if_pos c1, e1, e2, ew, toN]
    cases ((newV out now).take i).any id <;> cases out[i] <;> cases now[i] <;> simp [c2, c3]
/-- A count's second loop. -/
theorem max_both (L : Nat) (hL : L ≤ 1000) (own : ∀ fr : List Bool, fr.length = L → Both L (fun k => impl_ends.f k l x.f3 t fr) (fun k => spec_l6Step.f k l x.f3 t fr)) :
    ∀ (m : Nat) (out now : List Bool) (kk : Int), out.length = L → now.length = L → out.count false ≤ m →
    Both L (fun k => impl_ends.l2 k l t now out kk x.f0 x.f1 x.f2 x.f3 x.f4 x.f5 x.f6) (fun k => spec_l6Step.l3 k l t out now kk x.f0 x.f1 x.f2 x.f3 x.f4 x.f5 x.f6) := by
  intro m
  induction m with
  | zero =>
    intro out now kk ho hn hm
    refine Both.step (f' := fun k => impl_ends.j3 k l t now out kk (decide (x.f6 = -1) || decide (kk < x.f6)) x.f0 x.f1 x.f2 x.f3 x.f4 x.f5 x.f6)
      (g' := fun k => spec_l6Step.j4 k l t out now kk (decide (x.f6 = -1) || decide (kk < x.f6)) x.f0 x.f1 x.f2 x.f3 x.f4 x.f5 x.f6) (fun k => ?_) (fun k => ?_) ?_
    · conv => lhs; unfold impl_ends.l2
      by_cases c : x.f6 = -1
      · rw [if_pos c, decide_eq_true c, Bool.true_or]
      · rw [if_neg c, decide_eq_false c, Bool.false_or]
    · conv => lhs; unfold spec_l6Step.l3
      by_cases c : kk < x.f6
      · rw [if_pos c, decide_eq_true c, Bool.or_true]
      · rw [if_neg c, decide_eq_false c, Bool.or_false]
        rfl
    · cases (decide (x.f6 = -1) || decide (kk < x.f6)) with
      | false =>
        refine Both.step (f' := fun _ => some out) (g' := fun _ => some out) (fun k => ?_) (fun k => ?_) (Both.now out ho)
        · conv => lhs; unfold impl_ends.j3
          rw [if_neg (by decide)]
        · conv => lhs; unfold spec_l6Step.j4
          rw [if_neg (by decide)]
      | true =>
        obtain ⟨r, hr, A, B⟩ := own now hn
        have hall : (newV out r).any id = false := by
          cases hc : (newV out r).any id with
          | false => rfl
          | true => have := falses_less out r (by omega) hc; omega
        have heq : orL out r = out := by
          have := newV_any out r (by omega)
          rw [hall] at this
          simpa using this.symm
        refine ⟨out, ho, ?_, ?_⟩
        · refine Ev.step (f := fun k => (impl_ends.f k l x.f3 t now).bind fun t342 => (impl_places_joined.f k out t342).bind fun t345 => (impl_places_bool_114.f k t345 out).bind fun t348 => if t348 = true then some out else (if x.f6 = -1 then impl_ends.l2 k l t t345 t345 (wrap64 (kk + 1)) x.f0 x.f1 x.f2 x.f3 x.f4 x.f5 x.f6 else impl_ends.l2 k l t t342 t345 (wrap64 (kk + 1)) x.f0 x.f1 x.f2 x.f3 x.f4 x.f5 x.f6)) (fun k => ?_) ?_
          · conv => lhs; unfold impl_ends.j3
            rw [if_pos rfl]
          · refine Ev.bind A (Ev.bind (joined_f out r (by omega) (by omega)) (Ev.bind (equal_f (orL out r) out (by rw [orL_len]; omega) (by omega)) ?_))
            rw [heq, decide_eq_true rfl]
            exact Ev.now _
        · refine Ev.step (f := fun k => (spec_l6Step.f k l x.f3 t now).bind fun t193 => spec_l6Step.l4 k l t out t193 kk false 0 x.f0 x.f1 x.f2 x.f3 x.f4 x.f5 x.f6) (fun k => ?_) ?_
          · conv => lhs; unfold spec_l6Step.j4
            rw [if_pos rfl]
          · refine Ev.bind B ?_
            have hR : Ev (grown x l t out r kk) out := by
              refine Ev.congr (f := fun _ => some out) (fun k => ?_) (Ev.now _)
              unfold grown
              rw [hall, if_neg (by decide), heq]
            exact grow_l4 x l t out r kk out (by omega) (by omega) hR r.length 0 out (by omega) (by omega) (fun j h hj => by omega) (fun j h hj => rfl)
  | succ m ih =>
    intro out now kk ho hn hm
    refine Both.step (f' := fun k => impl_ends.j3 k l t now out kk (decide (x.f6 = -1) || decide (kk < x.f6)) x.f0 x.f1 x.f2 x.f3 x.f4 x.f5 x.f6)
      (g' := fun k => spec_l6Step.j4 k l t out now kk (decide (x.f6 = -1) || decide (kk < x.f6)) x.f0 x.f1 x.f2 x.f3 x.f4 x.f5 x.f6) (fun k => ?_) (fun k => ?_) ?_
    · conv => lhs; unfold impl_ends.l2
      by_cases c : x.f6 = -1
      · rw [if_pos c, decide_eq_true c, Bool.true_or]
      · rw [if_neg c, decide_eq_false c, Bool.false_or]
    · conv => lhs; unfold spec_l6Step.l3
      by_cases c : kk < x.f6
      · rw [if_pos c, decide_eq_true c, Bool.or_true]
      · rw [if_neg c, decide_eq_false c, Bool.or_false]
        rfl
    · cases (decide (x.f6 = -1) || decide (kk < x.f6)) with
      | false =>
        refine Both.step (f' := fun _ => some out) (g' := fun _ => some out) (fun k => ?_) (fun k => ?_) (Both.now out ho)
        · conv => lhs; unfold impl_ends.j3
          rw [if_neg (by decide)]
        · conv => lhs; unfold spec_l6Step.j4
          rw [if_neg (by decide)]
      | true =>
        obtain ⟨r, hr, A, B⟩ := own now hn
        have hlen : (orL out r).length = L := by rw [orL_len (by omega)]; exact ho
        have hN := newV_any out r (by omega)
        cases hall : (newV out r).any id with
        | false =>
          have heq : orL out r = out := by
            rw [hall] at hN
            simpa using hN.symm
          refine ⟨out, ho, ?_, ?_⟩
          · refine Ev.step (f := fun k => (impl_ends.f k l x.f3 t now).bind fun t342 => (impl_places_joined.f k out t342).bind fun t345 => (impl_places_bool_114.f k t345 out).bind fun t348 => if t348 = true then some out else (if x.f6 = -1 then impl_ends.l2 k l t t345 t345 (wrap64 (kk + 1)) x.f0 x.f1 x.f2 x.f3 x.f4 x.f5 x.f6 else impl_ends.l2 k l t t342 t345 (wrap64 (kk + 1)) x.f0 x.f1 x.f2 x.f3 x.f4 x.f5 x.f6)) (fun k => ?_) ?_
            · conv => lhs; unfold impl_ends.j3
              rw [if_pos rfl]
            · refine Ev.bind A (Ev.bind (joined_f out r (by omega) (by omega)) (Ev.bind (equal_f (orL out r) out (by rw [orL_len]; omega) (by omega)) ?_))
              rw [heq, decide_eq_true rfl]
              exact Ev.now _
          · refine Ev.step (f := fun k => (spec_l6Step.f k l x.f3 t now).bind fun t193 => spec_l6Step.l4 k l t out t193 kk false 0 x.f0 x.f1 x.f2 x.f3 x.f4 x.f5 x.f6) (fun k => ?_) ?_
            · conv => lhs; unfold spec_l6Step.j4
              rw [if_pos rfl]
            · refine Ev.bind B ?_
              have hR : Ev (grown x l t out r kk) out := by
                refine Ev.congr (f := fun _ => some out) (fun k => ?_) (Ev.now _)
                unfold grown
                rw [hall, if_neg (by decide), heq]
              exact grow_l4 x l t out r kk out (by omega) (by omega) hR r.length 0 out (by omega) (by omega) (fun j h hj => by omega) (fun j h hj => rfl)
        | true =>
          have hne : ¬ orL out r = out := by
            rw [hall] at hN
            simpa using hN.symm
          have hless := falses_less out r (by omega) hall
          have go : Both L (fun k => if x.f6 = -1 then impl_ends.l2 k l t (orL out r) (orL out r) (wrap64 (kk + 1)) x.f0 x.f1 x.f2 x.f3 x.f4 x.f5 x.f6 else impl_ends.l2 k l t r (orL out r) (wrap64 (kk + 1)) x.f0 x.f1 x.f2 x.f3 x.f4 x.f5 x.f6)
              (fun k => if x.f6 = -1 then spec_l6Step.l3 k l t (orL out r) (orL out r) (wrap64 (kk + 1)) x.f0 x.f1 x.f2 x.f3 x.f4 x.f5 x.f6 else spec_l6Step.l3 k l t (orL out r) r (wrap64 (kk + 1)) x.f0 x.f1 x.f2 x.f3 x.f4 x.f5 x.f6) := by
            by_cases c : x.f6 = -1
            · simp only [if_pos c]
              exact ih (orL out r) (orL out r) _ hlen hlen (by omega)
            · simp only [if_neg c]
              exact ih (orL out r) r _ hlen hr (by omega)
          obtain ⟨q, hq, a, b⟩ := go
          refine ⟨q, hq, ?_, ?_⟩
          · refine Ev.step (f := fun k => (impl_ends.f k l x.f3 t now).bind fun t342 => (impl_places_joined.f k out t342).bind fun t345 => (impl_places_bool_114.f k t345 out).bind fun t348 => if t348 = true then some out else (if x.f6 = -1 then impl_ends.l2 k l t t345 t345 (wrap64 (kk + 1)) x.f0 x.f1 x.f2 x.f3 x.f4 x.f5 x.f6 else impl_ends.l2 k l t t342 t345 (wrap64 (kk + 1)) x.f0 x.f1 x.f2 x.f3 x.f4 x.f5 x.f6)) (fun k => ?_) ?_
            · conv => lhs; unfold impl_ends.j3
              rw [if_pos rfl]
            · refine Ev.bind A (Ev.bind (joined_f out r (by omega) (by omega)) (Ev.bind (equal_f (orL out r) out (by rw [orL_len]; omega) (by omega)) ?_))
              rw [decide_eq_false hne]
              exact a
          · refine Ev.step (f := fun k => (spec_l6Step.f k l x.f3 t now).bind fun t193 => spec_l6Step.l4 k l t out t193 kk false 0 x.f0 x.f1 x.f2 x.f3 x.f4 x.f5 x.f6) (fun k => ?_) ?_
            · conv => lhs; unfold spec_l6Step.j4
              rw [if_pos rfl]
            · refine Ev.bind B ?_
              have hR : Ev (grown x l t out r kk) q := by
                refine Ev.congr (fun k => ?_) b
                unfold grown
                rw [hall, if_pos rfl]
              exact grow_l4 x l t out r kk q (by omega) (by omega) hR r.length 0 out (by omega) (by omega) (fun j h hj => by omega) (fun j h hj => rfl)
/-- A count's first loop. -/
theorem min_both (L : Nat) (hL : L ≤ 1000) (own : ∀ fr : List Bool, fr.length = L → Both L (fun k => impl_ends.f k l x.f3 t fr) (fun k => spec_l6Step.f k l x.f3 t fr)) (mn : Nat) (hmn : x.f5 = (mn : Int)) (h20 : mn ≤ 20) :
    ∀ (n i : Nat) (now : List Bool), i + n = mn → now.length = L →
    Both L (fun k => impl_ends.l1 k l t now x.f5 (i : Int) x.f0 x.f1 x.f2 x.f3 x.f4 x.f5 x.f6) (fun k => spec_l6Step.l2 k l t now (i : Int) x.f0 x.f1 x.f2 x.f3 x.f4 x.f5 x.f6) := by
  intro n
  induction n with
  | zero =>
    intro i now hi hn
    refine Both.step (fun k => ?_) (fun k => ?_) (max_both x l t L hL own (now.count false) now now x.f5 hn hn (Nat.le_refl _))
    · conv => lhs; unfold impl_ends.l1
      rw [if_neg (by omega)]
    · conv => lhs; unfold spec_l6Step.l2
      rw [if_neg (by omega)]
      simp only [Option.bind_some, List.nil_append, List.length_nil]
      rw [if_pos (by omega)]
  | succ n ih =>
    intro i now hi hn
    have ew : wrap64 ((i : Int) + 1) = ((i + 1 : Nat) : Int) := by rw [w64] <;> omega
    refine Both.step (f' := fun k => (impl_ends.f k l x.f3 t now).bind fun y => impl_ends.l1 k l t y x.f5 ((i + 1 : Nat) : Int) x.f0 x.f1 x.f2 x.f3 x.f4 x.f5 x.f6)
      (g' := fun k => (spec_l6Step.f k l x.f3 t now).bind fun y => spec_l6Step.l2 k l t y ((i + 1 : Nat) : Int) x.f0 x.f1 x.f2 x.f3 x.f4 x.f5 x.f6) (fun k => ?_) (fun k => ?_) ?_
    · conv => lhs; unfold impl_ends.l1
      rw [if_pos (by omega), ew]
    · conv => lhs; unfold spec_l6Step.l2
      rw [if_pos (by omega), ew]
    · exact Both.bind (f' := fun k y => impl_ends.l1 k l t y x.f5 ((i + 1 : Nat) : Int) x.f0 x.f1 x.f2 x.f3 x.f4 x.f5 x.f6) (g' := fun k y => spec_l6Step.l2 k l t y ((i + 1 : Nat) : Int) x.f0 x.f1 x.f2 x.f3 x.f4 x.f5 x.f6) (own now hn) (fun r hr => ih (i + 1) r (by omega) hr)
end
theorem steps_both (l : List RNd) (t : List Int) (ht : t.length ≤ 300) (hok : NodesOk l) : ∀ (n : Nat) (hn : n < l.length) (fr : List Bool), fr.length = t.length + 1 →
    Both (t.length + 1) (fun k => impl_ends.f k l (n : Int) t fr) (fun k => spec_l6Step.f k l (n : Int) t fr) := by
  intro n
  induction n using Nat.strongRecOn with
  | _ n ih =>
  intro hn fr hfr
  obtain ⟨hb, h34, h5⟩ := hok n hn
  have e : rd_T93 l (n : Int) = l[n] := rdN l n hn
  have own : ∀ a : Int, 0 ≤ a → a < (n : Int) → ∀ fr : List Bool, fr.length = t.length + 1 → Both (t.length + 1) (fun k => impl_ends.f k l a t fr) (fun k => spec_l6Step.f k l a t fr) := by
    intro a h0 h1 fr hfr
    obtain ⟨m, rfl⟩ := Int.eq_ofNat_of_zero_le h0
    exact ih m (by omega) (by omega) fr hfr
  have c1 : (0 : Int) ≤ (n : Int) := by omega
  have c2 : (n : Int) < (l.length : Int) := by omega
  have d1 : (0 : Int) ≤ (fr.length : Int) := by omega
  have d2 : ((fr.length : Int) : Int).toNat ≤ 281474976710656 := by omega
  have d3 : (0 : Int) ≤ (t.length : Int) := by omega
  have d4 : (t.length : Int) ≤ (fr.length : Int) := by omega
  have d5 : 0 + fr.length < 140737488355328 := by omega
  have toF : ((fr.length : Int) : Int).toNat = fr.length := by omega
  have toT : ((t.length : Int) : Int).toNat = t.length := by omega
  generalize hx : l[n] = x at *
  by_cases k1 : x.f0 = 1
  · refine Both.step (f' := fun _ => some fr) (g' := fun _ => some fr) (fun k => ?_) (fun k => ?_) (Both.now fr hfr)
    · conv => lhs; unfold impl_ends.f
      rw [if_pos c1, if_pos c2, e, if_pos k1]
    · conv => lhs; unfold spec_l6Step.f
      rw [if_pos d1, if_pos d2, Option.bind_some, if_pos c1, if_pos c2, e, if_pos k1]
      simp only [Option.bind_some, List.nil_append, List.length_nil]
      rw [if_pos d5]
  by_cases k2 : x.f0 = 2
  · have := class_both x t fr ht hfr hb t.length 0 (List.replicate fr.length false) (by omega) (by rw [List.length_replicate]; exact hfr) (fun j h _ => by rw [List.getElem_replicate])
    refine Both.step (fun k => ?_) (fun k => ?_) this
    · conv => lhs; unfold impl_ends.f
      rw [if_pos c1, if_pos c2, e, if_neg k1, if_pos k2, if_pos d1, if_pos d2, if_pos d3, if_pos d4, Option.bind_some, toF, toT]
      rfl
    · conv => lhs; unfold spec_l6Step.f
      rw [if_pos d1, if_pos d2, Option.bind_some, if_pos c1, if_pos c2, e, if_neg k1, if_pos k2, toF]
      rfl
  by_cases k3 : x.f0 = 3
  · obtain ⟨⟨a0, a1⟩, b0, b1⟩ := h34 (.inl k3)
    refine Both.step (f' := fun k => (impl_ends.f k l x.f3 t fr).bind fun y => impl_ends.f k l x.f4 t y) (g' := fun k => (spec_l6Step.f k l x.f3 t fr).bind fun y => spec_l6Step.f k l x.f4 t y) (fun k => ?_) (fun k => ?_) ?_
    · conv => lhs; unfold impl_ends.f
      rw [if_pos c1, if_pos c2, e, if_neg k1, if_neg k2, if_pos k3]
      simp only [Option.bind_fun_some]
    · conv => lhs; unfold spec_l6Step.f
      rw [if_pos d1, if_pos d2, Option.bind_some, if_pos c1, if_pos c2, e, if_neg k1, if_neg k2, if_pos k3]
      simp only [Option.bind_fun_some]
    · exact Both.bind (f' := fun k y => impl_ends.f k l x.f4 t y) (g' := fun k y => spec_l6Step.f k l x.f4 t y) (own x.f3 a0 a1 fr hfr) (fun r hr => own x.f4 b0 b1 r hr)
  by_cases k4 : x.f0 = 4
  · obtain ⟨⟨a0, a1⟩, b0, b1⟩ := h34 (.inr k4)
    obtain ⟨p, hp, pa, pb⟩ := own x.f3 a0 a1 fr hfr
    obtain ⟨q, hq, qa, qb⟩ := own x.f4 b0 b1 fr hfr
    refine ⟨orL p q, by rw [orL_len (by omega)]; exact hp, ?_, ?_⟩
    · refine Ev.step (f := fun k => (impl_ends.f k l x.f3 t fr).bind fun y => (impl_ends.f k l x.f4 t fr).bind fun z => impl_places_joined.f k y z) (fun k => ?_) (Ev.bind pa (Ev.bind qa (joined_f p q (by omega) (by omega))))
      conv => lhs; unfold impl_ends.f
      rw [if_pos c1, if_pos c2, e, if_neg k1, if_neg k2, if_neg k3, if_pos k4]
      simp only [Option.bind_fun_some]
    · refine Ev.step (f := fun k => (spec_l6Step.f k l x.f3 t fr).bind fun y => (spec_l6Step.f k l x.f4 t fr).bind fun z => spec_l6Step.l1 k (List.replicate fr.length false) y z 0) (fun k => ?_) (Ev.bind pb (Ev.bind qb (or_l1 p q (by omega) (by omega) q.length 0 _ (by omega) (by rw [List.length_replicate]; omega) (fun j h hj => by omega))))
      conv => lhs; unfold spec_l6Step.f
      rw [if_pos d1, if_pos d2, Option.bind_some, if_pos c1, if_pos c2, e, if_neg k1, if_neg k2, if_neg k3, if_pos k4, toF]
  by_cases k5 : x.f0 = 5
  · obtain ⟨a0, a1⟩ := h5 k5
    have hmin : 0 ≤ x.f5 ∧ x.f5 ≤ 20 := by
      unfold nodeB inZ at hb
      rw [if_neg k1, if_neg k2, if_neg (by omega), if_pos k5] at hb
      simp only [Bool.and_eq_true, decide_eq_true_eq] at hb
      exact hb.2.2.2.1
    obtain ⟨mn, hmn⟩ := Int.eq_ofNat_of_zero_le hmin.1
    refine Both.step (fun k => ?_) (fun k => ?_) (min_both x l t (t.length + 1) (by omega) (fun fr hfr => own x.f3 a0 a1 fr hfr) mn hmn (by omega) mn 0 fr (by omega) hfr)
    · conv => lhs; unfold impl_ends.f
      rw [if_pos c1, if_pos c2, e, if_neg k1, if_neg k2, if_neg k3, if_neg k4]
      rfl
    · conv => lhs; unfold spec_l6Step.f
      rw [if_pos d1, if_pos d2, Option.bind_some, if_pos c1, if_pos c2, e, if_neg k1, if_neg k2, if_neg k3, if_neg k4, if_pos k5]
      simp only [Option.bind_some, List.nil_append, List.length_nil]
      rw [if_pos d5]
      rfl
  · exfalso
    unfold nodeB at hb
    rw [if_neg k1, if_neg k2, if_neg (by omega), if_neg k5] at hb
    exact absurd hb (by decide)
theorem rd_same (l : List Int) (i : Nat) (v : Int) (h : i < l.length) : rd (l.set i v) (i : Int) = v := by
  unfold rd
  simp [h]
theorem rd_other (l : List Int) (i j : Nat) (v : Int) (h : i ≠ j) : rd (l.set i v) (j : Int) = rd l (j : Int) := by
  unfold rd
  simp only [Int.toNat_natCast, List.getD_eq_getElem?_getD, List.getElem?_set_ne h]
theorem Ev.step2 {α : Type} {g f : Nat → Option α} {r : α} (h : ∀ k, g (k + 1 + 1) = f k) (k : Ev f r) : Ev g r :=
  Ev.step (f := fun k => g (k + 1)) (fun _ => rfl) (Ev.step h k)
section
variable (l : List RNd) (hl : l.length ≤ 120)
include hl
theorem back (n : Nat) (h : n < l.length) : wrap64 ((n : Int) - 1) = (n : Int) - 1 := by rw [w64] <;> omega
theorem tree_eq (n : Nat) (h : n < l.length) (x : RNd) (hx : l[n] = x) : ∀ k, spec_l6Tree.f (k + 1 + 1) l (n : Int) =
    if x.f0 = 3 ∨ x.f0 = 4 then (if x.f4 = (n : Int) - 1 then (spec_l6Tree.f k l ((n : Int) - 1)).bind fun t => if t < 1 then some (-1) else (if x.f3 = wrap64 (t - 1) then spec_l6Tree.f k l (wrap64 (t - 1)) else some (-1)) else some (-1))
    else if x.f0 = 5 then (if x.f3 = (n : Int) - 1 then spec_l6Tree.f k l ((n : Int) - 1) else some (-1)) else some (n : Int) := by
  intro k
  have e : rd_T93 l (n : Int) = x := (rdN l n h).trans hx
  have c1 : ¬ ((n : Int) < 0) := by omega
  have c2 : (0 : Int) ≤ (n : Int) := by omega
  have c3 : (n : Int) < (l.length : Int) := by omega
  conv => lhs; unfold spec_l6Tree.f
  rw [if_neg c1, if_pos c2, if_pos c3, e]
  by_cases k3 : x.f0 = 3
  · rw [if_pos k3, if_pos (.inl k3)]
    conv => lhs; unfold spec_l6Tree.j0
    rw [if_pos (by simp [k3]), if_pos c2, if_pos c3, e, back l hl n h]
    simp only [Option.bind_fun_some]
  · rw [if_neg k3]
    by_cases k4 : x.f0 = 4
    · rw [if_pos (.inr k4)]
      conv => lhs; unfold spec_l6Tree.j0
      rw [if_pos (by simp [k4]), if_pos c2, if_pos c3, e, back l hl n h]
      simp only [Option.bind_fun_some]
    · rw [if_neg (show ¬ (x.f0 = 3 ∨ x.f0 = 4) by omega)]
      conv => lhs; unfold spec_l6Tree.j0
      rw [if_neg (by simp [k4])]
      by_cases k5 : x.f0 = 5
      · rw [if_pos k5, if_pos k5, if_pos c2, if_pos c3, e, back l hl n h]
        simp only [Option.bind_fun_some]
      · rw [if_neg k5, if_neg k5]
omit hl in
theorem weight_eq (n : Nat) (h : n < l.length) (x : RNd) (hx : l[n] = x) : ∀ k, spec_l6Weight.f (k + 1 + 1) l (n : Int) =
    if x.f0 = 3 ∨ x.f0 = 4 then (spec_l6Weight.f k l x.f3).bind fun p => (spec_l6Weight.f k l x.f4).bind fun q => some (mn (wrap64 (p + q)) 2001)
    else if x.f0 = 5 then (spec_l6Weight.f k l x.f3).bind fun p => some (mn (wrap64 (p * (mx (mx 1 (wrap64 (x.f5 + 1))) x.f6))) 2001) else some (mn 1 2001) := by
  intro k
  have e : rd_T93 l (n : Int) = x := (rdN l n h).trans hx
  have c2 : (0 : Int) ≤ (n : Int) := by omega
  have c3 : (n : Int) < (l.length : Int) := by omega
  conv => lhs; unfold spec_l6Weight.f
  rw [if_pos c2, if_pos c3, e]
  by_cases k3 : x.f0 = 3
  · rw [if_pos k3, if_pos (.inl k3)]
    conv => lhs; unfold spec_l6Weight.j0
    rw [if_pos (by simp [k3])]
  · rw [if_neg k3]
    by_cases k4 : x.f0 = 4
    · rw [if_pos (.inr k4)]
      conv => lhs; unfold spec_l6Weight.j0
      rw [if_pos (by simp [k4])]
    · rw [if_neg (show ¬ (x.f0 = 3 ∨ x.f0 = 4) by omega)]
      conv => lhs; unfold spec_l6Weight.j0
      rw [if_neg (by simp [k4])]
omit hl in
theorem tree_neg : Ev (fun k => spec_l6Tree.f k l (-1)) (-1) := by
  refine Ev.step (f := fun _ => some (-1)) (fun k => ?_) (Ev.now _)
  conv => lhs; unfold spec_l6Tree.f
  rw [if_pos (by omega)]
/-- What is wrong at one node is seen from each node behind it. -/
theorem tree_far (i : Nat) (hi : i < l.length) (hneg : Ev (fun k => spec_l6Tree.f k l (i : Int)) (-1)) : ∀ n, i ≤ n → n < l.length →
    ∃ t, Ev (fun k => spec_l6Tree.f k l (n : Int)) t ∧ t ≤ (n : Int) ∧ (t = -1 ∨ (i : Int) < t) := by
  intro n
  induction n using Nat.strongRecOn with
  | _ n ih =>
  intro hin hn
  by_cases e : n = i
  · subst e
    exact ⟨-1, hneg, by omega, .inl rfl⟩
  obtain ⟨b, hb, hbn, hbi⟩ := ih (n - 1) (by omega) (by omega) (by omega)
  have en : (((n - 1 : Nat)) : Int) = (n : Int) - 1 := by omega
  rw [en] at hb hbn
  have te := tree_eq l hl n hn l[n] rfl
  generalize l[n] = x at te
  by_cases k34 : x.f0 = 3 ∨ x.f0 = 4
  · by_cases c4 : x.f4 = (n : Int) - 1
    · by_cases cb : b < 1
      · refine ⟨-1, Ev.step2 te ?_, by omega, .inl rfl⟩
        simp only [if_pos k34, if_pos c4]
        refine Ev.bind hb ?_
        simp only [if_pos cb]
        exact Ev.now _
      · have ew : wrap64 (b - 1) = b - 1 := by rw [w64] <;> omega
        by_cases c3 : x.f3 = b - 1
        · obtain ⟨m, hm⟩ := Int.eq_ofNat_of_zero_le (show 0 ≤ b - 1 by omega)
          obtain ⟨t, ht, htn, hti⟩ := ih m (by omega) (by omega) (by omega)
          refine ⟨t, Ev.step2 te ?_, by omega, hti⟩
          simp only [if_pos k34, if_pos c4]
          refine Ev.bind hb ?_
          simp only [if_neg cb, ew, if_pos c3]
          simp only [hm]
          exact ht
        · refine ⟨-1, Ev.step2 te ?_, by omega, .inl rfl⟩
          simp only [if_pos k34, if_pos c4]
          refine Ev.bind hb ?_
          simp only [if_neg cb, ew, if_neg c3]
          exact Ev.now _
    · refine ⟨-1, Ev.step2 te ?_, by omega, .inl rfl⟩
      simp only [if_pos k34, if_neg c4]
      exact Ev.now _
  · by_cases k5 : x.f0 = 5
    · by_cases c3 : x.f3 = (n : Int) - 1
      · refine ⟨b, Ev.step2 te ?_, by omega, hbi⟩
        simp only [if_neg k34, if_pos k5, if_pos c3]
        exact hb
      · refine ⟨-1, Ev.step2 te ?_, by omega, .inl rfl⟩
        simp only [if_neg k34, if_pos k5, if_neg c3]
        exact Ev.now _
    · refine ⟨n, Ev.step2 te ?_, by omega, .inr (by omega)⟩
      simp only [if_neg k34, if_neg k5]
      exact Ev.now _
/-- The specification's last part. -/
def okTail (k : Nat) : Option Bool := (spec_l6Tree.f k l (wrap64 ((l.length : Int) - 1))).bind fun t => if t = 0 then (spec_l6Weight.f k l (wrap64 ((l.length : Int) - 1))).bind fun w => some (decide (w ≤ 2000)) else some false
variable (hr : ∀ x ∈ l, x.f2.length ≤ 9223372036854775807)
include hr
theorem spec_good (E : Bool) (hE : Ev (okTail l) E) : ∀ (n i : Nat), i + n = l.length → (l.drop i).all nodeB = true → Ev (fun k => spec_RegexOk.l0 k l (i : Int)) E := by
  intro n
  induction n with
  | zero =>
    intro i hi _
    refine Ev.step (fun k => ?_) hE
    conv => lhs; unfold spec_RegexOk.l0
    rw [if_neg (by omega)]
    rfl
  | succ n ih =>
    intro i hi ha
    have hlt : i < l.length := by omega
    rw [List.drop_eq_getElem_cons hlt, List.all_cons, Bool.and_eq_true] at ha
    have A := spec_node l[i] (hr _ (List.getElem_mem hlt))
    rw [ha.1] at A
    refine Ev.step (f := fun k => (spec_l6NodeOk.f k l[i].f0 l[i].f1 l[i].f2 l[i].f3 l[i].f4 l[i].f5 l[i].f6).bind fun ok => if ok = true then spec_RegexOk.l0 k l ((i + 1 : Nat) : Int) else some false) (fun k => ?_) (Ev.bind A ?_)
    · conv => lhs; unfold spec_RegexOk.l0
      rw [if_pos (by omega), if_pos (by omega), rdN l i hlt, w1 hlt (by omega)]
    · simp only [if_true]
      exact ih (i + 1) (by omega) ha.2
theorem spec_bad : ∀ (n i : Nat), i + n = l.length → (l.drop i).all nodeB = false → Ev (fun k => spec_RegexOk.l0 k l (i : Int)) false := by
  intro n
  induction n with
  | zero =>
    intro i hi h
    rw [List.drop_of_length_le (by omega)] at h
    exact absurd h (by simp)
  | succ n ih =>
    intro i hi ha
    have hlt : i < l.length := by omega
    rw [List.drop_eq_getElem_cons hlt, List.all_cons] at ha
    have A := spec_node l[i] (hr _ (List.getElem_mem hlt))
    refine Ev.step (f := fun k => (spec_l6NodeOk.f k l[i].f0 l[i].f1 l[i].f2 l[i].f3 l[i].f4 l[i].f5 l[i].f6).bind fun ok => if ok = true then spec_RegexOk.l0 k l ((i + 1 : Nat) : Int) else some false) (fun k => ?_) (Ev.bind A ?_)
    · conv => lhs; unfold spec_RegexOk.l0
      rw [if_pos (by omega), if_pos (by omega), rdN l i hlt, w1 hlt (by omega)]
    · cases hc : nodeB l[i] with
      | false => exact Ev.now _
      | true =>
        rw [hc, Bool.true_and] at ha
        simp only [if_true]
        exact ih (i + 1) (by omega) ha
theorem spec_ok (h1 : 1 ≤ l.length) (v : Bool) (h : Ev (fun k => spec_RegexOk.l0 k l ((0 : Nat) : Int)) v) : Ev (fun k => spec_RegexOk.f k l) v := by
  have _ := hr
  refine Ev.congr (f := fun k => spec_RegexOk.j0 k l false) (fun k => ?_) (Ev.step (fun k => ?_) h)
  · unfold spec_RegexOk.f
    rw [if_neg (by omega), decide_eq_false (by omega)]
  · rfl
/-- What a wrong node comes to. -/
theorem spec_wrong (h1 : 1 ≤ l.length) (i : Nat) (hi : i < l.length) (h : nodeB l[i] = true → Ev (fun k => spec_l6Tree.f k l (i : Int)) (-1)) : Ev (fun k => spec_RegexOk.f k l) false := by
  refine spec_ok l hl hr h1 false ?_
  cases ha : l.all nodeB with
  | false => exact spec_bad l hl hr l.length 0 (by omega) (by rw [List.drop_zero]; exact ha)
  | true =>
    refine spec_good l hl hr false ?_ l.length 0 (by omega) (by rw [List.drop_zero]; exact ha)
    have hb : nodeB l[i] = true := List.all_eq_true.1 ha _ (List.getElem_mem hi)
    obtain ⟨t, ht, _, hti⟩ := tree_far l hl i hi (h hb) (l.length - 1) (by omega) (by omega)
    unfold okTail
    have e : wrap64 ((l.length : Int) - 1) = ((l.length - 1 : Nat) : Int) := by rw [w64] <;> omega
    rw [e]
    refine Ev.bind ht ?_
    simp only [if_neg (show ¬ t = 0 by omega)]
    exact Ev.now _
/-- What the program has found of the nodes so far. -/
def Found (i : Nat) (fs ws : List Int) : Prop := fs.length = l.length ∧ ws.length = l.length ∧ ∀ j (h : j < l.length), j < i →
  NodeAt l j l[j] ∧ (0 ≤ rd fs (j : Int) ∧ rd fs (j : Int) ≤ (j : Int)) ∧ Ev (fun k => spec_l6Tree.f k l (j : Int)) (rd fs (j : Int)) ∧ Ev (fun k => spec_l6Weight.f k l (j : Int)) (rd ws (j : Int))
omit hl hr in
theorem Found.next {i : Nat} {fs ws fs' ws' : List Int} (h : Found l i fs ws) (hf : fs'.length = fs.length) (hw : ws'.length = ws.length) (hfo : ∀ j : Nat, i ≠ j → rd fs' (j : Int) = rd fs (j : Int)) (hwo : ∀ j : Nat, i ≠ j → rd ws' (j : Int) = rd ws (j : Int))
    (hn : ∀ (hi : i < l.length), NodeAt l i l[i] ∧ (0 ≤ rd fs' (i : Int) ∧ rd fs' (i : Int) ≤ (i : Int)) ∧ Ev (fun k => spec_l6Tree.f k l (i : Int)) (rd fs' (i : Int)) ∧ Ev (fun k => spec_l6Weight.f k l (i : Int)) (rd ws' (i : Int))) : Found l (i + 1) fs' ws' := by
  refine ⟨hf.trans h.1, hw.trans h.2.1, fun j hj hlt => ?_⟩
  by_cases e : i = j
  · subst e
    exact hn hj
  · rw [hfo j e, hwo j e]
    exact h.2.2 j hj (by omega)
theorem ok_loop (h1 : 1 ≤ l.length) : ∀ (n i : Nat) (fs ws : List Int), i + n = l.length → Found l i fs ws →
    ∃ v, Ev (fun k => impl_RegexOk.l0 k l fs ws l (l.length : Int) (i : Int)) v ∧ Ev (fun k => spec_RegexOk.f k l) v ∧ (v = true → NodesOk l) := by
  intro n
  induction n with
  | zero =>
    intro i fs ws hi hF
    have e : wrap64 ((l.length : Int) - 1) = ((l.length - 1 : Nat) : Int) := by rw [w64] <;> omega
    obtain ⟨_, ⟨t0, t1⟩, hT, hW⟩ := hF.2.2 (l.length - 1) (by omega) (by omega)
    have hall : l.all nodeB = true := by
      rw [List.all_eq_true]
      intro x hx
      obtain ⟨j, hj, rfl⟩ := List.getElem_of_mem hx
      exact (hF.2.2 j hj (by omega)).1.1
    have hok : NodesOk l := fun j hj => (hF.2.2 j hj (by omega)).1
    refine ⟨if rd fs ((l.length - 1 : Nat) : Int) = 0 then decide (rd ws ((l.length - 1 : Nat) : Int) ≤ 2000) else false, ?_, ?_, fun _ => hok⟩
    · refine Ev.step (f := fun _ => some _) (fun k => ?_) (Ev.now _)
      conv => lhs; unfold impl_RegexOk.l0
      rw [if_neg (by omega), e, if_pos (by omega), if_pos (by rw [hF.1]; omega)]
      by_cases c : rd fs ((l.length - 1 : Nat) : Int) = 0
      · rw [if_pos c, if_pos c, if_pos (by rw [hF.2.1]; omega)]
      · rw [if_neg c, if_neg c]
    · refine spec_ok l hl hr h1 _ (spec_good l hl hr _ ?_ l.length 0 (by omega) (by rw [List.drop_zero]; exact hall))
      unfold okTail
      rw [e]
      refine Ev.bind hT ?_
      by_cases c : rd fs ((l.length - 1 : Nat) : Int) = 0
      · simp only [if_pos c]
        exact Ev.bind hW (Ev.now _)
      · simp only [if_neg c]
        exact Ev.now _
  | succ n ih =>
    intro i fs ws hi hF
    have hlt : i < l.length := by omega
    have ew : wrap64 ((i : Int) + 1) = ((i + 1 : Nat) : Int) := w1 hlt (by omega)
    have eb : wrap64 ((i : Int) - 1) = (i : Int) - 1 := back l hl i hlt
    have c2 : (0 : Int) ≤ (i : Int) := by omega
    have c3 : (i : Int) < (l.length : Int) := by omega
    have cf : (i : Int) < (fs.length : Int) := by rw [hF.1]; omega
    have cw : (i : Int) < (ws.length : Int) := by rw [hF.2.1]; omega
    have toN : ((i : Nat) : Int).toNat = i := by omega
    have hif : i < fs.length := by rw [hF.1]; exact hlt
    have hiw : i < ws.length := by rw [hF.2.1]; exact hlt
    have te := tree_eq l hl i hlt l[i] rfl
    have we := weight_eq l i hlt l[i] rfl
    have A := impl_node l[i] (hr _ (List.getElem_mem hlt))
    have wrong := spec_wrong l hl hr h1 i hlt
    have hnode : NodeAt l i l[i] = (nodeB l[i] = true ∧ ((l[i].f0 = 3 ∨ l[i].f0 = 4) → (0 ≤ l[i].f3 ∧ l[i].f3 < (i : Int)) ∧ (0 ≤ l[i].f4 ∧ l[i].f4 < (i : Int))) ∧ (l[i].f0 = 5 → 0 ≤ l[i].f3 ∧ l[i].f3 < (i : Int))) := rfl
    have step : ∀ k, impl_RegexOk.l0 (k + 1) l fs ws l (l.length : Int) (i : Int) = (impl_RNode_fits.f k l[i].f0 l[i].f1 l[i].f2 l[i].f3 l[i].f4 l[i].f5 l[i].f6).bind fun ok => if ok = true then
        (impl_RegexOk.j1 k l (fs.set i (i : Int)) (ws.set i 1) (i : Int) (i : Int) l (l.length : Int) (i : Int) l[i].f0 (decide (l[i].f0 = 3 ∨ l[i].f0 = 4)) l[i].f0 l[i].f1 l[i].f2 l[i].f3 l[i].f4 l[i].f5 l[i].f6) else some false := by
      intro k
      conv => lhs; unfold impl_RegexOk.l0
      rw [if_pos c3, if_pos c2, if_pos c3, if_pos cf]
      simp only [Option.bind_some, if_pos cw, rdN l i hlt, toN]
      congr 1
      funext ok
      cases ok with
      | false => rfl
      | true =>
        simp only [if_true]
        by_cases k3 : l[i].f0 = 3
        · rw [if_pos k3, k3]; rfl
        · rw [if_neg k3]
          congr 1
          by_cases k4 : l[i].f0 = 4
          · rw [k4]; rfl
          · rw [decide_eq_false (show ¬ (l[i].f0 = 3 ∨ l[i].f0 = 4) by omega)]
            simpa using k4
    -- a wrong node
    have fails : (nodeB l[i] = true → Ev (fun k => spec_l6Tree.f k l (i : Int)) (-1)) → Ev (fun k => impl_RegexOk.l0 k l fs ws l (l.length : Int) (i : Int)) false →
        ∃ v, Ev (fun k => impl_RegexOk.l0 k l fs ws l (l.length : Int) (i : Int)) v ∧ Ev (fun k => spec_RegexOk.f k l) v ∧ (v = true → NodesOk l) :=
      fun h1 h2 => ⟨false, h2, wrong h1, fun h => absurd h (by decide)⟩
    cases hb : nodeB l[i] with
    | false =>
      refine fails (fun h => absurd (hb.symm.trans h) (by decide)) (Ev.step step (Ev.bind A ?_))
      rw [hb]
      exact Ev.now _
    | true =>
    rw [hb] at A
    have lf : (fs.set i (i : Int)).length = fs.length := by simp
    have lw : (ws.set i 1).length = ws.length := by simp
    have through : ∀ {v : Bool}, Ev (fun k => impl_RegexOk.j1 k l (fs.set i (i : Int)) (ws.set i 1) (i : Int) (i : Int) l (l.length : Int) (i : Int) l[i].f0 (decide (l[i].f0 = 3 ∨ l[i].f0 = 4)) l[i].f0 l[i].f1 l[i].f2 l[i].f3 l[i].f4 l[i].f5 l[i].f6) v →
        Ev (fun k => impl_RegexOk.l0 k l fs ws l (l.length : Int) (i : Int)) v := by
      intro v h
      refine Ev.step step (Ev.bind A ?_)
      simp only [if_true]
      exact h
    generalize hx : l[i] = x at *
    by_cases k34 : x.f0 = 3 ∨ x.f0 = 4
    · rw [decide_eq_true k34] at through
      simp only [if_pos k34] at te we
      by_cases i0 : i = 0
      · -- nothing stands ahead
        have hneg : Ev (fun k => spec_l6Tree.f k l (i : Int)) (-1) := by
          refine Ev.step2 te ?_
          by_cases c4 : x.f4 = (i : Int) - 1
          · simp only [if_pos c4]
            have := tree_neg l
            rw [show (i : Int) - 1 = -1 by omega]
            refine Ev.bind this ?_
            simp only [if_pos (show (-1 : Int) < 1 by omega)]
            exact Ev.now _
          · simp only [if_neg c4]
            exact Ev.now _
        refine fails (fun _ => hneg) (through (Ev.step (f := fun _ => some false) (fun k => ?_) (Ev.now _)))
        conv => lhs; unfold impl_RegexOk.j1
        rw [if_pos rfl, if_pos (show (i : Int) = 0 by omega)]
      have cn0 : ¬ (i : Int) = 0 := by omega
      obtain ⟨m, hm⟩ : ∃ m : Nat, i = m + 1 := ⟨i - 1, by omega⟩
      have em : (i : Int) - 1 = (m : Int) := by omega
      obtain ⟨hAm, ⟨b0, b1⟩, hTm, hWm⟩ := hF.2.2 m (by omega) (by omega)
      rw [em] at te
      replace eb := eb.trans em
      by_cases c4 : x.f4 = (m : Int)
      · simp only [if_pos c4] at te
        have eB : rd (fs.set i (i : Int)) x.f4 = rd fs (m : Int) := by rw [c4]; exact rd_other fs i m _ (by omega)
        have eBw : rd (ws.set i 1) x.f4 = rd ws (m : Int) := by rw [c4]; exact rd_other ws i m _ (by omega)
        generalize hb' : rd fs (m : Int) = b at *
        by_cases cb : b = 0
        · refine fails (fun _ => Ev.step2 te (Ev.bind hTm ?_)) (through (Ev.step (f := fun _ => some false) (fun k => ?_) (Ev.now _)))
          · simp only [if_pos (show b < 1 by omega)]
            exact Ev.now _
          · conv => lhs; unfold impl_RegexOk.j1
            rw [if_pos rfl, if_neg cn0, eb, if_pos c4, if_pos (by omega), if_pos (by rw [lf]; omega), eB, if_pos cb]
        · have ewb : wrap64 (b - 1) = b - 1 := by rw [w64] <;> omega
          by_cases ca : x.f3 = b - 1
          · -- a right node
            obtain ⟨a, ha⟩ := Int.eq_ofNat_of_zero_le (show 0 ≤ b - 1 by omega)
            obtain ⟨hAa, ⟨a0, a1⟩, hTa, hWa⟩ := hF.2.2 a (by omega) (by omega)
            have ca' : x.f3 = (a : Int) := by omega
            have eA : rd (fs.set i (i : Int)) x.f3 = rd fs (a : Int) := by rw [ca']; exact rd_other fs i a _ (by omega)
            have eAw : rd (ws.set i 1) x.f3 = rd ws (a : Int) := by rw [ca']; exact rd_other ws i a _ (by omega)
            have hF' : Found l (i + 1) ((fs.set i (i : Int)).set i (rd fs (a : Int))) (((ws.set i 1).set i (wrap64 (rd ws (a : Int) + rd ws (m : Int)))).set i (mn (wrap64 (rd ws (a : Int) + rd ws (m : Int))) 2001)) := by
              refine Found.next l hF (by simp) (by simp) (fun j hj => ?_) (fun j hj => ?_) (fun hi => ?_)
              · rw [rd_other _ _ _ _ hj, rd_other _ _ _ _ hj]
              · rw [rd_other _ _ _ _ hj, rd_other _ _ _ _ hj, rd_other _ _ _ _ hj]
              · rw [rd_same _ i _ (by simp; omega), rd_same _ i _ (by simp; omega)]
                refine ⟨?_, ⟨a0, by omega⟩, ?_, ?_⟩
                · rw [hx]
                  exact ⟨hb, fun _ => ⟨⟨by omega, by omega⟩, ⟨by omega, by omega⟩⟩, fun k5 => by omega⟩
                · refine Ev.step2 te (Ev.bind hTm ?_)
                  simp only [if_neg (show ¬ b < 1 by omega), ewb, if_pos ca]
                  simp only [ha]
                  exact hTa
                · refine Ev.step2 we ?_
                  rw [ca', c4]
                  exact Ev.bind hWa (Ev.bind hWm (Ev.now _))
            obtain ⟨v, v1, v2, v3⟩ := ih (i + 1) _ _ (by omega) hF'
            refine ⟨v, through (Ev.step (fun k => ?_) v1), v2, v3⟩
            conv => lhs; unfold impl_RegexOk.j1
            rw [if_pos rfl, if_neg cn0, eb, if_pos c4, if_pos (show 0 ≤ x.f4 by omega), if_pos (by rw [lf]; omega), eB, if_neg cb, ewb, if_pos ca, if_pos (by omega), if_pos (by rw [lf]; omega), if_pos (by rw [lw]; omega), if_pos (by rw [lw]; omega), if_pos c2,
              if_pos (by rw [lf]; omega), if_pos (by rw [lw]; omega), eA, eAw, eBw, ew, toN]
          · refine fails (fun _ => Ev.step2 te (Ev.bind hTm ?_)) (through (Ev.step (f := fun _ => some false) (fun k => ?_) (Ev.now _)))
            · simp only [if_neg (show ¬ b < 1 by omega), ewb, if_neg ca]
              exact Ev.now _
            · conv => lhs; unfold impl_RegexOk.j1
              rw [if_pos rfl, if_neg cn0, eb, if_pos c4, if_pos (show 0 ≤ x.f4 by omega), if_pos (by rw [lf]; omega), eB, if_neg cb, ewb, if_neg ca]
      · simp only [if_neg c4] at te
        refine fails (fun _ => Ev.step2 te (Ev.now _)) (through (Ev.step (f := fun _ => some false) (fun k => ?_) (Ev.now _)))
        conv => lhs; unfold impl_RegexOk.j1
        rw [if_pos rfl, if_neg cn0, eb, if_neg c4]
    · rw [decide_eq_false k34] at through
      simp only [if_neg k34] at te we
      by_cases k5 : x.f0 = 5
      · simp only [if_pos k5] at te we
        by_cases i0 : i = 0
        · have hneg : Ev (fun k => spec_l6Tree.f k l (i : Int)) (-1) := by
            refine Ev.step2 te ?_
            by_cases c4 : x.f3 = (i : Int) - 1
            · simp only [if_pos c4]
              have := tree_neg l
              rw [show (i : Int) - 1 = -1 by omega]
              exact this
            · simp only [if_neg c4]
              exact Ev.now _
          refine fails (fun _ => hneg) (through (Ev.step (f := fun _ => some false) (fun k => ?_) (Ev.now _)))
          conv => lhs; unfold impl_RegexOk.j1
          rw [if_neg (by decide), if_pos k5, if_pos (show (i : Int) = 0 by omega)]
        have cn0 : ¬ (i : Int) = 0 := by omega
        obtain ⟨m, hm⟩ : ∃ m : Nat, i = m + 1 := ⟨i - 1, by omega⟩
        have em : (i : Int) - 1 = (m : Int) := by omega
        obtain ⟨hAm, ⟨b0, b1⟩, hTm, hWm⟩ := hF.2.2 m (by omega) (by omega)
        rw [em] at te
        replace eb := eb.trans em
        by_cases c4 : x.f3 = (m : Int)
        · simp only [if_pos c4] at te
          have eB : rd (fs.set i (i : Int)) x.f3 = rd fs (m : Int) := by rw [c4]; exact rd_other fs i m _ (by omega)
          have eBw : rd (ws.set i 1) x.f3 = rd ws (m : Int) := by rw [c4]; exact rd_other ws i m _ (by omega)
          have hF' : Found l (i + 1) ((fs.set i (i : Int)).set i (rd fs (m : Int))) (((ws.set i 1).set i (wrap64 (rd ws (m : Int) * (mx (mx 1 (wrap64 (x.f5 + 1))) x.f6)))).set i (mn (wrap64 (rd ws (m : Int) * (mx (mx 1 (wrap64 (x.f5 + 1))) x.f6))) 2001)) := by
            refine Found.next l hF (by simp) (by simp) (fun j hj => ?_) (fun j hj => ?_) (fun hi => ?_)
            · rw [rd_other _ _ _ _ hj, rd_other _ _ _ _ hj]
            · rw [rd_other _ _ _ _ hj, rd_other _ _ _ _ hj, rd_other _ _ _ _ hj]
            · rw [rd_same _ i _ (by simp; omega), rd_same _ i _ (by simp; omega)]
              refine ⟨?_, ⟨b0, by omega⟩, ?_, ?_⟩
              · rw [hx]
                exact ⟨hb, fun h => absurd h k34, fun _ => ⟨by omega, by omega⟩⟩
              · exact Ev.step2 te hTm
              · refine Ev.step2 we ?_
                rw [c4]
                exact Ev.bind hWm (Ev.now _)
          obtain ⟨v, v1, v2, v3⟩ := ih (i + 1) _ _ (by omega) hF'
          refine ⟨v, through (Ev.step (fun k => ?_) v1), v2, v3⟩
          conv => lhs; unfold impl_RegexOk.j1
          rw [if_neg (by decide), if_pos k5, if_neg cn0, eb, if_pos c4, if_pos (show 0 ≤ x.f3 by omega), if_pos (by rw [lf]; omega), if_pos (by rw [lw]; omega), if_pos c2,
            if_pos (by rw [lf]; omega), if_pos (by rw [lw]; omega), eB, eBw, ew, toN]
        · simp only [if_neg c4] at te
          refine fails (fun _ => Ev.step2 te (Ev.now _)) (through (Ev.step (f := fun _ => some false) (fun k => ?_) (Ev.now _)))
          conv => lhs; unfold impl_RegexOk.j1
          rw [if_neg (by decide), if_pos k5, if_neg cn0, eb, if_neg c4]
      · simp only [if_neg k5] at te we
        have hF' : Found l (i + 1) (fs.set i (i : Int)) ((ws.set i 1).set i (mn 1 2001)) := by
          refine Found.next l hF (by simp) (by simp) (fun j hj => ?_) (fun j hj => ?_) (fun hi => ?_)
          · rw [rd_other _ _ _ _ hj]
          · rw [rd_other _ _ _ _ hj, rd_other _ _ _ _ hj]
          · rw [rd_same _ i _ hif, rd_same _ i _ (by simp; omega)]
            refine ⟨?_, ⟨by omega, by omega⟩, Ev.step2 te (Ev.now _), Ev.step2 we (Ev.now _)⟩
            rw [hx]
            exact ⟨hb, fun h => absurd h k34, fun h => absurd h k5⟩
        obtain ⟨v, v1, v2, v3⟩ := ih (i + 1) _ _ (by omega) hF'
        refine ⟨v, through (Ev.step (fun k => ?_) v1), v2, v3⟩
        conv => lhs; unfold impl_RegexOk.j1
        rw [if_neg (by decide), if_neg k5, if_pos c2, if_pos (by rw [lw]; omega), rd_same ws i 1 hiw, ew, toN]
end
/-- Right expressions: both answer alike. -/
theorem ok_both (l : List RNd) (hr : ∀ x ∈ l, x.f2.length ≤ 9223372036854775807) : ∃ v, Ev (fun k => impl_RegexOk.f k l) v ∧ Ev (fun k => spec_RegexOk.f k l) v ∧ (v = true → NodesOk l ∧ 1 ≤ l.length ∧ l.length ≤ 120) := by
  by_cases h1 : l.length < 1
  · refine ⟨false, ?_, ?_, fun h => absurd h (by decide)⟩
    · refine Ev.congr (f := fun _ => some false) (fun k => ?_) (Ev.now _)
      unfold impl_RegexOk.f
      rw [impl_inZ, Option.bind_some]
      have : inZ (l.length : Int) 1 120 = false := by unfold inZ; rw [decide_eq_false (by omega), Bool.false_and]
      rw [this, if_neg (by decide)]
    · refine Ev.step (f := fun _ => some false) (fun k => ?_) (Ev.now _)
      unfold spec_RegexOk.f
      rw [if_pos (by omega)]
      rfl
  by_cases h2 : l.length ≤ 120
  · have hF : Found l 0 (List.replicate l.length 0) (List.replicate l.length 0) := ⟨by simp, by simp, fun j _ h => by omega⟩
    obtain ⟨v, v1, v2, v3⟩ := ok_loop l h2 hr (by omega) l.length 0 _ _ (by omega) hF
    refine ⟨v, Ev.congr (fun k => ?_) v1, v2, fun h => ⟨v3 h, by omega, h2⟩⟩
    unfold impl_RegexOk.f
    rw [impl_inZ, Option.bind_some]
    have : inZ (l.length : Int) 1 120 = true := by unfold inZ; rw [decide_eq_true (by omega), decide_eq_true (by omega)]; rfl
    rw [this, if_pos rfl, if_pos (by omega), if_pos (by omega)]
    rfl
  · refine ⟨false, ?_, ?_, fun h => absurd h (by decide)⟩
    · refine Ev.congr (f := fun _ => some false) (fun k => ?_) (Ev.now _)
      unfold impl_RegexOk.f
      rw [impl_inZ, Option.bind_some]
      have : inZ (l.length : Int) 1 120 = false := by unfold inZ; rw [decide_eq_true (by omega), decide_eq_false (by omega)]; rfl
      rw [this, if_neg (by decide)]
    · refine Ev.step (f := fun _ => some false) (fun k => ?_) (Ev.now _)
      unfold spec_RegexOk.f
      rw [if_neg (by omega), decide_eq_true (by omega)]
      rfl
end Go.Proofs.YtilmhfkbpnejeaaDoor.Pure

namespace Go.Proofs.YtilmhfkbpnejeaaDoor.O
open Go.RowKit Go.Proofs.YtilmhfkbpnejeaaDoor.L Go.Proofs.YtilmhfkbpnejeaaDoorW.PrintWords Go.Proofs.YtilmhfkbpnejeaaDoorW.PrintLast Go.Proofs.YtilmhfkbpnejeaaDoorW.PrintMore
set_option linter.unusedVariables false
set_option linter.unusedSimpArgs false

/-- Whatever reads as a datum of type t is a d, and is ok. -/
def Opens {H α : Type} (enc : TypeId × Value → H) (P : Program) (w : World) (base : Nat) (sp : Nat → Bool) (held : Bool) (t : TypeId) (d : Kd α) (ok : α → Prop) : Prop :=
  ∀ n cs x, DataW.trod enc P w base sp held n t cs = some x → ∃ a, d.K w a cs ∧ ok a
section
variable {H : Type} {enc : TypeId × Value → H} {P : Program} {w : World} {base : Nat} {sp : Nat → Bool} {held : Bool} {t : TypeId}
theorem opens_int {k : IntKind} (ht : P.underlying t = some (.int k)) : Opens enc P w base sp held t (Kd.int k) (fun n => (Lit.int k n).wf = true) := by
  intro n cs x h
  obtain ⟨s, rfl, _, hs⟩ := DataW.trod_int ht h
  exact ⟨s, rfl, hs⟩
theorem rows_of {α : Type} {d : Kd α} {ok : α → Prop} {a : Addr} (len : Nat) (h : ∀ i, i < len → ∃ cs x, w.cells? base (a.add (i * d.sz)) d.sz = some cs ∧ d.K w x cs ∧ ok x) :
    ∃ xs : List α, xs.length = len ∧ ∀ i x, xs[i]? = some x → ok x ∧ ∃ cs, w.cells? base (a.add (i * d.sz)) d.sz = some cs ∧ d.K w x cs := by
  induction len with
  | zero => exact ⟨[], rfl, fun i x hx => by simp at hx⟩
  | succ m ih =>
    obtain ⟨xs, hl, hx⟩ := ih fun i hi => h i (by omega)
    obtain ⟨cs, x, hc, hk, ho⟩ := h m (by omega)
    refine ⟨xs ++ [x], by simp [hl], fun i y hy => ?_⟩
    by_cases hi : i < m
    · rw [List.getElem?_append_left (by omega)] at hy
      exact hx i y hy
    · have hlt := (List.getElem?_eq_some_iff.1 hy).1
      simp only [List.length_append, List.length_singleton, hl] at hlt
      have : i = m := by omega
      subst this
      rw [List.getElem?_append_right (by omega), hl] at hy
      simp at hy
      subst hy
      exact ⟨ho, cs, hc, hk⟩
theorem opens_slice {α : Type} {e : TypeId} {d : Kd α} {ok : α → Prop} (e' : Nat) (ht : P.underlying t = some (.slice e)) (hc : P.cellsOf e = d.sz)
    (ho : Opens enc P w base sp held e d ok) : Opens enc P w base sp held t (Kd.slice e' d) (fun xs => xs.length ≤ maxLen ∧ ∀ x ∈ xs, ok x) := by
  intro n cs x h
  rcases DataW.trod_slice ht h with ⟨rfl, _⟩ | ⟨a, len, cap, elems, rest, m, _, rfl, _, hb, hl, hm, hlen, hel, _, _⟩
  · exact ⟨[], ⟨none, 0, rfl, by simp, Kd.C_nil d w⟩, by simp [maxLen], fun x hx => by cases hx⟩
  · rw [hc] at hel
    obtain ⟨xs, hxl, hx⟩ := rows_of (w := w) (base := base) (d := d) (ok := ok) (a := a) len (fun i hi => by
      have h1 := hel i hi
      rw [List.getElem?_eq_getElem (by omega), Option.bind_eq_some_iff] at h1
      obtain ⟨cs, hcs, htr⟩ := h1
      obtain ⟨y, hk, hok⟩ := ho m cs _ htr
      exact ⟨cs, y, hcs, hk, hok⟩)
    refine ⟨xs, ⟨some a, cap, by rw [hxl], by omega, ?_⟩, by omega, fun x hx' => ?_⟩
    · refine ⟨rfl, by unfold maxLen at hm; omega, fun _ => ⟨a, rfl, fun j p hp => ?_⟩⟩
      obtain ⟨_, cs, hcs, hk⟩ := hx j p hp
      obtain ⟨_, hcl, hcell⟩ := World.cells?_some hcs
      refine ⟨cs, hcl, hk, fun i u hu => ?_⟩
      have hlt := (List.getElem?_eq_some_iff.1 hu).1
      have := hcell i (by omega)
      rw [hu] at this
      rw [← this]
      have e : a.add (j * d.sz + i) = (a.add (j * d.sz)).add i := (Addr.add_add a _ _).symm
      rw [e]
    · obtain ⟨i, hi⟩ := List.getElem?_of_mem hx'
      exact (hx i x hi).1
/-- A struct's fields, one cell each. -/
theorem field_cell {fs : Array Field} {cs : List Value} {x : DataW H × List MemPlace} {fuel : Nat} (ht : P.underlying t = some (.struct fs)) (h : DataW.trod enc P w base sp held fuel t cs = some x)
    (i : Nat) (f : Field) (hf : fs[i]? = some f) (hof : f.offset = i) (hcf : P.cellsOf f.type = 1) : ∃ n y, DataW.trod enc P w base sp held n f.type ((cs.drop i).take 1) = some y := by
  obtain ⟨xs, n, _, _, _, hxl, hall⟩ := DataW.trod_struct ht h
  have := hall i f hf
  have hlt := (Array.getElem?_eq_some_iff.1 hf).1
  rw [hof, hcf, List.getElem?_eq_getElem (by omega)] at this
  exact ⟨n, _, this⟩
end
/-- What a range's and a node's mirror that came in read as. -/
theorem opens_bool {H : Type} {enc : TypeId × Value → H} {P : Program} {w : World} {base : Nat} {sp : Nat → Bool} {held : Bool} {t : TypeId} (ht : P.underlying t = some .bool) : Opens enc P w base sp held t Kd.bool (fun _ => True) := by
  intro n cs x h
  obtain ⟨s, rfl, _⟩ := DataW.trod_bool ht h
  exact ⟨s, rfl, trivial⟩
theorem opens_range {H : Type} {enc : TypeId × Value → H} {w : World} {base : Nat} {sp : Nat → Bool} {held : Bool} :
    Opens enc Tryd.prog w base sp held 154 k154 (fun _ => True) := by
  intro n cs x h
  have hl : cs.length = 2 := by
    obtain ⟨_, _, _, _, hcl, _, _⟩ := DataW.trod_struct Tryd.underlying154 h
    exact hcl.trans (by kernel_rfl)
  obtain ⟨n0, y0, h0⟩ := field_cell Tryd.underlying154 h 0 _ rfl rfl (by kernel_rfl)
  obtain ⟨n1, y1, h1⟩ := field_cell Tryd.underlying154 h 1 _ rfl rfl (by kernel_rfl)
  clear h
  obtain ⟨s0, e0, o0⟩ := opens_int (enc := enc) (base := base) (sp := sp) (held := held) (w := w) (k := .i64) Tryd.underlying2 _ _ _ h0
  obtain ⟨s1, e1, o1⟩ := opens_int (enc := enc) (base := base) (sp := sp) (held := held) (w := w) (k := .i64) Tryd.underlying2 _ _ _ h1
  match cs, hl with
  | [c0, c1], _ =>
    obtain rfl : c0 = Value.int .i64 s0 := (List.cons.inj (show [c0] = [Value.int .i64 s0] from e0)).1
    obtain rfl : c1 = Value.int .i64 s1 := (List.cons.inj (show [c1] = [Value.int .i64 s1] from e1)).1
    exact ⟨⟨s0, s1⟩, k154_mk w ⟨s0, s1⟩, trivial⟩
def okNode (x : S88) : Prop := x.f2.length ≤ maxLen
theorem opens_node {H : Type} {enc : TypeId × Value → H} {w : World} {base : Nat} {sp : Nat → Bool} {held : Bool} :
    Opens enc Tryd.prog w base sp held 88 k88 okNode := by
  intro n cs x h
  have hl : cs.length = 7 := by
    obtain ⟨_, _, _, _, hcl, _, _⟩ := DataW.trod_struct Tryd.underlying88 h
    exact hcl.trans (by kernel_rfl)
  obtain ⟨n0, y0, h0⟩ := field_cell Tryd.underlying88 h 0 _ rfl rfl (by kernel_rfl)
  obtain ⟨n1, y1, h1⟩ := field_cell Tryd.underlying88 h 1 _ rfl rfl (by kernel_rfl)
  obtain ⟨n2, y2, h2⟩ := field_cell Tryd.underlying88 h 2 _ rfl rfl (by kernel_rfl)
  obtain ⟨n3, y3, h3⟩ := field_cell Tryd.underlying88 h 3 _ rfl rfl (by kernel_rfl)
  obtain ⟨n4, y4, h4⟩ := field_cell Tryd.underlying88 h 4 _ rfl rfl (by kernel_rfl)
  obtain ⟨n5, y5, h5⟩ := field_cell Tryd.underlying88 h 5 _ rfl rfl (by kernel_rfl)
  obtain ⟨n6, y6, h6⟩ := field_cell Tryd.underlying88 h 6 _ rfl rfl (by kernel_rfl)
  clear h
  obtain ⟨s0, e0, o0⟩ := opens_int (enc := enc) (base := base) (sp := sp) (held := held) (w := w) (k := .i64) Tryd.underlying2 _ _ _ h0
  obtain ⟨s1, e1, o1⟩ := opens_bool (enc := enc) (base := base) (sp := sp) (held := held) (w := w) Tryd.underlying4 _ _ _ h1
  obtain ⟨s2, ⟨A2, c2, e2, l2, g2⟩, o2⟩ := opens_slice (enc := enc) (base := base) (sp := sp) (held := held) (w := w) 154 Tryd.underlying86 (by kernel_rfl) opens_range _ _ _ h2
  obtain ⟨s3, e3, o3⟩ := opens_int (enc := enc) (base := base) (sp := sp) (held := held) (w := w) (k := .i64) Tryd.underlying2 _ _ _ h3
  obtain ⟨s4, e4, o4⟩ := opens_int (enc := enc) (base := base) (sp := sp) (held := held) (w := w) (k := .i64) Tryd.underlying2 _ _ _ h4
  obtain ⟨s5, e5, o5⟩ := opens_int (enc := enc) (base := base) (sp := sp) (held := held) (w := w) (k := .i64) Tryd.underlying2 _ _ _ h5
  obtain ⟨s6, e6, o6⟩ := opens_int (enc := enc) (base := base) (sp := sp) (held := held) (w := w) (k := .i64) Tryd.underlying2 _ _ _ h6
  match cs, hl with
  | [c0, c1, c2', c3, c4, c5, c6], _ =>
    obtain rfl : c0 = Value.int .i64 s0 := (List.cons.inj (show [c0] = [Value.int .i64 s0] from e0)).1
    obtain rfl : c1 = Value.bool s1 := (List.cons.inj (show [c1] = [Value.bool s1] from e1)).1
    obtain rfl : c2' = Value.slice A2 s2.length c2 := (List.cons.inj (show [c2'] = [Value.slice A2 s2.length c2] from e2)).1
    obtain rfl : c3 = Value.int .i64 s3 := (List.cons.inj (show [c3] = [Value.int .i64 s3] from e3)).1
    obtain rfl : c4 = Value.int .i64 s4 := (List.cons.inj (show [c4] = [Value.int .i64 s4] from e4)).1
    obtain rfl : c5 = Value.int .i64 s5 := (List.cons.inj (show [c5] = [Value.int .i64 s5] from e5)).1
    obtain rfl : c6 = Value.int .i64 s6 := (List.cons.inj (show [c6] = [Value.int .i64 s6] from e6)).1
    exact ⟨⟨s0, s1, s2, s3, s4, s5, s6⟩, k88_mk w ⟨s0, s1, s2, s3, s4, s5, s6⟩ l2 g2, o2.1⟩
end Go.Proofs.YtilmhfkbpnejeaaDoor.O

namespace Go.Proofs.YtilmhfkbpnejeaaDoor.Pure
open Go.RowKit Go.Proofs.YtilmhfkbpnejeaaDoor.L Go.Proofs.YtilmhfkbpnejeaaDoor.O Go.Proofs.YtilmhfkbpnejeaaDoorW.PrintWords Go.Proofs.YtilmhfkbpnejeaaDoorW.PrintLast Go.Proofs.YtilmhfkbpnejeaaDoorW.PrintMore
set_option linter.unusedVariables false
set_option linter.unusedSimpArgs false

abbrev LNd : Type := S88
abbrev LRg : Type := S154
abbrev IRg : Type := S100
theorem rdLN (l : List LNd) (i : Nat) (h : i < l.length) : rd_T88 l (i : Int) = l[i] := by
  unfold rd_T88
  simp [h]
theorem rdLR (l : List LRg) (i : Nat) (h : i < l.length) : rd_T154 l (i : Int) = l[i] := by
  unfold rd_T154
  simp [h]
theorem wsub {c : Int} {m : Nat} (h0 : 0 ≤ c) (h1 : c ≤ 1048576) (hm : m ≤ 9223372036854775807) : wrap64 (c - (m : Int)) = c - m := by rw [w64] <;> omega
theorem mxLen : maxLen = 9223372036854775807 := by decide
/-! #### sizes -/
theorem szNode (x : LNd) (ok : okNode x) (c : Int) (h0 : 0 ≤ c) (h1 : c ≤ 1048576) :
    ∃ v, laws_szRNode.f x.f0 x.f1 x.f2 x.f3 x.f4 x.f5 x.f6 c = some v ∧ (v < 0 ∨ (0 ≤ v ∧ v ≤ c ∧ x.f2.length ≤ 1048576)) := by
  unfold okNode at ok
  rw [mxLen] at ok
  have hw := wsub h0 h1 ok
  unfold laws_szRNode.f laws_szRangeS.f
  rw [hw]
  by_cases c0 : c - (x.f2.length : Int) < 0
  · exact ⟨-1, by rw [if_pos c0]; rfl, .inl (by decide)⟩
  · refine ⟨c - (x.f2.length : Int), ?_, .inr ⟨by omega, by omega, by omega⟩⟩
    rw [if_neg c0, Option.bind_some, if_neg c0]
theorem szNS_l0 (l : List LNd) (hl : l.length ≤ 9223372036854775807) (hs : ∀ s ∈ l, okNode s) : ∀ (n i : Nat) (c : Int), i + n = l.length → 0 ≤ c → c ≤ 1048576 →
    ∃ v, Ev (fun k => laws_szRNodeS.l0 k l c (i : Int)) v ∧ (v < 0 ∨ (0 ≤ v ∧ v ≤ c ∧ ∀ s ∈ l.drop i, s.f2.length ≤ 1048576)) := by
  intro n
  induction n with
  | zero =>
    intro i c hi h0 h1
    refine ⟨c, Ev.step (f := fun _ => some c) (fun k => ?_) (Ev.now _), .inr ⟨h0, Int.le_refl _, ?_⟩⟩
    · unfold laws_szRNodeS.l0
      rw [if_neg (by omega)]
    · rw [List.drop_of_length_le (by omega)]; intro s hs; cases hs
  | succ n ih =>
    intro i c hi h0 h1
    have hlt : i < l.length := by omega
    obtain ⟨v, hv, hr⟩ := szNode l[i] (hs _ (List.getElem_mem hlt)) c h0 h1
    have hf : ∀ k, laws_szRNodeS.l0 (k + 1) l c (i : Int) = if v < 0 then (some (-1)) else (laws_szRNodeS.l0 k l v ((i + 1 : Nat) : Int)) := by
      intro k
      conv => lhs; unfold laws_szRNodeS.l0
      rw [if_pos (by omega), if_pos (by omega), rdLN l i hlt, w1 hlt hl, hv, Option.bind_some]
    rcases hr with h | ⟨a, b, d⟩
    · refine ⟨-1, Ev.step hf ?_, .inl (by decide)⟩
      simp only [if_pos h]
      exact Ev.now _
    · obtain ⟨v2, hv2, hr2⟩ := ih (i + 1) v (by omega) a (by omega)
      refine ⟨v2, Ev.step hf ?_, ?_⟩
      · simp only [if_neg (show ¬ v < 0 by omega)]
        exact hv2
      · rcases hr2 with h | ⟨a2, b2, d2⟩
        · exact .inl h
        · refine .inr ⟨a2, by omega, fun s hs => ?_⟩
          rw [List.drop_eq_getElem_cons hlt] at hs
          rcases List.mem_cons.1 hs with e | e
          · subst e; exact d
          · exact d2 s e
theorem szNS (l : List LNd) (hl : l.length ≤ 9223372036854775807) (hs : ∀ s ∈ l, okNode s) :
    ∃ v, Ev (fun k => laws_szRNodeS.f k l 1048576) v ∧ (v < 0 ∨ (0 ≤ v ∧ l.length ≤ 1048576 ∧ ∀ s ∈ l, s.f2.length ≤ 1048576)) := by
  have hw := wsub (c := 1048576) (by decide) (by decide) hl
  by_cases c0 : (1048576 : Int) - (l.length : Int) < 0
  · refine ⟨-1, Ev.congr (f := fun _ => some (-1)) (fun k => ?_) (Ev.now _), .inl (by decide)⟩
    unfold laws_szRNodeS.f
    rw [hw, if_pos c0]
  · obtain ⟨v, hv, hr⟩ := szNS_l0 l hl hs l.length 0 (1048576 - (l.length : Int)) (by omega) (by omega) (by omega)
    refine ⟨v, Ev.congr (f := fun k => laws_szRNodeS.l0 k l (1048576 - (l.length : Int)) ((0 : Nat) : Int)) (fun k => ?_) hv, ?_⟩
    · unfold laws_szRNodeS.f
      rw [hw, if_neg c0]
      rfl
    · rcases hr with h | ⟨a, b, d⟩
      · exact .inl h
      · exact .inr ⟨a, by omega, by simpa using d⟩
/-! #### copies -/
theorem set_mid {α : Type} (u : List α) (z v : α) (r : List α) : (u ++ z :: r).set u.length v = u ++ v :: r := by
  induction u with
  | nil => rfl
  | cons a u ih => simp [ih]
theorem set_copy {α β : Type} (f : α → β) (l : List α) (z : β) (i m : Nat) (h : i < l.length) : ((l.take i).map f ++ List.replicate (m + 1) z).set i (f l[i]) = (l.take (i + 1)).map f ++ List.replicate m z := by
  have hl : ((l.take i).map f).length = i := by simp; omega
  have := set_mid ((l.take i).map f) z (f l[i]) (List.replicate m z)
  rw [hl] at this
  rw [List.replicate_succ, this]
  rw [List.take_succ_eq_append_getElem h, List.map_append]
  simp
def convR (x : LRg) : IRg := ⟨x.f0, x.f1⟩
theorem toR_l0 (l : List LRg) (hl : l.length ≤ 9223372036854775807) : ∀ (n i : Nat), i + n = l.length →
    Ev (fun k => laws_toRangeS.l0 k l ((l.take i).map convR ++ List.replicate n z100) (i : Int)) (l.map convR) := by
  intro n
  induction n with
  | zero =>
    intro i hi
    have e : (l.take i).map convR ++ List.replicate 0 z100 = l.map convR := by rw [List.take_of_length_le (by omega)]; simp
    rw [e]
    refine Ev.step (f := fun _ => some (l.map convR)) (fun k => ?_) (Ev.now _)
    unfold laws_toRangeS.l0
    rw [if_neg (by omega)]
  | succ n ih =>
    intro i hi
    have hlt : i < l.length := by omega
    refine Ev.step (f := fun k => laws_toRangeS.l0 k l ((l.take (i + 1)).map convR ++ List.replicate n z100) ((i + 1 : Nat) : Int)) (fun k => ?_) (ih (i + 1) (by omega))
    conv => lhs; unfold laws_toRangeS.l0
    have hlen : ((l.take i).map convR ++ List.replicate (n + 1) z100).length = l.length := by simp; omega
    unfold laws_toRange.f
    rw [if_pos (by omega), if_pos (by omega), Option.bind_some, hlen, if_pos (by omega), rdLR l i hlt, w1 hlt hl, Int.toNat_natCast]
    have := set_copy convR l z100 i n hlt
    rw [show convR l[i] = (⟨l[i].f0, l[i].f1⟩ : IRg) from rfl] at this
    rw [this]
theorem toR (l : List LRg) (hl : l.length ≤ 1048576) : Ev (fun k => laws_toRangeS.f k l) (l.map convR) := by
  refine Ev.congr (f := fun k => laws_toRangeS.l0 k l ((l.take 0).map convR ++ List.replicate l.length z100) ((0 : Nat) : Int)) (fun k => ?_) (toR_l0 l (by omega) l.length 0 (by omega))
  unfold laws_toRangeS.f
  rw [if_pos (by omega), Int.toNat_natCast, if_pos (by omega)]
  simp
def convN (x : LNd) : RNd := ⟨x.f0, x.f1, x.f2.map convR, x.f3, x.f4, x.f5, x.f6⟩
theorem toNS_l0 (l : List LNd) (hl : l.length ≤ 9223372036854775807) (hs : ∀ x ∈ l, x.f2.length ≤ 1048576) : ∀ (n i : Nat), i + n = l.length →
    Ev (fun k => laws_toRNodeS.l0 k l ((l.take i).map convN ++ List.replicate n z93) (i : Int)) (l.map convN) := by
  intro n
  induction n with
  | zero =>
    intro i hi
    have e : (l.take i).map convN ++ List.replicate 0 z93 = l.map convN := by
      rw [List.take_of_length_le (by omega)]; simp
    rw [e]
    refine Ev.step (f := fun _ => some (l.map convN)) (fun k => ?_) (Ev.now _)
    unfold laws_toRNodeS.l0
    rw [if_neg (by omega)]
  | succ n ih =>
    intro i hi
    have hlt : i < l.length := by omega
    have hto := toR l[i].f2 (hs l[i] (List.getElem_mem hlt))
    have hlen : ((l.take i).map convN ++ List.replicate (n + 1) z93).length = l.length := by simp; omega
    have hset := set_copy convN l z93 i n hlt
    refine Ev.step (f := fun k => (laws_toRangeS.f k l[i].f2).bind fun t168 => laws_toRNodeS.l0 k l (((l.take i).map convN ++ List.replicate (n + 1) z93).set i (⟨l[i].f0, l[i].f1, t168, l[i].f3, l[i].f4, l[i].f5, l[i].f6⟩ : RNd)) ((i + 1 : Nat) : Int)) (fun k => ?_) ?_
    · conv => lhs; unfold laws_toRNodeS.l0
      rw [if_pos (by omega), if_pos (by omega), hlen, rdLN l i hlt, w1 hlt hl, Int.toNat_natCast]
      unfold laws_toRNode.f
      simp only [if_pos (show (i : Int) < (l.length : Int) by omega)]
      rw [Option.bind_assoc]
      rfl
    · refine Ev.bind hto ?_
      rw [show (⟨l[i].f0, l[i].f1, l[i].f2.map convR, l[i].f3, l[i].f4, l[i].f5, l[i].f6⟩ : RNd) = convN l[i] from rfl, hset]
      exact ih (i + 1) (by omega)
theorem toNS (l : List LNd) (hl : l.length ≤ 1048576) (hs : ∀ x ∈ l, x.f2.length ≤ 1048576) : Ev (fun k => laws_toRNodeS.f k l) (l.map convN) := by
  refine Ev.congr (f := fun k => laws_toRNodeS.l0 k l ((l.take 0).map convN ++ List.replicate l.length z93) ((0 : Nat) : Int)) (fun k => ?_) (toNS_l0 l (by omega) hs l.length 0 (by omega))
  unfold laws_toRNodeS.f
  rw [if_pos (by omega), Int.toNat_natCast, if_pos (by omega)]
  simp
theorem eqR_l0 (l : List IRg) (hl : l.length ≤ 9223372036854775807) : ∀ (n i : Nat), i + n = l.length → Ev (fun k => laws_eqRangeS.l0 k l l (i : Int)) true := by
  intro n
  induction n with
  | zero =>
    intro i hi
    refine Ev.step (f := fun _ => some true) (fun k => ?_) (Ev.now _)
    unfold laws_eqRangeS.l0
    rw [if_neg (by omega)]
  | succ n ih =>
    intro i hi
    have hlt : i < l.length := by omega
    refine Ev.step (f := fun k => laws_eqRangeS.l0 k l l ((i + 1 : Nat) : Int)) (fun k => ?_) (ih (i + 1) (by omega))
    conv => lhs; unfold laws_eqRangeS.l0
    unfold laws_eqRange.f
    rw [if_pos (by omega), if_pos (by omega), if_pos (by omega), if_pos rfl, if_pos rfl, Option.bind_some, if_pos rfl, w1 hlt hl]
theorem eqR (l : List IRg) (hl : l.length ≤ 1048576) : Ev (fun k => laws_eqRangeS.f k l l) true := by
  refine Ev.congr (f := fun k => laws_eqRangeS.l0 k l l ((0 : Nat) : Int)) (fun k => ?_) (eqR_l0 l (by omega) l.length 0 (by omega))
  unfold laws_eqRangeS.f
  rw [if_pos rfl]
  rfl
theorem eqN (x : RNd) (hl : x.f2.length ≤ 1048576) : Ev (fun k => laws_eqRNode.f k x.f0 x.f1 x.f2 x.f3 x.f4 x.f5 x.f6 x.f0 x.f1 x.f2 x.f3 x.f4 x.f5 x.f6) true := by
  refine Ev.congr (f := fun k => (laws_eqRangeS.f k x.f2 x.f2).bind fun t234 => (if t234 = true then (some true) else (some false))) (fun k => ?_) (Ev.bind (eqR x.f2 hl) (Ev.now _))
  unfold laws_eqRNode.f
  rw [if_pos rfl, if_neg (by simp), if_pos rfl, if_pos rfl, if_pos rfl, if_pos rfl]
theorem eqNS_l0 (l : List RNd) (hl : l.length ≤ 9223372036854775807) (hs : ∀ x ∈ l, x.f2.length ≤ 1048576) : ∀ (n i : Nat), i + n = l.length → Ev (fun k => laws_eqRNodeS.l0 k l l (i : Int)) true := by
  intro n
  induction n with
  | zero =>
    intro i hi
    refine Ev.step (f := fun _ => some true) (fun k => ?_) (Ev.now _)
    unfold laws_eqRNodeS.l0
    rw [if_neg (by omega)]
  | succ n ih =>
    intro i hi
    have hlt : i < l.length := by omega
    refine Ev.step (f := fun k => (laws_eqRNode.f k l[i].f0 l[i].f1 l[i].f2 l[i].f3 l[i].f4 l[i].f5 l[i].f6 l[i].f0 l[i].f1 l[i].f2 l[i].f3 l[i].f4 l[i].f5 l[i].f6).bind fun t237 => if t237 = true then laws_eqRNodeS.l0 k l l ((i + 1 : Nat) : Int) else some false) (fun k => ?_) (Ev.bind (eqN l[i] (hs _ (List.getElem_mem hlt))) (ih (i + 1) (by omega)))
    conv => lhs; unfold laws_eqRNodeS.l0
    rw [if_pos (by omega), if_pos (by omega), if_pos (by omega), rdN l i hlt, w1 hlt hl]
theorem eqNS (l : List RNd) (hl : l.length ≤ 1048576) (hs : ∀ x ∈ l, x.f2.length ≤ 1048576) : Ev (fun k => laws_eqRNodeS.f k l l) true := by
  refine Ev.congr (f := fun k => laws_eqRNodeS.l0 k l l ((0 : Nat) : Int)) (fun k => ?_) (eqNS_l0 l (by omega) hs l.length 0 (by omega))
  unfold laws_eqRNodeS.f
  rw [if_pos rfl]
  rfl
end Go.Proofs.YtilmhfkbpnejeaaDoor.Pure

namespace Go.Proofs.YtilmhfkbpnejeaaDoor.Pure
open Go.RowKit Go.Proofs.YtilmhfkbpnejeaaDoor.L Go.Proofs.YtilmhfkbpnejeaaDoorW.PrintWords Go.Proofs.YtilmhfkbpnejeaaDoorW.PrintLast Go.Proofs.YtilmhfkbpnejeaaDoorW.PrintMore
set_option linter.unusedVariables false
set_option linter.unusedSimpArgs false

def B (s : ByteArray) (i : Nat) : Nat := (s.get! i).toNat
theorem B_lt (s : ByteArray) (i : Nat) : B s i < 256 := (s.get! i).toNat_lt
theorem bt_B (s : ByteArray) (i : Nat) (h : i < s.size) : bt s (i : Int) = (B s i : Int) := by
  have hl : i < s.data.toList.length := by rw [← sz]; exact h
  rw [bt_nat s i hl]
  have h2 : i < s.data.size := by simpa using hl
  have e : s.get! i = s.data[i] := by unfold ByteArray.get!; exact getElem!_pos s.data i h2
  unfold B
  rw [e]
  simp
theorem tm (b m : Nat) : Int.tmod (b : Int) (m : Int) = ((b % m : Nat) : Int) := (Int.ofNat_tmod b m).symm
def charB (x : Nat) : Bool := decide (x ≤ 55295) || (decide (57344 ≤ x) && decide (x ≤ 1114111))
theorem char_f (x : Nat) : spec_l1Char.f (x : Int) = some (charB x) := by
  unfold spec_l1Char.f spec_l1In.f charB
  by_cases h1 : x ≤ 55295
  · rw [if_pos (by omega)]
    have : decide ((x : Int) ≤ 55295) = true := decide_eq_true (by omega)
    rw [this]
    simp [h1]
  · rw [if_pos (by omega)]
    have : decide ((x : Int) ≤ 55295) = false := decide_eq_false (by omega)
    rw [this]
    simp only [Option.bind_some, Bool.false_eq_true, if_false]
    by_cases h2 : 57344 ≤ x
    · rw [if_pos (by omega)]
      have e : decide ((x : Int) ≤ 1114111) = decide (x ≤ 1114111) := by simp only [decide_eq_decide]; omega
      simp [h1, h2, e]
    · rw [if_neg (by omega)]
      simp [h1, h2]
def finV (x n low : Nat) : Int × Int := if x < low then (0, 0) else if charB x = true then ((x : Int), (n : Int)) else (0, 0)
theorem l0_end (s : ByteArray) (x n low : Nat) : Ev (fun k => spec_l1Rune.l0 k s (x : Int) (n : Int) (low : Int) (n : Int)) (finV x n low) := by
  refine Ev.step (f := fun _ => some (finV x n low)) (fun k => ?_) (Ev.now _)
  conv => lhs; unfold spec_l1Rune.l0
  rw [if_neg (by omega), char_f]
  unfold finV
  by_cases h : x < low
  · rw [if_pos (by omega), if_pos h]
  · rw [if_neg (by omega), if_neg h]
    simp only [Option.bind_some]
    cases charB x <;> rfl
theorem l0_go (s : ByteArray) (x n low i : Nat) (hi : i < n) (hs : i < s.size) (hn : n ≤ 4) (hx : x < 4194304) (hc : B s i / 64 = 2) (r : Int × Int)
    (h : Ev (fun k => spec_l1Rune.l0 k s ((64 * x + B s i % 64 : Nat) : Int) (n : Int) (low : Int) ((i + 1 : Nat) : Int)) r) : Ev (fun k => spec_l1Rune.l0 k s (x : Int) (n : Int) (low : Int) (i : Int)) r := by
  have hb := B_lt s i
  refine Ev.step (fun k => ?_) h
  conv => lhs; unfold spec_l1Rune.l0
  have e1 : wrap64 (64 * (x : Int)) = ((64 * x : Nat) : Int) := by rw [w64] <;> omega
  have e2 : wrap64 (Int.tmod (B s i : Int) 64) = ((B s i % 64 : Nat) : Int) := by
    have := tm (B s i) 64
    rw [show ((64 : Nat) : Int) = 64 from rfl] at this
    rw [this, w64] <;> omega
  have e3 : wrap64 (((64 * x : Nat) : Int) + ((B s i % 64 : Nat) : Int)) = ((64 * x + B s i % 64 : Nat) : Int) := by rw [w64] <;> omega
  have e4 : wrap64 ((i : Int) + 1) = ((i + 1 : Nat) : Int) := by rw [w64] <;> omega
  rw [if_pos (by omega), if_pos (by omega), if_pos (by omega), bt_B s i hs, if_neg (by omega), if_neg (by omega), e1, e2, e3, e4]
theorem l0_no (s : ByteArray) (x n low i : Nat) (hi : i < n) (hs : i < s.size) (hc : ¬ B s i / 64 = 2) : Ev (fun k => spec_l1Rune.l0 k s (x : Int) (n : Int) (low : Int) (i : Int)) (0, 0) := by
  have hb := B_lt s i
  refine Ev.step (f := fun _ => some (0, 0)) (fun k => ?_) (Ev.now _)
  conv => lhs; unfold spec_l1Rune.l0
  rw [if_pos (by omega), if_pos (by omega), if_pos (by omega), bt_B s i hs]
  by_cases h : B s i < 128
  · rw [if_pos (by omega)]
  · rw [if_neg (by omega), if_pos (by omega)]
/-- What the reference says of the first character: the model's decoding, 0 bytes where that fails. -/
def runeV (s : ByteArray) : Int × Int := if (Utf8.decode s 0).1 = 65533 ∧ (Utf8.decode s 0).2 = 1 then (0, 0) else (((Utf8.decode s 0).1 : Int), ((Utf8.decode s 0).2 : Int))
def runeN (n b0 b1 b2 b3 : Nat) : Int × Int := if (Lib.decodeN n b0 b1 b2 b3).1 = 65533 ∧ (Lib.decodeN n b0 b1 b2 b3).2 = 1 then (0, 0) else (((Lib.decodeN n b0 b1 b2 b3).1 : Int), ((Lib.decodeN n b0 b1 b2 b3).2 : Int))
theorem runeV_N (s : ByteArray) : runeV s = runeN s.size (B s 0) (B s 1) (B s 2) (B s 3) := by
  unfold runeV runeN B
  rw [Lib.decode_at s 0]
  simp only [Nat.sub_zero, Nat.zero_add]
theorem j2_few (s : ByteArray) (x n low : Nat) (h : s.size < n) : Ev (fun k => spec_l1Rune.j2 k s (x : Int) (n : Int) (low : Int)) (0, 0) := by
  refine Ev.step (f := fun _ => some (0, 0)) (fun k => ?_) (Ev.now _)
  have e : spec_l1Rune.j2 (k + 1) s (x : Int) (n : Int) (low : Int) = (if (s.size : Int) < (n : Int) then some (0, 0) else spec_l1Rune.l0 k s (x : Int) (n : Int) (low : Int) 1) := rfl
  rw [e, if_pos (by omega)]
theorem j2_go (s : ByteArray) (x n low : Nat) (h : n ≤ s.size) (r : Int × Int) (hr : Ev (fun k => spec_l1Rune.l0 k s (x : Int) (n : Int) (low : Int) ((1 : Nat) : Int)) r) : Ev (fun k => spec_l1Rune.j2 k s (x : Int) (n : Int) (low : Int)) r := by
  refine Ev.step (f := fun k => spec_l1Rune.l0 k s (x : Int) (n : Int) (low : Int) ((1 : Nat) : Int)) (fun k => ?_) hr
  have e : spec_l1Rune.j2 (k + 1) s (x : Int) (n : Int) (low : Int) = (if (s.size : Int) < (n : Int) then some (0, 0) else spec_l1Rune.l0 k s (x : Int) (n : Int) (low : Int) 1) := rfl
  rw [e, if_neg (by omega)]
  rfl
theorem bad_N {n b0 b1 b2 b3 : Nat} (h : Lib.decodeN n b0 b1 b2 b3 = (65533, 1)) : runeN n b0 b1 b2 b3 = (0, 0) := by
  unfold runeN; rw [h]; rfl
theorem two_rune (s : ByteArray) (h0 : B s 0 / 32 = 6) : Ev (fun k => spec_l1Rune.j2 k s ((B s 0 % 32 : Nat) : Int) ((2 : Nat) : Int) ((128 : Nat) : Int)) (runeN s.size (B s 0) (B s 1) (B s 2) (B s 3)) := by
  have hb := B_lt s 0
  by_cases hz : s.size < 2
  · rw [bad_N]
    · exact j2_few s _ 2 128 hz
    · unfold Lib.decodeN
      rw [if_neg (by omega), if_neg (by omega), if_neg (by omega), if_neg (by omega)]
  · refine j2_go s _ 2 128 (by omega) _ ?_
    by_cases c1 : B s 1 / 64 = 2
    · refine l0_go s _ 2 128 1 (by omega) (by omega) (by omega) (by omega) c1 _ ?_
      have e : runeN s.size (B s 0) (B s 1) (B s 2) (B s 3) = finV (64 * (B s 0 % 32) + B s 1 % 64) 2 128 := by
        unfold runeN Lib.decodeN finV charB
        rw [if_neg (show ¬ B s 0 < 128 by omega), if_pos (show B s 0 / 32 = 6 ∧ (1 < s.size ∧ B s 1 / 64 = 2) from ⟨h0, by omega, c1⟩)]
        by_cases c : B s 0 % 32 * 64 + B s 1 % 64 ≥ 128
        · rw [if_pos c, if_neg (show ¬ (64 * (B s 0 % 32) + B s 1 % 64) < 128 by omega)]
          rw [decide_eq_true (show 64 * (B s 0 % 32) + B s 1 % 64 ≤ 55295 by omega)]
          simp only [Bool.true_or, if_true]
          rw [if_neg (show ¬ (B s 0 % 32 * 64 + B s 1 % 64 = 65533 ∧ (2 : Nat) = 1) by omega)]
          congr 1
          omega
        · rw [if_neg c, if_pos (show (64 * (B s 0 % 32) + B s 1 % 64) < 128 by omega)]
          rfl
      rw [e]
      exact l0_end s _ 2 128
    · rw [bad_N]
      · exact l0_no s _ 2 128 1 (by omega) (by omega) c1
      · unfold Lib.decodeN
        rw [if_neg (by omega), if_neg (by omega), if_neg (by omega), if_neg (by omega)]
theorem three_rune (s : ByteArray) (h0 : B s 0 / 16 = 14) : Ev (fun k => spec_l1Rune.j2 k s ((B s 0 % 16 : Nat) : Int) ((3 : Nat) : Int) ((2048 : Nat) : Int)) (runeN s.size (B s 0) (B s 1) (B s 2) (B s 3)) := by
  have hb := B_lt s 0
  by_cases hz : s.size < 3
  · rw [bad_N]
    · exact j2_few s _ 3 2048 hz
    · unfold Lib.decodeN
      rw [if_neg (by omega), if_neg (by omega), if_neg (by omega), if_neg (by omega)]
  · refine j2_go s _ 3 2048 (by omega) _ ?_
    by_cases c1 : B s 1 / 64 = 2
    · refine l0_go s _ 3 2048 1 (by omega) (by omega) (by omega) (by omega) c1 _ ?_
      by_cases c2 : B s 2 / 64 = 2
      · refine l0_go s _ 3 2048 2 (by omega) (by omega) (by omega) (by omega) c2 _ ?_
        have e : runeN s.size (B s 0) (B s 1) (B s 2) (B s 3) = finV (64 * (64 * (B s 0 % 16) + B s 1 % 64) + B s 2 % 64) 3 2048 := by
          obtain ⟨y, hy⟩ : ∃ y, 64 * (64 * (B s 0 % 16) + B s 1 % 64) + B s 2 % 64 = y := ⟨_, rfl⟩
          have hy2 : B s 0 % 16 * 4096 + B s 1 % 64 * 64 + B s 2 % 64 = y := by omega
          unfold runeN Lib.decodeN
          rw [hy, hy2, if_neg (show ¬ B s 0 < 128 by omega), if_neg (show ¬ (B s 0 / 32 = 6 ∧ (1 < s.size ∧ B s 1 / 64 = 2)) by omega), if_pos (show B s 0 / 16 = 14 ∧ (1 < s.size ∧ B s 1 / 64 = 2) ∧ (2 < s.size ∧ B s 2 / 64 = 2) from ⟨h0, ⟨by omega, c1⟩, by omega, c2⟩)]
          clear hy hy2
          unfold finV charB
          by_cases d : y < 2048
          · rw [if_neg (show ¬ (y ≥ 2048 ∧ (y < 55296 ∨ (57344 ≤ y ∧ y ≤ 1114111))) by omega), if_pos d]; rfl
          · by_cases d2 : y < 55296 ∨ (57344 ≤ y ∧ y ≤ 1114111)
            · rw [if_pos (show y ≥ 2048 ∧ (y < 55296 ∨ (57344 ≤ y ∧ y ≤ 1114111)) from ⟨by omega, d2⟩), if_neg (show ¬ (((y, 3) : Nat × Nat).1 = 65533 ∧ ((y, 3) : Nat × Nat).2 = 1) from fun h => by cases h.2), if_neg d, if_pos (show (decide (y ≤ 55295) || (decide (57344 ≤ y) && decide (y ≤ 1114111))) = true by simp only [Bool.or_eq_true, Bool.and_eq_true, decide_eq_true_eq]; omega)]
            · rw [if_neg (show ¬ (y ≥ 2048 ∧ (y < 55296 ∨ (57344 ≤ y ∧ y ≤ 1114111))) by omega), if_neg d, if_neg (show ¬ ((decide (y ≤ 55295) || (decide (57344 ≤ y) && decide (y ≤ 1114111))) = true) by simp only [Bool.or_eq_true, Bool.and_eq_true, decide_eq_true_eq]; omega)]; rfl
        rw [e]
        exact l0_end s _ 3 2048
      · rw [bad_N]
        · exact l0_no s _ 3 2048 2 (by omega) (by omega) c2
        · unfold Lib.decodeN
          rw [if_neg (by omega), if_neg (by omega), if_neg (by omega), if_neg (by omega)]
    · rw [bad_N]
      · exact l0_no s _ 3 2048 1 (by omega) (by omega) c1
      · unfold Lib.decodeN
        rw [if_neg (by omega), if_neg (by omega), if_neg (by omega), if_neg (by omega)]
theorem four_rune (s : ByteArray) (h0 : B s 0 / 8 = 30) : Ev (fun k => spec_l1Rune.j2 k s ((B s 0 % 8 : Nat) : Int) ((4 : Nat) : Int) ((65536 : Nat) : Int)) (runeN s.size (B s 0) (B s 1) (B s 2) (B s 3)) := by
  have hb := B_lt s 0
  by_cases hz : s.size < 4
  · rw [bad_N]
    · exact j2_few s _ 4 65536 hz
    · unfold Lib.decodeN
      rw [if_neg (by omega), if_neg (by omega), if_neg (by omega), if_neg (by omega)]
  · refine j2_go s _ 4 65536 (by omega) _ ?_
    by_cases c1 : B s 1 / 64 = 2
    · refine l0_go s _ 4 65536 1 (by omega) (by omega) (by omega) (by omega) c1 _ ?_
      by_cases c2 : B s 2 / 64 = 2
      · refine l0_go s _ 4 65536 2 (by omega) (by omega) (by omega) (by omega) c2 _ ?_
        by_cases c3 : B s 3 / 64 = 2
        · refine l0_go s _ 4 65536 3 (by omega) (by omega) (by omega) (by omega) c3 _ ?_
          have e : runeN s.size (B s 0) (B s 1) (B s 2) (B s 3) = finV (64 * (64 * (64 * (B s 0 % 8) + B s 1 % 64) + B s 2 % 64) + B s 3 % 64) 4 65536 := by
            obtain ⟨y, hy⟩ : ∃ y, 64 * (64 * (64 * (B s 0 % 8) + B s 1 % 64) + B s 2 % 64) + B s 3 % 64 = y := ⟨_, rfl⟩
            have hy2 : B s 0 % 8 * 262144 + B s 1 % 64 * 4096 + B s 2 % 64 * 64 + B s 3 % 64 = y := by omega
            unfold runeN Lib.decodeN
            rw [hy, hy2, if_neg (show ¬ B s 0 < 128 by omega), if_neg (show ¬ (B s 0 / 32 = 6 ∧ (1 < s.size ∧ B s 1 / 64 = 2)) by omega), if_neg (show ¬ (B s 0 / 16 = 14 ∧ (1 < s.size ∧ B s 1 / 64 = 2) ∧ (2 < s.size ∧ B s 2 / 64 = 2)) by omega), if_pos (show B s 0 / 8 = 30 ∧ (1 < s.size ∧ B s 1 / 64 = 2) ∧ (2 < s.size ∧ B s 2 / 64 = 2) ∧ (3 < s.size ∧ B s 3 / 64 = 2) from ⟨h0, ⟨by omega, c1⟩, ⟨by omega, c2⟩, by omega, c3⟩)]
            clear hy hy2
            unfold finV charB
            by_cases d : y < 65536
            · rw [if_neg (show ¬ (y ≥ 65536 ∧ (y < 55296 ∨ (57344 ≤ y ∧ y ≤ 1114111))) by omega), if_pos d]; rfl
            · by_cases d2 : y < 55296 ∨ (57344 ≤ y ∧ y ≤ 1114111)
              · rw [if_pos (show y ≥ 65536 ∧ (y < 55296 ∨ (57344 ≤ y ∧ y ≤ 1114111)) from ⟨by omega, d2⟩), if_neg (show ¬ (((y, 4) : Nat × Nat).1 = 65533 ∧ ((y, 4) : Nat × Nat).2 = 1) from fun h => by cases h.2), if_neg d, if_pos (show (decide (y ≤ 55295) || (decide (57344 ≤ y) && decide (y ≤ 1114111))) = true by simp only [Bool.or_eq_true, Bool.and_eq_true, decide_eq_true_eq]; omega)]
              · rw [if_neg (show ¬ (y ≥ 65536 ∧ (y < 55296 ∨ (57344 ≤ y ∧ y ≤ 1114111))) by omega), if_neg d, if_neg (show ¬ ((decide (y ≤ 55295) || (decide (57344 ≤ y) && decide (y ≤ 1114111))) = true) by simp only [Bool.or_eq_true, Bool.and_eq_true, decide_eq_true_eq]; omega)]; rfl
          rw [e]
          exact l0_end s _ 4 65536
        · rw [bad_N]
          · exact l0_no s _ 4 65536 3 (by omega) (by omega) c3
          · unfold Lib.decodeN
            rw [if_neg (by omega), if_neg (by omega), if_neg (by omega), if_neg (by omega)]
      · rw [bad_N]
        · exact l0_no s _ 4 65536 2 (by omega) (by omega) c2
        · unfold Lib.decodeN
          rw [if_neg (by omega), if_neg (by omega), if_neg (by omega), if_neg (by omega)]
    · rw [bad_N]
      · exact l0_no s _ 4 65536 1 (by omega) (by omega) c1
      · unfold Lib.decodeN
        rw [if_neg (by omega), if_neg (by omega), if_neg (by omega), if_neg (by omega)]
theorem tmod_of (b m : Nat) : Int.tmod (b : Int) (m : Int) = ((b % m : Nat) : Int) := tm b m
theorem j0_true (k : Nat) (s : ByteArray) (x : Int) : spec_l1Rune.j0 (k + 1) s x true = spec_l1Rune.j2 k s (Int.tmod x 32) 2 128 := rfl
theorem j0_false (k : Nat) (s : ByteArray) (x : Int) : spec_l1Rune.j0 (k + 1) s x false = (if x ≥ 224 then (spec_l1Rune.j1 k s x (decide (x < 240))) else (spec_l1Rune.j1 k s x false)) := rfl
theorem j1_true (k : Nat) (s : ByteArray) (x : Int) : spec_l1Rune.j1 (k + 1) s x true = spec_l1Rune.j2 k s (Int.tmod x 16) 3 2048 := rfl
theorem j1_false (k : Nat) (s : ByteArray) (x : Int) : spec_l1Rune.j1 (k + 1) s x false = (if x ≥ 240 then (if x < 248 then (spec_l1Rune.j2 k s (Int.tmod x 8) 4 65536) else (some (0, 0))) else (some (0, 0))) := rfl
theorem rune_f (s : ByteArray) (hne : 0 < s.size) : Ev (fun k => spec_l1Rune.f k s) (runeV s) := by
  rw [runeV_N]
  have hb := B_lt s 0
  have hnil : ¬ s.toList = ([] : List UInt8) := by
    rw [Lib.toList_data]
    intro e
    rw [sz, e] at hne
    simp at hne
  have hw : wrap64 (bt s 0) = (B s 0 : Int) := by
    have := bt_B s 0 hne
    rw [show ((0 : Nat) : Int) = 0 from rfl] at this
    rw [this, w64] <;> omega
  by_cases a : B s 0 < 128
  · refine Ev.congr (f := fun _ => some ((B s 0 : Int), 1)) (fun k => ?_) ?_
    · unfold spec_l1Rune.f
      rw [if_neg hnil, if_pos (by omega), hw, if_pos (by omega)]
    · have : runeN s.size (B s 0) (B s 1) (B s 2) (B s 3) = ((B s 0 : Int), 1) := by
        unfold runeN Lib.decodeN
        rw [if_pos a, if_neg (show ¬ (B s 0 = 65533 ∧ (1 : Nat) = 1) by omega)]
        rfl
      rw [this]
      exact Ev.now _
  · have hf : ∀ k, spec_l1Rune.f k s = if (B s 0 : Int) ≥ 192 then (spec_l1Rune.j0 k s (B s 0 : Int) (decide ((B s 0 : Int) < 224))) else (spec_l1Rune.j0 k s (B s 0 : Int) false) := by
      intro k
      unfold spec_l1Rune.f
      rw [if_neg hnil, if_pos (by omega), hw, if_neg (by omega)]
    by_cases c2 : B s 0 / 32 = 6
    · refine Ev.congr (f := fun k => spec_l1Rune.j0 k s (B s 0 : Int) true) (fun k => ?_) ?_
      · rw [hf, if_pos (by omega), decide_eq_true (by omega)]
      · refine Ev.step (f := fun k => spec_l1Rune.j2 k s ((B s 0 % 32 : Nat) : Int) ((2 : Nat) : Int) ((128 : Nat) : Int)) (fun k => ?_) (two_rune s c2)
        rw [j0_true, ← tmod_of]
        rfl
    · have hj1 : ∀ r, Ev (fun k => if (B s 0 : Int) ≥ 224 then (spec_l1Rune.j1 k s (B s 0 : Int) (decide ((B s 0 : Int) < 240))) else (spec_l1Rune.j1 k s (B s 0 : Int) false)) r → Ev (fun k => spec_l1Rune.f k s) r := by
        intro r hr
        refine Ev.congr (f := fun k => spec_l1Rune.j0 k s (B s 0 : Int) false) (fun k => ?_) ?_
        · rw [hf]
          by_cases d : (B s 0 : Int) ≥ 192
          · rw [if_pos d, decide_eq_false (by omega)]
          · rw [if_neg d]
        · exact Ev.step (fun k => j0_false k s _) hr
      by_cases c3 : B s 0 / 16 = 14
      · refine hj1 _ ?_
        refine Ev.congr (f := fun k => spec_l1Rune.j1 k s (B s 0 : Int) true) (fun k => ?_) ?_
        · rw [if_pos (by omega), decide_eq_true (by omega)]
        · refine Ev.step (f := fun k => spec_l1Rune.j2 k s ((B s 0 % 16 : Nat) : Int) ((3 : Nat) : Int) ((2048 : Nat) : Int)) (fun k => ?_) (three_rune s c3)
          rw [j1_true, ← tmod_of]
          rfl
      · have hj1f : ∀ r, Ev (fun k => if (B s 0 : Int) ≥ 240 then (if (B s 0 : Int) < 248 then (spec_l1Rune.j2 k s (Int.tmod (B s 0 : Int) 8) 4 65536) else (some (0, 0))) else (some (0, 0))) r → Ev (fun k => spec_l1Rune.f k s) r := by
          intro r hr
          refine hj1 _ ?_
          refine Ev.congr (f := fun k => spec_l1Rune.j1 k s (B s 0 : Int) false) (fun k => ?_) ?_
          · by_cases d : (B s 0 : Int) ≥ 224
            · rw [if_pos d, decide_eq_false (by omega)]
            · rw [if_neg d]
          · exact Ev.step (fun k => j1_false k s _) hr
        refine hj1f _ ?_
        by_cases c4 : B s 0 / 8 = 30
        · refine Ev.congr (f := fun k => spec_l1Rune.j2 k s ((B s 0 % 8 : Nat) : Int) ((4 : Nat) : Int) ((65536 : Nat) : Int)) (fun k => ?_) (four_rune s c4)
          rw [if_pos (by omega), if_pos (by omega), ← tmod_of]
          rfl
        · rw [bad_N]
          · refine Ev.congr (f := fun _ => some (0, 0)) (fun k => ?_) (Ev.now _)
            by_cases d : (B s 0 : Int) ≥ 240
            · rw [if_pos d, if_neg (by omega)]
            · rw [if_neg d]
          · unfold Lib.decodeN
            rw [if_neg (by omega), if_neg (by omega), if_neg (by omega), if_neg (by omega)]
def runesV (s : ByteArray) : List Int × Bool := if 20000 < s.size then ([], false) else if Lib.validD s.data.toList = true then (runesOf s, true) else ([], false)
theorem impl_runes (s : ByteArray) (hs : s.size ≤ 9223372036854775807) : impl_Runes.f s = some (runesV s) := by
  unfold impl_Runes.f runesV
  rw [if_pos hs]
  split
  · rfl
  · split <;> rfl
theorem spec_runes_l0 (s : ByteArray) (hs : s.size ≤ 20000) : ∀ (fuel pos : Nat) (acc : List Int), s.size ≤ pos + fuel → pos ≤ s.size → acc.length ≤ pos →
    Ev (fun k => spec_Runes.l0 k (s.extract pos s.size) acc) (if Lib.validD (s.data.toList.drop pos) = true then (acc ++ runesFrom s fuel pos, true) else ([], false)) := by
  intro fuel
  have hend : ∀ (fuel pos : Nat) (acc : List Int), pos = s.size → Ev (fun k => spec_Runes.l0 k (s.extract pos s.size) acc) (if Lib.validD (s.data.toList.drop pos) = true then (acc ++ runesFrom s fuel pos, true) else ([], false)) := by
    intro fuel pos acc e
    have hd : s.data.toList.drop pos = [] := List.drop_of_length_le (by rw [← sz]; omega)
    rw [runesFrom_end s fuel pos (by omega), hd, Lib.validD_nil, if_pos rfl, List.append_nil]
    refine Ev.step (f := fun _ => some (acc, true)) (fun k => ?_) (Ev.now _)
    conv => lhs; unfold spec_Runes.l0
    rw [if_pos (by rw [Lib.toList_data, Lib.extract_to_end, hd])]
  induction fuel with
  | zero =>
    intro pos acc h1 h2 h3
    exact hend 0 pos acc (by omega)
  | succ f ih =>
    intro pos acc h1 h2 h3
    by_cases he : pos = s.size
    · exact hend (f + 1) pos acc he
    · obtain ⟨t, ht⟩ : ∃ t, s.extract pos s.size = t := ⟨_, rfl⟩
      have htl : t.data.toList = s.data.toList.drop pos := by rw [← ht]; exact Lib.extract_to_end s pos
      have htz : t.size = s.size - pos := by rw [sz t, htl, List.length_drop, ← sz]
      have hne : s.data.toList.drop pos ≠ [] := by
        intro e
        have := congrArg List.length e
        rw [List.length_drop, ← sz] at this
        simp at this
        omega
      have hdec : Utf8.decode t 0 = Utf8.decode s pos := by
        have e1 := Lib.decodeL_drop t 0
        have e2 := Lib.decodeL_drop s pos
        rw [List.drop_zero, htl] at e1
        rw [← e1, e2]
      have hdl := Lib.decodeL_drop s pos
      have hstep := Lib.validD_step (s.data.toList.drop pos) hne
      have hle := Lib.decodeL_le (s.data.toList.drop pos) hne
      rw [hdl] at hstep hle
      rw [List.length_drop, ← sz] at hle
      have hw := rune_width s pos (by omega)
      have hr := rune_f t (by omega)
      have hV : runeV t = if (Utf8.decode s pos).1 = 65533 ∧ (Utf8.decode s pos).2 = 1 then (0, 0) else (((Utf8.decode s pos).1 : Int), ((Utf8.decode s pos).2 : Int)) := by
        unfold runeV
        rw [hdec]
      have hnil : ¬ t.toList = ([] : List UInt8) := by rw [Lib.toList_data, htl]; exact hne
      rw [ht]
      have hf : ∀ k, spec_Runes.l0 (k + 1) t acc = (spec_l1Rune.f k t).bind fun bt111 => (if bt111.2 = 0 then (some (([] : List Int), false)) else (if acc.length < 17592186044416 then (if 0 ≤ bt111.2 then (if bt111.2 ≤ (t.size : Int) then (spec_Runes.l0 k (t.extract (bt111.2 : Int).toNat t.size) (acc ++ [bt111.1])) else (none)) else (none)) else (none))) := by
        intro k
        conv => lhs; unfold spec_Runes.l0
        rw [if_neg hnil]
      refine Ev.step hf (Ev.bind hr ?_)
      rw [hV, hstep]
      by_cases hb : (Utf8.decode s pos).1 = 65533 ∧ (Utf8.decode s pos).2 = 1
      · rw [if_pos hb, if_pos hb, if_neg (by decide)]
        simp only [if_true]
        exact Ev.now _
      · rw [if_neg hb, if_neg hb]
        have hx : t.extract (Utf8.decode s pos).2 t.size = s.extract (pos + (Utf8.decode s pos).2) s.size := by
          apply ba_ext
          rw [Lib.extract_to_end, htl, Lib.extract_to_end, List.drop_drop]
        have hih := ih (pos + (Utf8.decode s pos).2) (acc ++ [((Utf8.decode s pos).1 : Int)]) (by omega) (by omega) (by simp; omega)
        rw [List.drop_drop]
        have hrf : runesFrom s (f + 1) pos = ((Utf8.decode s pos).1 : Int) :: runesFrom s f (pos + (Utf8.decode s pos).2) := by
          simp [runesFrom, show pos < s.size by omega]
        rw [hrf, ← hx] at *
        simp only [if_neg (show ¬ ((Utf8.decode s pos).2 : Int) = 0 by omega), if_pos (show acc.length < 17592186044416 by omega), if_pos (show (0 : Int) ≤ ((Utf8.decode s pos).2 : Int) by omega), if_pos (show ((Utf8.decode s pos).2 : Int) ≤ (t.size : Int) by omega), Int.toNat_natCast]
        simpa using hih
theorem spec_runes (s : ByteArray) : Ev (fun k => spec_Runes.f k s) (runesV s) := by
  unfold runesV
  by_cases c : 20000 < s.size
  · rw [if_pos c]
    refine Ev.congr (f := fun _ => some (([] : List Int), false)) (fun k => ?_) (Ev.now _)
    unfold spec_Runes.f
    rw [if_pos (by omega)]
  · rw [if_neg c]
    have h := spec_runes_l0 s (by omega) s.size 0 [] (by omega) (by omega) (by simp)
    have e : s.extract 0 s.size = s := by apply ba_ext; rw [Lib.extract_to_end, List.drop_zero]
    rw [e, List.drop_zero, List.nil_append] at h
    refine Ev.congr (f := fun k => spec_Runes.l0 k s []) (fun k => ?_) h
    unfold spec_Runes.f
    rw [if_neg (by omega)]
end Go.Proofs.YtilmhfkbpnejeaaDoor.Pure

namespace Go.Proofs.YtilmhfkbpnejeaaDoor.L
open Go.RowKit Go.Proofs.YtilmhfkbpnejeaaDoor.O Go.Proofs.YtilmhfkbpnejeaaDoorW.PrintWords Go.Proofs.YtilmhfkbpnejeaaDoorW.PrintLast Go.Proofs.YtilmhfkbpnejeaaDoorW.PrintMore
set_option linter.unusedVariables false
def laws_FnExactMatches.Pure : Prop := ∀ (l : List S88) (a : ByteArray), l.length ≤ 9223372036854775807 → (∀ x ∈ l, okNode x) → ∃ k, laws_FnExactMatches.f k l a = some true
theorem laws_FnExactMatches.walk (P : laws_FnExactMatches.Pure) (A0 : Option Addr) (c0 : Nat) (l : List S88) (a : ByteArray) (w : World) (hT : Gl w) (hr : Kd.C k88 w A0 l.length l) (hc : l.length ≤ c0) (hl : l.length ≤ 9223372036854775807) (ok : ∀ x ∈ l, okNode x) :
    Calls Tryd.prog 8 #[.slice A0 l.length c0, .string a] w fun e w' => e = .returned (.bool true) ∧ Below w.heap.size w w' := by
  obtain ⟨k, h⟩ := P l a hl ok
  refine (laws_FnExactMatches.calls k A0 c0 l a true w hT hr hc h).mono ?_
  rintro e w' ⟨rfl, hd⟩
  exact ⟨rfl, hd⟩
end Go.Proofs.YtilmhfkbpnejeaaDoor.L

namespace Go.Proofs.YtilmhfkbpnejeaaDoor.Pure
open Go.RowKit Go.Proofs.YtilmhfkbpnejeaaDoor.L Go.Proofs.YtilmhfkbpnejeaaDoor.O Go.Proofs.YtilmhfkbpnejeaaDoorW.PrintWords Go.Proofs.YtilmhfkbpnejeaaDoorW.PrintLast Go.Proofs.YtilmhfkbpnejeaaDoorW.PrintMore
set_option linter.unusedVariables false
set_option linter.unusedSimpArgs false

theorem matches_both (l : List RNd) (a : ByteArray) (ha : a.size ≤ 1048576) (hr : ∀ x ∈ l, x.f2.length ≤ 9223372036854775807) : ∃ r, Ev (fun k => impl_Matches.f k l a) r ∧ Ev (fun k => spec_Matches.f k l a) r := by
  have ri := impl_runes a (by omega)
  have rs := spec_runes a
  obtain ⟨v, vi, vs, vt⟩ := ok_both l hr
  have hi : ∀ k, impl_Matches.f k l a = (impl_RegexOk.f k l).bind fun t353 => (if t353 = true then (if (runesV a).2 = true then (if ((runesV a).1.length : Int) > 300 then (some false) else (if 0 ≤ (wrap64 (((runesV a).1.length : Int) + 1)) then (if (wrap64 (((runesV a).1.length : Int) + 1) : Int).toNat ≤ 281474976710656 then ((some (List.replicate (wrap64 (((runesV a).1.length : Int) + 1) : Int).toNat false : List Bool)).bind fun y354 => (if 0 < (y354.length : Int) then ((impl_ends.f k l (wrap64 ((l.length : Int) - 1)) (runesV a).1 (y354.set (0 : Int).toNat true)).bind fun t358 => (if 0 ≤ ((runesV a).1.length : Int) then (if ((runesV a).1.length : Int) < (t358.length : Int) then (some (rdOf false t358 ((runesV a).1.length : Int))) else (none)) else (none))) else (none))) else (none)) else (none))) else (some false)) else (some false)) := by
    intro k
    unfold impl_Matches.f
    rw [ri, Option.bind_some]
  have hs : ∀ k, spec_Matches.f k l a = (spec_Runes.f k a).bind fun bt216 => (if bt216.2 = true then ((spec_RegexOk.f k l).bind fun t220 => (if t220 = true then (if (bt216.1.length : Int) > 300 then (some false) else (if 0 ≤ (wrap64 ((bt216.1.length : Int) + 1)) then (if (wrap64 ((bt216.1.length : Int) + 1) : Int).toNat ≤ 281474976710656 then ((some (List.replicate (wrap64 ((bt216.1.length : Int) + 1) : Int).toNat false : List Bool)).bind fun y221 => (if 0 < (y221.length : Int) then ((spec_l6Step.f k l (wrap64 ((l.length : Int) - 1)) bt216.1 (y221.set (0 : Int).toNat true)).bind fun t225 => (if 0 ≤ (bt216.1.length : Int) then (if (bt216.1.length : Int) < (t225.length : Int) then (some (rdOf false t225 (bt216.1.length : Int))) else (none)) else (none))) else (none))) else (none)) else (none))) else (some false))) else (some false)) := fun k => rfl
  generalize runesV a = tv at *
  obtain ⟨t, tok⟩ := tv
  cases tok with
  | false =>
    refine ⟨false, Ev.congr hi (Ev.bind vi ?_), Ev.congr hs (Ev.bind rs ?_)⟩
    · cases v <;> exact Ev.now _
    · exact Ev.now _
  | true =>
    cases v with
    | false => exact ⟨false, Ev.congr hi (Ev.bind vi (Ev.now _)), Ev.congr hs (Ev.bind rs (Ev.bind vs (Ev.now _)))⟩
    | true =>
      obtain ⟨hok, h1, h2⟩ := vt rfl
      by_cases h3 : t.length > 300
      · refine ⟨false, Ev.congr hi (Ev.bind vi ?_), Ev.congr hs (Ev.bind rs (Ev.bind vs ?_))⟩
        · simp only [if_true, if_pos (show (t.length : Int) > 300 by omega)]
          exact Ev.now _
        · simp only [if_true, if_pos (show (t.length : Int) > 300 by omega)]
          exact Ev.now _
      · have e1 : wrap64 ((t.length : Int) + 1) = ((t.length + 1 : Nat) : Int) := by rw [w64] <;> omega
        have e2 : wrap64 ((l.length : Int) - 1) = ((l.length - 1 : Nat) : Int) := by rw [w64] <;> omega
        obtain ⟨r, hr', ra, rb⟩ := steps_both l t (by omega) hok (l.length - 1) (by omega) ((List.replicate (t.length + 1) false).set 0 true) (by simp)
        refine ⟨r[t.length], Ev.congr hi (Ev.bind vi ?_), Ev.congr hs (Ev.bind rs (Ev.bind vs ?_))⟩
        · simp only [if_true, if_neg (show ¬ (t.length : Int) > 300 by omega), e1, e2, if_pos (show (0 : Int) ≤ ((t.length + 1 : Nat) : Int) by omega), Int.toNat_natCast, if_pos (show t.length + 1 ≤ 281474976710656 by omega), Option.bind_some, List.length_replicate, if_pos (show (0 : Int) < ((t.length + 1 : Nat) : Int) by omega), Int.toNat_zero]
          refine Ev.bind ra ?_
          rw [if_pos (by omega), if_pos (by omega), rdB r t.length (by omega)]
          exact Ev.now _
        · simp only [if_true, if_neg (show ¬ (t.length : Int) > 300 by omega), e1, e2, if_pos (show (0 : Int) ≤ ((t.length + 1 : Nat) : Int) by omega), Int.toNat_natCast, if_pos (show t.length + 1 ≤ 281474976710656 by omega), Option.bind_some, List.length_replicate, if_pos (show (0 : Int) < ((t.length + 1 : Nat) : Int) by omega), Int.toNat_zero]
          refine Ev.bind rb ?_
          rw [if_pos (by omega), if_pos (by omega), rdB r t.length (by omega)]
          exact Ev.now _
theorem FnExactMatches : laws_FnExactMatches.Pure := by
  intro l a hl hs
  by_cases hbig : a.size > 1048576
  · refine ⟨0, ?_⟩
    unfold laws_FnExactMatches.f
    rw [if_pos (by omega)]
  obtain ⟨v, hv, hr⟩ := szNS l hl hs
  have hf : ∀ k, laws_FnExactMatches.f k l a = (laws_szRNodeS.f k l 1048576).bind fun t373 => (if t373 < 0 then (some true) else ((laws_toRNodeS.f k l).bind fun t374 => ((spec_Matches.f k t374 a).bind fun t377 => ((laws_toRNodeS.f k l).bind fun t378 => ((impl_Matches.f k t378 a).bind fun t381 => (if (t381 != t377) = true then (some false) else ((laws_toRNodeS.f k l).bind fun t382 => ((laws_eqRNodeS.f k t378 t382).bind fun t385 => (if t385 = true then (some true) else (some false)))))))))) := by
    intro k
    unfold laws_FnExactMatches.f
    rw [if_neg (by omega)]
  have : Ev (fun k => laws_FnExactMatches.f k l a) true := by
    refine Ev.congr hf (Ev.bind hv ?_)
    rcases hr with h | ⟨h0, h1, h2⟩
    · simp only [if_pos h]
      exact Ev.now _
    · have hcl : (l.map convN).length ≤ 1048576 := by rw [List.length_map]; exact h1
      have hcs : ∀ x ∈ l.map convN, x.f2.length ≤ 1048576 := fun x hx => by
        obtain ⟨y, hy, rfl⟩ := List.mem_map.1 hx
        show (y.f2.map convR).length ≤ 1048576
        rw [List.length_map]
        exact h2 y hy
      have hto := toNS l h1 h2
      obtain ⟨r, him, hsp⟩ := matches_both (l.map convN) a (by omega) (fun x hx => Nat.le_trans (hcs x hx) (by decide))
      have heq := eqNS (l.map convN) hcl hcs
      simp only [if_neg (show ¬ v < 0 by omega)]
      refine Ev.bind hto (Ev.bind hsp (Ev.bind hto (Ev.bind him ?_)))
      simp only [bne_self_eq_false, Bool.false_eq_true, if_false]
      refine Ev.bind hto (Ev.bind heq ?_)
      exact Ev.now _
  exact this.rounds
end Go.Proofs.YtilmhfkbpnejeaaDoor.Pure
