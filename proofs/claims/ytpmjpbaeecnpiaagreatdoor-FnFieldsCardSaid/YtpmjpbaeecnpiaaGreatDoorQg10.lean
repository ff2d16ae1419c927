/- Words and contracts for the row RowFnFields: what the Go functions answer that it calls; printed by programs of the kit and of this session, and merged. -/
import Derived.Test.YtpmjpbaeecnpiaaGreatDoorQg9
namespace Go.Proofs.YtpmjpbaeecnpiaaGreatDoor.Pure
open Go.RowKit Go.Proofs.YtpmjpbaeecnpiaaGreatDoor.L Go.Proofs.YtpmjpbaeecnpiaaGreatDoorW.PrintWords Go.Proofs.YtpmjpbaeecnpiaaGreatDoorW.PrintLast Go.Proofs.YtpmjpbaeecnpiaaGreatDoorW.PrintMore
set_option linter.unusedVariables false
set_option linter.unusedSimpArgs false

abbrev It : Type := S65
abbrev At : Type := S67
theorem rdIt (l : List It) (i : Nat) (h : i < l.length) : rd_T65 l (i : Int) = l[i] := by
  unfold rd_T65
  simp [h]
theorem rdAt (l : List At) (i : Nat) (h : i < l.length) : rd_T67 l (i : Int) = l[i] := by
  unfold rd_T67
  simp [h]
/-- p holds at d places from i on. -/
def allN (p : Nat → Bool) : Nat → Nat → Bool
  | _, 0 => true
  | i, d + 1 => p i && allN p (i + 1) d
theorem allN_iff {p : Nat → Bool} : ∀ {d i : Nat}, allN p i d = true ↔ ∀ j, i ≤ j → j < i + d → p j = true
  | 0, i => by simp [allN]; omega
  | d + 1, i => by
    rw [allN, Bool.and_eq_true, allN_iff]
    constructor
    · rintro ⟨h1, h2⟩ j h3 h4
      by_cases e : j = i
      · rw [e]; exact h1
      · exact h2 j (by omega) (by omega)
    · exact fun h => ⟨h i (Nat.le_refl _) (by omega), fun j h1 h2 => h j (by omega) (by omega)⟩
def smallA (a : At) : Prop := a.f0.size ≤ 1048576 ∧ a.f1.size ≤ 1048576
def smallAs (l : List At) : Prop := l.length ≤ 1048576 ∧ ∀ a ∈ l, smallA a
def smallI (x : It) : Prop := x.f1.size ≤ 1048576 ∧ x.f2.size ≤ 1048576 ∧ smallAs x.f3
/-- Attribute i is right, and none ahead of it has its name. -/
def attrV (l : List At) (i : Nat) : Bool := match l[i]? with
  | some a => qualV a.f0 && plainV a.f1 && !(l.take i).any (fun b => decide (b.f0.toList = a.f0.toList))
  | none => false
theorem attrV_at {l : List At} {i : Nat} (h : i < l.length) : attrV l i = (qualV l[i].f0 && plainV l[i].f1 && !(l.take i).any (fun b => decide (b.f0.toList = l[i].f0.toList))) := by
  unfold attrV
  rw [List.getElem?_eq_getElem h]
theorem size_len {s : ByteArray} (h : s.size ≤ 1048576) : s.data.toList.length ≤ 9223372036854775806 := by rw [← sz]; omega
section
variable (l : List At) (hl : smallAs l) (z : It)
include hl
theorem sm (i : Nat) (h : i < l.length) : l[i].f0.size ≤ 1048576 ∧ l[i].f1.size ≤ 1048576 := hl.2 _ (List.getElem_mem h)
theorem impl_names_l1 (i : Nat) (hi : i < l.length) (R : Bool) (hR : Ev (fun k => impl_Item_isGood.l0 k l (l.length : Int) ((i + 1 : Nat) : Int) z.f0 z.f1 z.f2 z.f3) R) (v : ByteArray) : ∀ (n j : Nat), j + n = i →
    Ev (fun k => impl_Item_isGood.l1 k l (l.length : Int) (i : Int) (l.take i) ((l.take i).length : Int) (j : Int) z.f0 z.f1 z.f2 z.f3 l[i].f0 v) (!((l.take i).drop j).any (fun b => decide (b.f0.toList = l[i].f0.toList)) && R) := by
  have h1 := hl.1
  have hlen : (l.take i).length = i := by rw [List.length_take]; omega
  intro n
  induction n with
  | zero =>
    intro j hj
    rw [List.drop_of_length_le (by omega)]
    refine Ev.step (fun k => ?_) hR
    conv => lhs; unfold impl_Item_isGood.l1
    rw [if_neg (by omega), w1n hi (by omega)]
  | succ n ih =>
    intro j hj
    have hlt : j < (l.take i).length := by omega
    rw [List.drop_eq_getElem_cons hlt, List.any_cons]
    by_cases c : (l.take i)[j].f0.toList = l[i].f0.toList
    · rw [decide_eq_true c]
      refine Ev.step (f := fun _ => some false) (fun k => ?_) (Ev.now _)
      conv => lhs; unfold impl_Item_isGood.l1
      rw [if_pos (by omega), if_pos (by omega), if_pos (by omega), rdAt _ j hlt, if_pos c.symm]
    · rw [decide_eq_false c, Bool.false_or]
      refine Ev.step (fun k => ?_) (ih (j + 1) (by omega))
      conv => lhs; unfold impl_Item_isGood.l1
      rw [if_pos (by omega), if_pos (by omega), if_pos (by omega), rdAt _ j hlt, if_neg (fun h => c h.symm), w1n hlt (by omega)]
theorem impl_attrs (hz : z.f3 = l) : ∀ (n i : Nat), i + n = l.length → Ev (fun k => impl_Item_isGood.l0 k l (l.length : Int) (i : Int) z.f0 z.f1 z.f2 z.f3) (allN (attrV l) i n) := by
  have h1 := hl.1
  intro n
  induction n with
  | zero =>
    intro i hi
    refine Ev.step (f := fun _ => some true) (fun k => ?_) (Ev.now _)
    conv => lhs; unfold impl_Item_isGood.l0
    rw [if_neg (by omega)]
  | succ n ih =>
    intro i hi
    have hlt : i < l.length := by omega
    have hs := sm l hl i hlt
    rw [allN, attrV_at hlt]
    have q := impl_qual l[i].f0 (size_len hs.1)
    have p := impl_plain l[i].f1 (by omega)
    have tail : ∀ b : Bool, Ev (fun k => impl_Item_isGood.j2 k (i : Int) l (l.length : Int) (i : Int) b z.f0 z.f1 z.f2 z.f3 l[i].f0 l[i].f1) (!b && (!(l.take i).any (fun b => decide (b.f0.toList = l[i].f0.toList)) && allN (attrV l) (i + 1) n)) := by
      intro b
      cases b with
      | true =>
        refine Ev.step (f := fun _ => some false) (fun k => ?_) (Ev.now _)
        conv => lhs; unfold impl_Item_isGood.j2
        rw [if_pos rfl]
      | false =>
        have := impl_names_l1 l hl z i hlt _ (ih (i + 1) (by omega)) l[i].f1 i 0 (by omega)
        refine Ev.step (fun k => ?_) this
        conv => lhs; unfold impl_Item_isGood.j2
        rw [if_neg (by decide), if_pos (by omega), if_pos (by rw [hz]; omega)]
        simp only [Option.bind_some, Int.toNat_natCast, hz]
        rfl
    refine Ev.step (f := fun k => (impl_isQualified.f k l[i].f0).bind fun t330 => (if t330 = true then ((impl_isPlain.f k l[i].f1).bind fun t331 => (impl_Item_isGood.j2 k (i : Int) l (l.length : Int) (i : Int) (!t331) z.f0 z.f1 z.f2 z.f3 l[i].f0 l[i].f1)) else (impl_Item_isGood.j2 k (i : Int) l (l.length : Int) (i : Int) true z.f0 z.f1 z.f2 z.f3 l[i].f0 l[i].f1))) (fun k => ?_) (Ev.bind q ?_)
    · conv => lhs; unfold impl_Item_isGood.l0
      rw [if_pos (by omega), if_pos (by omega), if_pos (by omega), rdAt l i hlt]
    · cases qualV l[i].f0 with
      | false => exact tail true
      | true =>
        simp only [if_true, Bool.true_and]
        refine Ev.bind p ?_
        have := tail (!plainV l[i].f1)
        rw [Bool.not_not] at this
        rw [Bool.and_assoc]
        exact this
omit hl in
theorem spec_names_l1 (hl : smallAs l) (i : Nat) (hi : i < l.length) (R : Bool) (hR : Ev (fun k => spec_l2Attrs.l0 k l ((i + 1 : Nat) : Int)) R) : ∀ (n j : Nat), j + n = i →
    Ev (fun k => spec_l2Attrs.l1 k l (i : Int) (j : Int)) (!((l.take i).drop j).any (fun b => decide (b.f0.toList = l[i].f0.toList)) && R) := by
  have h1 := hl.1
  have hlen : (l.take i).length = i := by rw [List.length_take]; omega
  intro n
  induction n with
  | zero =>
    intro j hj
    rw [List.drop_of_length_le (by omega)]
    refine Ev.step (fun k => ?_) hR
    conv => lhs; unfold spec_l2Attrs.l1
    rw [if_neg (by omega), w1n hi (by omega)]
  | succ n ih =>
    intro j hj
    have hlt : j < (l.take i).length := by omega
    have hj2 : j < l.length := by omega
    have ej : (l.take i)[j] = l[j] := List.getElem_take
    rw [List.drop_eq_getElem_cons hlt, List.any_cons, ej]
    by_cases c : l[j].f0.toList = l[i].f0.toList
    · rw [decide_eq_true c]
      refine Ev.step (f := fun _ => some false) (fun k => ?_) (Ev.now _)
      conv => lhs; unfold spec_l2Attrs.l1
      rw [if_pos (by omega), if_pos (by omega), if_pos (by omega), if_pos (by omega), if_pos (by omega), rdAt _ j hj2, rdAt _ i hi, if_pos c]
    · rw [decide_eq_false c, Bool.false_or]
      refine Ev.step (fun k => ?_) (ih (j + 1) (by omega))
      conv => lhs; unfold spec_l2Attrs.l1
      rw [if_pos (by omega), if_pos (by omega), if_pos (by omega), if_pos (by omega), if_pos (by omega), rdAt _ j hj2, rdAt _ i hi, if_neg c, w1n hlt (by omega)]
theorem spec_attrs_l0 : ∀ (n i : Nat), i + n = l.length → Ev (fun k => spec_l2Attrs.l0 k l (i : Int)) (allN (attrV l) i n) := by
  have h1 := hl.1
  intro n
  induction n with
  | zero =>
    intro i hi
    refine Ev.step (f := fun _ => some true) (fun k => ?_) (Ev.now _)
    conv => lhs; unfold spec_l2Attrs.l0
    rw [if_neg (by omega)]
  | succ n ih =>
    intro i hi
    have hlt : i < l.length := by omega
    have hs := sm l hl i hlt
    rw [allN, attrV_at hlt]
    have q := spec_qual l[i].f0 (size_len hs.1)
    have p := spec_text l[i].f1 (by omega)
    have tail : ∀ b : Bool, Ev (fun k => spec_l2Attrs.j1 k l (i : Int) b) (!b && (!(l.take i).any (fun b => decide (b.f0.toList = l[i].f0.toList)) && allN (attrV l) (i + 1) n)) := by
      intro b
      cases b with
      | true =>
        refine Ev.step (f := fun _ => some false) (fun k => ?_) (Ev.now _)
        conv => lhs; unfold spec_l2Attrs.j1
        rw [if_pos rfl]
      | false =>
        refine Ev.step (fun k => ?_) (spec_names_l1 l hl i hlt _ (ih (i + 1) (by omega)) i 0 (by omega))
        conv => lhs; unfold spec_l2Attrs.j1
        rw [if_neg (by decide)]
        rfl
    refine Ev.step (f := fun k => (spec_l1Qual.f k l[i].f0).bind fun t141 => (if t141 = true then ((spec_l1Text.f k l[i].f1).bind fun t143 => (spec_l2Attrs.j1 k l (i : Int) (!t143))) else (spec_l2Attrs.j1 k l (i : Int) true))) (fun k => ?_) (Ev.bind q ?_)
    · conv => lhs; unfold spec_l2Attrs.l0
      rw [if_pos (by omega), if_pos (by omega), rdAt l i hlt]
    · cases qualV l[i].f0 with
      | false => exact tail true
      | true =>
        simp only [if_true, Bool.true_and]
        refine Ev.bind p ?_
        have := tail (!plainV l[i].f1)
        rw [Bool.not_not] at this
        rw [Bool.and_assoc]
        exact this
def attrsV (l : List At) : Bool := decide (l.length ≤ 10) && allN (attrV l) 0 l.length
theorem spec_attrs : Ev (fun k => spec_l2Attrs.f k l) (attrsV l) := by
  unfold attrsV
  by_cases c : l.length ≤ 10
  · rw [decide_eq_true c, Bool.true_and]
    refine Ev.congr (fun k => ?_) (spec_attrs_l0 l hl l.length 0 (by omega))
    unfold spec_l2Attrs.f
    rw [if_neg (by omega)]
    rfl
  · rw [decide_eq_false c]
    refine Ev.congr (f := fun _ => some false) (fun k => ?_) (Ev.now _)
    unfold spec_l2Attrs.f
    rw [if_pos (by omega)]
end
/-- An item that is right in itself. -/
def goodV (x : It) : Bool := if x.f1.toList = ([] : List UInt8) then (if x.f2.toList = ([] : List UInt8) then false else plainV x.f2 && decide (x.f3.length = 0)) else qualV x.f1 && (if x.f2.toList = ([] : List UInt8) then attrsV x.f3 else false)
theorem impl_good (x : It) (h : smallI x) : Ev (fun k => impl_Item_isGood.f k x.f0 x.f1 x.f2 x.f3) (goodV x) := by
  obtain ⟨h1, h2, h3⟩ := h
  unfold goodV
  by_cases c1 : x.f1.toList = ([] : List UInt8)
  · rw [if_pos c1]
    by_cases c2 : x.f2.toList = ([] : List UInt8)
    · rw [if_pos c2]
      refine Ev.congr (f := fun _ => some false) (fun k => ?_) (Ev.now _)
      unfold impl_Item_isGood.f
      rw [if_pos c1, if_pos c2]
    · rw [if_neg c2]
      refine Ev.congr (f := fun k => (impl_isPlain.f k x.f2).bind fun t326 => (if t326 = true then (some ((x.f3.length : Int) == 0)) else (some false))) (fun k => ?_) (Ev.bind (impl_plain x.f2 (by omega)) ?_)
      · unfold impl_Item_isGood.f
        rw [if_pos c1, if_neg c2]
      · cases plainV x.f2 with
        | false => exact Ev.now _
        | true =>
          have e : ((x.f3.length : Int) == 0) = decide (x.f3.length = 0) := by
            rw [Bool.eq_iff_iff]; simp
          simp only [if_true, Bool.true_and, e]
          exact Ev.now _
  · rw [if_neg c1]
    have tail : ∀ b : Bool, Ev (fun k => impl_Item_isGood.j0 k b x.f0 x.f1 x.f2 x.f3) (!b && allN (attrV x.f3) 0 x.f3.length) := by
      intro b
      cases b with
      | true =>
        exact Ev.step (f := fun _ => some false) (fun k => rfl) (Ev.now _)
      | false =>
        exact Ev.step (fun k => rfl) (impl_attrs x.f3 h3 x rfl x.f3.length 0 (by omega))
    refine Ev.congr (f := fun k => (impl_isQualified.f k x.f1).bind fun t327 => (if t327 = true then (if x.f2.toList = ([] : List UInt8) then (impl_Item_isGood.j0 k (decide ((x.f3.length : Int) > 10)) x.f0 x.f1 x.f2 x.f3) else (impl_Item_isGood.j0 k true x.f0 x.f1 x.f2 x.f3)) else (impl_Item_isGood.j0 k true x.f0 x.f1 x.f2 x.f3))) (fun k => ?_) (Ev.bind (impl_qual x.f1 (size_len h1)) ?_)
    · unfold impl_Item_isGood.f
      rw [if_neg c1]
    · cases qualV x.f1 with
      | false => exact tail true
      | true =>
        simp only [if_true, Bool.true_and]
        by_cases c2 : x.f2.toList = ([] : List UInt8)
        · simp only [if_pos c2]
          unfold attrsV
          have e : (!decide ((x.f3.length : Int) > 10)) = decide (x.f3.length ≤ 10) := by
            rw [Bool.eq_iff_iff]; simp; omega
          rw [← e]
          exact tail _
        · simp only [if_neg c2]
          exact tail true
/-! how many bytes -/
def bytesA : List At → Int
  | [] => 0
  | a :: l => (a.f0.size : Int) + a.f1.size + bytesA l
def bytesV (x : It) : Int := (x.f1.size : Int) + x.f2.size + bytesA x.f3
theorem bytesA_bound : ∀ l : List At, (∀ a ∈ l, smallA a) → 0 ≤ bytesA l ∧ bytesA l ≤ 2097152 * l.length
  | [], _ => ⟨by simp [bytesA], by simp [bytesA]⟩
  | a :: l, h => by
    have h1 := h a (by simp)
    have h2 := bytesA_bound l (fun b hb => h b (by simp [hb]))
    unfold smallA at h1
    unfold bytesA
    simp only [List.length_cons]
    constructor <;> omega
theorem impl_bytes_l0 (l : List At) (hl : smallAs l) : ∀ (n i : Nat) (c : Int), i + n = l.length → 0 ≤ c → c ≤ 4194304 + 2097152 * i → Ev (fun k => impl_Item_bytes.l0 k c l (l.length : Int) (i : Int)) (c + bytesA (l.drop i)) := by
  have h1 := hl.1
  intro n
  induction n with
  | zero =>
    intro i c hi h0 hc
    rw [List.drop_of_length_le (by omega)]
    refine Ev.step (f := fun _ => some c) (fun k => ?_) (by rw [bytesA, Int.add_zero]; exact Ev.now _)
    conv => lhs; unfold impl_Item_bytes.l0
    rw [if_neg (by omega)]
  | succ n ih =>
    intro i c hi h0 hc
    have hlt : i < l.length := by omega
    have hs := sm l hl i hlt
    rw [List.drop_eq_getElem_cons hlt, bytesA]
    have e1 : wrap64 ((l[i].f0.size : Int) + (l[i].f1.size : Int)) = (l[i].f0.size : Int) + (l[i].f1.size : Int) := by rw [w64] <;> omega
    have e2 : wrap64 (c + ((l[i].f0.size : Int) + (l[i].f1.size : Int))) = c + ((l[i].f0.size : Int) + (l[i].f1.size : Int)) := by rw [w64] <;> omega
    have := ih (i + 1) (c + ((l[i].f0.size : Int) + (l[i].f1.size : Int))) (by omega) (by omega) (by omega)
    rw [← Int.add_assoc]
    refine Ev.step (fun k => ?_) this
    conv => lhs; unfold impl_Item_bytes.l0
    rw [if_pos (by omega), if_pos (by omega), if_pos (by omega), rdAt l i hlt, e1, e2, w1n hlt (by omega)]
theorem impl_bytes (x : It) (h : smallI x) : Ev (fun k => impl_Item_bytes.f k x.f0 x.f1 x.f2 x.f3) (bytesV x) := by
  obtain ⟨h1, h2, h3⟩ := h
  have := impl_bytes_l0 x.f3 h3 x.f3.length 0 ((x.f1.size : Int) + x.f2.size) (by omega) (by omega) (by omega)
  rw [List.drop_zero] at this
  refine Ev.congr (fun k => ?_) this
  unfold impl_Item_bytes.f
  rw [w64 (by omega) (by omega)]
  rfl
end Go.Proofs.YtpmjpbaeecnpiaaGreatDoor.Pure

namespace Go.Proofs.YtpmjpbaeecnpiaaGreatDoor.Pure
set_option linter.unusedVariables false
set_option linter.unusedSimpArgs false

namespace DT
/-- A place and those above it. -/
def chain (up : Nat → Int) (j : Nat) : List Nat := j :: (if _h : 0 ≤ up j ∧ (up j).toNat < j then chain up (up j).toNat else [])
termination_by j
/-- The first i items stand below elements that stand ahead. -/
def Val (up : Nat → Int) (el : Nat → Bool) (i : Nat) : Prop := (0 < i → up 0 = -1 ∧ el 0 = true) ∧ ∀ j, 0 < j → j < i → 0 ≤ up j ∧ (up j).toNat < j ∧ el (up j).toNat = true
/-- What may stand above the next one. -/
def stk (up : Nat → Int) (el : Nat → Bool) (j : Nat) : List Nat := if el j = true then chain up j else (chain up j).tail
section
variable {up : Nat → Int} {el : Nat → Bool}
theorem chain_eq (j : Nat) : chain up j = j :: (if _h : 0 ≤ up j ∧ (up j).toNat < j then chain up (up j).toNat else []) := by
  conv => lhs; rw [chain]
theorem chain_zero (h : up 0 = -1) : chain up 0 = [0] := by
  rw [chain, dif_neg (by omega)]
theorem chain_up {j : Nat} (h0 : 0 ≤ up j) (h1 : (up j).toNat < j) : chain up j = j :: chain up (up j).toNat := by
  conv => lhs; rw [chain]
  rw [dif_pos ⟨h0, h1⟩]
theorem chain_lt : ∀ j a, a ∈ chain up j → a ≤ j := by
  intro j
  induction j using Nat.strongRecOn with
  | _ j ih =>
  intro a ha
  rw [chain] at ha
  rcases List.mem_cons.1 ha with rfl | ha
  · exact Nat.le_refl _
  · split at ha
    · rename_i h
      have := ih _ h.2 a ha
      omega
    · simp at ha
/-- What stands above is elements. -/
theorem chain_el {i : Nat} (V : Val up el i) : ∀ j, j < i → ∀ a ∈ (chain up j).tail, el a = true := by
  intro j
  induction j using Nat.strongRecOn with
  | _ j ih =>
  intro hj a ha
  by_cases e : j = 0
  · subst e
    rw [chain_zero (V.1 (by omega)).1] at ha
    simp at ha
  · obtain ⟨h0, h1, h2⟩ := V.2 j (by omega) hj
    rw [chain_up h0 h1, List.tail_cons] at ha
    rw [chain] at ha
    rcases List.mem_cons.1 ha with rfl | ha
    · exact h2
    · refine ih (up j).toNat h1 (by omega) a ?_
      rw [chain, List.tail_cons]
      exact ha
/-- The rest of a chain from one of its places on is that place's chain. -/
theorem chain_drop {i : Nat} (V : Val up el i) : ∀ j, j < i → ∀ a, a ∈ chain up j → (chain up j).dropWhile (fun x => x != a) = chain up a := by
  intro j
  induction j using Nat.strongRecOn with
  | _ j ih =>
  intro hj a ha
  by_cases e : a = j
  · subst e
    rw [chain_eq a, List.dropWhile_cons_of_neg (by simp)]
  · by_cases ez : j = 0
    · subst ez
      rw [chain_zero (V.1 (by omega)).1] at ha
      simp at ha
      exact absurd ha e
    · obtain ⟨h0, h1, h2⟩ := V.2 j (by omega) hj
      rw [chain_up h0 h1] at ha ⊢
      rw [List.dropWhile_cons_of_pos (by simpa using fun h => e h.symm)]
      rcases List.mem_cons.1 ha with h | ha
      · exact absurd h e
      · exact ih _ h1 (by omega) a ha
theorem chain_head (j : Nat) : chain up j = j :: (chain up j).tail := by
  rw [chain_eq j, List.tail_cons]
/-- What is left above a place that may stand above the next one. -/
theorem stk_drop {i : Nat} (V : Val up el i) {j a : Nat} (hj : j < i) (ha : a ∈ stk up el j) : (stk up el j).dropWhile (fun x => x != a) = chain up a ∧ el a = true ∧ a ∈ chain up j := by
  unfold stk at ha ⊢
  split at ha
  · rename_i he
    rw [if_pos he]
    refine ⟨chain_drop V j hj a ha, ?_, ha⟩
    rw [chain_head] at ha
    rcases List.mem_cons.1 ha with rfl | ha
    · exact he
    · exact chain_el V j hj a ha
  · rename_i he
    rw [if_neg he]
    have hm : a ∈ chain up j := by rw [chain_head]; exact List.mem_cons_of_mem _ ha
    have hne : a ≠ j := by
      rintro rfl
      exact he (chain_el V a hj a ha)
    have := chain_drop V j hj a hm
    rw [chain_head, List.dropWhile_cons_of_pos (by simpa using fun h => hne h.symm)] at this
    exact ⟨this, chain_el V j hj a ha, hm⟩
theorem stk_mem {i : Nat} {j a : Nat} (ha : a ∈ chain up j) (he : el a = true) : a ∈ stk up el j := by
  unfold stk
  split
  · exact ha
  · rename_i h
    rw [chain_head] at ha
    rcases List.mem_cons.1 ha with rfl | ha
    · exact absurd he h
    · exact ha
theorem drop_none {l : List Nat} {a : Nat} (h : a ∉ l) : l.dropWhile (fun x => x != a) = [] := by
  induction l with
  | nil => rfl
  | cons x l ih =>
    rw [List.dropWhile_cons_of_pos]
    · exact ih (fun h' => h (by simp [h']))
    · simp only [bne_iff_ne, ne_eq]
      rintro rfl
      exact h (by simp)
theorem Val.next {i : Nat} (V : Val up el i) (h0 : i = 0 → up 0 = -1 ∧ el 0 = true) (h1 : 0 < i → 0 ≤ up i ∧ (up i).toNat < i ∧ el (up i).toNat = true) : Val up el (i + 1) := by
  refine ⟨fun _ => ?_, fun j hj hji => ?_⟩
  · by_cases e : i = 0
    · exact h0 e
    · exact V.1 (by omega)
  · by_cases e : j = i
    · subst e
      exact h1 hj
    · exact V.2 j hj (by omega)
end
end DT
end Go.Proofs.YtpmjpbaeecnpiaaGreatDoor.Pure

namespace Go.Proofs.YtpmjpbaeecnpiaaGreatDoor.Pure
open Go.RowKit Go.Proofs.YtpmjpbaeecnpiaaGreatDoor.L Go.Proofs.YtpmjpbaeecnpiaaGreatDoorW.PrintWords Go.Proofs.YtpmjpbaeecnpiaaGreatDoorW.PrintLast Go.Proofs.YtpmjpbaeecnpiaaGreatDoorW.PrintMore
open DT
set_option linter.unusedVariables false
set_option linter.unusedSimpArgs false

def upV (l : List It) (j : Nat) : Int := match l[j]? with | some x => x.f0 | none => -1
def elV (l : List It) (j : Nat) : Bool := match l[j]? with | some x => decide (¬ x.f1.toList = ([] : List UInt8)) | none => false
theorem upV_at {l : List It} {i : Nat} (h : i < l.length) : upV l i = l[i].f0 := by
  unfold upV; rw [List.getElem?_eq_getElem h]
theorem elV_at {l : List It} {i : Nat} (h : i < l.length) : elV l i = decide (¬ l[i].f1.toList = ([] : List UInt8)) := by
  unfold elV; rw [List.getElem?_eq_getElem h]
theorem el_yes {l : List It} {i : Nat} (h : i < l.length) : elV l i = true ↔ ¬ l[i].f1.toList = ([] : List UInt8) := by
  rw [elV_at h, decide_eq_true_eq]
theorem el_no {l : List It} {i : Nat} (h : i < l.length) : elV l i = false ↔ l[i].f1.toList = ([] : List UInt8) := by
  rw [elV_at h, decide_eq_false_iff_not, Classical.not_not]
/-- Item i stands where it may. -/
def PosP (l : List It) (i : Nat) : Prop := (i = 0 → upV l 0 = -1 ∧ elV l 0 = true) ∧ (0 < i → 0 ≤ upV l i ∧ elV l (upV l i).toNat = true ∧ (upV l i).toNat ∈ chain (upV l) (i - 1))
instance (l : List It) (i : Nat) : Decidable (PosP l i) := by unfold PosP; infer_instance
def posV (l : List It) (i : Nat) : Bool := decide (PosP l i)
def depV (l : List It) (i : Nat) : Bool := decide ((chain (upV l) i).length ≤ 20)
def textV (l : List It) (i : Nat) : Bool := elV l i || !(decide (0 < i) && !elV l (i - 1) && decide (upV l (i - 1) = upV l i))
def goodAt (l : List It) (i : Nat) : Bool := match l[i]? with | some x => goodV x | none => false
theorem good_at {l : List It} {i : Nat} (h : i < l.length) : goodAt l i = goodV l[i] := by
  unfold goodAt; rw [List.getElem?_eq_getElem h]
def stepV (l : List It) (i : Nat) : Bool := posV l i && (depV l i && (textV l i && goodAt l i))
def bytesD : List It → Int
  | [] => 0
  | x :: l => bytesV x + bytesD l
def smallD (l : List It) : Prop := ∀ x ∈ l, smallI x
theorem bytesV_bound {x : It} (h : smallI x) : 0 ≤ bytesV x ∧ bytesV x ≤ 4398046511104 := by
  obtain ⟨h1, h2, h3, h4⟩ := h
  have := bytesA_bound x.f3 h4
  unfold bytesV
  constructor <;> omega
theorem bytesD_pos : ∀ {l : List It}, smallD l → 0 ≤ bytesD l
  | [], _ => Int.le_refl _
  | x :: l, h => by
    have h1 := bytesV_bound (h x (by simp))
    have h2 := bytesD_pos (l := l) (fun y hy => h y (by simp [hy]))
    unfold bytesD
    omega
/-- A right document. -/
def docV (l : List It) : Bool := (decide (1 ≤ l.length) && decide (l.length ≤ 200)) && (allN (stepV l) 0 l.length && decide (bytesD l ≤ 2500))
theorem step_pos {l : List It} {i : Nat} (h : stepV l i = true) : PosP l i := by
  unfold stepV at h
  rw [Bool.and_eq_true] at h
  exact of_decide_eq_true h.1
theorem pos_val {l : List It} : ∀ {i : Nat}, (∀ j, j < i → PosP l j) → Val (upV l) (elV l) i := by
  intro i h
  refine ⟨fun h0 => (h 0 h0).1 rfl, fun j hj hji => ?_⟩
  obtain ⟨h1, h2, h3⟩ := (h j hji).2 hj
  have := chain_lt _ _ h3
  exact ⟨h1, by omega, h2⟩
theorem drop_all {α : Type} {p : α → Bool} : ∀ {s : List α}, (∀ x ∈ s, p x = true) → s.dropWhile p = []
  | [], _ => rfl
  | x :: s, h => by
    rw [List.dropWhile_cons_of_pos (h x (by simp))]
    exact drop_all (fun y hy => h y (by simp [hy]))
/-! the stack -/
def revI (s : List Nat) : List Int := (s.map Int.ofNat).reverse
theorem revI_cons (x : Nat) (s : List Nat) : revI (x :: s) = revI s ++ [(x : Int)] := by simp [revI]
theorem revI_len (s : List Nat) : (revI s).length = s.length := by simp [revI]
theorem revI_nil : revI [] = [] := rfl
def stkV (l : List It) (i : Nat) : List Nat := if i = 0 then [] else stk (upV l) (elV l) (i - 1)
theorem chain_len (up : Nat → Int) : ∀ j, (chain up j).length ≤ j + 1 := by
  intro j
  induction j using Nat.strongRecOn with
  | _ j ih =>
  rw [chain_eq]
  split
  · rename_i h
    have := ih _ h.2
    simp only [List.length_cons]
    omega
  · simp
theorem stkV_len (l : List It) (i : Nat) : (stkV l i).length ≤ i := by
  unfold stkV
  split
  · simp
  · unfold stk
    have := chain_len (upV l) (i - 1)
    split
    · omega
    · rw [List.length_tail]; omega
section
variable (l : List It) (hl : smallD l) (hn : l.length ≤ 200)
theorem impl_pop (c : Int) (i : Nat) (p : Int) (nm tx : ByteArray) (ats : List At) (R : Bool) : ∀ s : List Nat, s.length ≤ 200 → Ev (fun k => impl_DocOk.j3 k l c (revI (s.dropWhile (fun x : Nat => (x : Int) != p))) (i : Int) l (l.length : Int) (i : Int) p nm tx ats) R → Ev (fun k => impl_DocOk.l1 k l c (revI s) (i : Int) l (l.length : Int) (i : Int) p nm tx ats) R
  | [], _, h => by
    rw [List.dropWhile_nil, revI_nil] at h
    refine Ev.step (fun k => ?_) h
    conv => lhs; unfold impl_DocOk.l1
    rw [if_neg (by simp [revI])]
    rfl
  | x :: s, hs, h => by
    simp only [List.length_cons] at hs
    have e1 : ((revI (x :: s)).length : Int) = (s.length : Int) + 1 := by rw [revI_len]; simp
    have e2 : wrap64 ((s.length : Int) + 1 - 1) = (s.length : Int) := by rw [w64] <;> omega
    have e3 : rd (revI (x :: s)) (s.length : Int) = (x : Int) := by
      rw [rdZ _ _ (by rw [revI_len]; simp)]
      simp only [revI_cons]
      rw [List.getElem_append_right (by rw [revI_len]; exact Nat.le_refl _)]
      simp
    by_cases c1 : (x : Int) = p
    · rw [List.dropWhile_cons_of_neg (by simp [c1])] at h
      refine Ev.step (fun k => ?_) h
      conv => lhs; unfold impl_DocOk.l1
      rw [e1, e2, e3, if_pos (by omega), if_pos (by omega), if_pos (by omega), if_pos c1]
    · rw [List.dropWhile_cons_of_pos (by simp [c1])] at h
      refine Ev.step (fun k => ?_) (impl_pop c i p nm tx ats R s (by omega) h)
      conv => lhs; unfold impl_DocOk.l1
      rw [e1, e2, e3, if_pos (by omega), if_pos (by omega), if_pos (by omega), if_neg c1, if_pos (by omega)]
      rw [Int.toNat_natCast, revI_cons, List.take_left' (revI_len s)]
include hl hn
theorem impl_doc_l0 (hp0 : PosP l 0) : ∀ (n i : Nat) (c : Int), i + n = l.length → (∀ j, j < i → PosP l j) → 0 ≤ c → c ≤ 4398046511104 * i → Ev (fun k => impl_DocOk.l0 k l c (revI (stkV l i)) l (l.length : Int) (i : Int)) (allN (stepV l) i n && decide (c + bytesD (l.drop i) ≤ 2500)) := by
  intro n
  induction n with
  | zero =>
    intro i c hi hp h0 hc
    rw [List.drop_of_length_le (by omega), allN, Bool.true_and, bytesD, Int.add_zero]
    refine Ev.step (f := fun _ => some (decide (c ≤ 2500))) (fun k => ?_) (Ev.now _)
    conv => lhs; unfold impl_DocOk.l0
    rw [if_neg (by omega)]
  | succ n ih =>
    intro i c hi hp h0 hc
    have hlt : i < l.length := by omega
    have hx : smallI l[i] := hl _ (List.getElem_mem hlt)
    have hb := bytesV_bound hx
    rw [allN]
    refine Ev.step (f := fun k => (impl_Item_isGood.f k l[i].f0 l[i].f1 l[i].f2 l[i].f3).bind fun t349 => (if t349 = true then ((impl_Item_bytes.f k l[i].f0 l[i].f1 l[i].f2 l[i].f3).bind fun t350 => (impl_DocOk.l1 k l (wrap64 (c + t350)) (revI (stkV l i)) (i : Int) l (l.length : Int) (i : Int) l[i].f0 l[i].f1 l[i].f2 l[i].f3)) else (some false))) (fun k => ?_) (Ev.bind (impl_good l[i] hx) ?_)
    · conv => lhs; unfold impl_DocOk.l0
      rw [if_pos (by omega), if_pos (by omega), if_pos (by omega), rdIt l i hlt]
    have hg := good_at hlt
    cases hgv : goodV l[i] with
    | false =>
      have : stepV l i = false := by unfold stepV; rw [hg, hgv]; simp
      rw [this]
      exact Ev.now _
    | true =>
      rw [hgv] at hg
      simp only [if_true]
      refine Ev.bind (impl_bytes l[i] hx) ?_
      have ec : wrap64 (c + bytesV l[i]) = c + bytesV l[i] := by rw [w64] <;> omega
      simp only [ec]
      have hlen := stkV_len l i
      refine impl_pop l _ i _ _ _ _ _ (stkV l i) (by omega) ?_
      have V : Val (upV l) (elV l) i := pos_val hp
      have hup := upV_at hlt
      -- what is left
      have key : (PosP l i ∧ (stkV l i).dropWhile (fun x : Nat => (x : Int) != l[i].f0) = (if i = 0 then [] else chain (upV l) (upV l i).toNat)) ∨ (¬ PosP l i ∧ 0 < i ∧ (stkV l i).dropWhile (fun x : Nat => (x : Int) != l[i].f0) = []) := by
        by_cases e : i = 0
        · subst e
          exact .inl ⟨hp0, by simp [stkV]⟩
        · have es : stkV l i = stk (upV l) (elV l) (i - 1) := by unfold stkV; rw [if_neg e]
          rw [es, if_neg e]
          by_cases hneg : 0 ≤ l[i].f0
          · have ef : (fun x : Nat => (x : Int) != l[i].f0) = (fun x : Nat => x != (upV l i).toNat) := by
              funext x
              rw [Bool.eq_iff_iff, bne_iff_ne, bne_iff_ne, hup]
              omega
            rw [ef]
            by_cases hm : (upV l i).toNat ∈ stk (upV l) (elV l) (i - 1)
            · obtain ⟨h1, h2, h3⟩ := stk_drop V (show i - 1 < i by omega) hm
              exact .inl ⟨⟨fun h => absurd h e, fun _ => ⟨by rw [hup]; exact hneg, h2, h3⟩⟩, h1⟩
            · refine .inr ⟨fun h => hm ?_, by omega, drop_none hm⟩
              obtain ⟨_, h2, h3⟩ := h.2 (by omega)
              exact stk_mem (i := 0) h3 h2
          · refine .inr ⟨fun h => hneg ?_, by omega, ?_⟩
            · have := (h.2 (by omega)).1
              rwa [hup] at this
            · refine drop_all (fun x _ => ?_)
              rw [bne_iff_ne]
              omega
      rcases key with ⟨hP, hD⟩ | ⟨hP, h0i, hD⟩
      · rw [hD]
        have hpv : posV l i = true := decide_eq_true hP
        generalize hS : (if i = 0 then [] else chain (upV l) (upV l i).toNat) = S
        have hC : chain (upV l) i = i :: S := by
          rw [← hS]
          by_cases e : i = 0
          · subst e
            rw [if_pos rfl, chain_zero (hP.1 rfl).1]
          · obtain ⟨h1, h2, h3⟩ := hP.2 (by omega)
            have := chain_lt _ _ h3
            rw [if_neg e, chain_up h1 (by omega)]
        have hSl : S.length ≤ 200 := by
          have := chain_len (upV l) i
          rw [hC] at this
          simp only [List.length_cons] at this
          omega
        have hSn : 0 < i → 0 < S.length := by
          intro h
          rw [← hS, if_neg (by omega), chain_head]
          simp
        have hdep : depV l i = !decide (((revI S).length : Int) ≥ 20) := by
          unfold depV
          rw [hC, revI_len, Bool.eq_iff_iff]
          simp
          omega
        have hpop : ∀ b : Bool, Ev (fun k => impl_DocOk.j4 k l (c + bytesV l[i]) (revI S) (i : Int) l (l.length : Int) (i : Int) b l[i].f0 l[i].f1 l[i].f2 l[i].f3) ((!b && textV l i) && (allN (stepV l) (i + 1) n && decide (c + bytesD (l.drop i) ≤ 2500))) := by
          have hnext := ih (i + 1) (c + bytesV l[i]) (by omega) (fun j hj => by
            by_cases e : j = i
            · rw [e]; exact hP
            · exact hp j (by omega)) (by omega) (by omega)
          have hsum : c + bytesV l[i] + bytesD (l.drop (i + 1)) = c + bytesD (l.drop i) := by
            rw [List.drop_eq_getElem_cons hlt, bytesD]; omega
          rw [hsum] at hnext
          have hstk : stkV l (i + 1) = stk (upV l) (elV l) i := by
            unfold stkV
            rw [if_neg (by omega), Nat.add_sub_cancel]
          intro b
          cases b with
          | true =>
            refine Ev.step (f := fun _ => some false) (fun k => ?_) (Ev.now _)
            conv => lhs; unfold impl_DocOk.j4
            rw [if_pos rfl]
          | false =>
            cases he : elV l i with
            | true =>
              have ht : textV l i = true := by unfold textV; rw [he]; rfl
              have hq : stkV l (i + 1) = i :: S := by rw [hstk]; unfold stk; rw [if_pos he, hC]
              rw [ht]
              simp only [Bool.not_false, Bool.true_and]
              rw [hq] at hnext
              refine Ev.step (fun k => ?_) hnext
              conv => lhs; unfold impl_DocOk.j4
              rw [if_neg (by decide), if_neg ((el_yes hlt).1 he), if_pos (by rw [revI_len]; omega), w1n hlt (by omega), revI_cons]
            | false =>
              have hi0 : 0 < i := by
                rcases Nat.eq_zero_or_pos i with h | h
                · subst h
                  rw [(hP.1 rfl).2] at he
                  cases he
                · exact h
              have hq : stkV l (i + 1) = S := by rw [hstk]; unfold stk; rw [if_neg (by rw [he]; decide), hC, List.tail_cons]
              rw [hq] at hnext
              have ew : wrap64 ((i : Int) - 1) = ((i - 1 : Nat) : Int) := by rw [w64] <;> omega
              have hlt1 : i - 1 < l.length := by omega
              have hnm := (el_no hlt).1 he
              have ht : textV l i = !(!elV l (i - 1) && decide (upV l (i - 1) = upV l i)) := by
                unfold textV
                rw [he, decide_eq_true hi0]
                simp
              rw [ht]
              cases hpe : elV l (i - 1) with
              | true =>
                have h2 := (el_yes hlt1).1 hpe
                simp only [Bool.not_true, Bool.not_false, Bool.false_and, Bool.true_and]
                refine Ev.step (fun k => ?_) hnext
                conv => lhs; unfold impl_DocOk.j4
                rw [if_neg (by decide), if_pos hnm, if_pos (by omega), ew, if_pos (by omega), if_pos (by omega), rdIt l (i - 1) hlt1, if_neg h2, w1n hlt (by omega)]
              | false =>
                have h2 := (el_no hlt1).1 hpe
                by_cases hs : upV l (i - 1) = upV l i
                · rw [decide_eq_true hs]
                  rw [upV_at hlt1, hup] at hs
                  refine Ev.step (f := fun _ => some false) (fun k => ?_) (Ev.now _)
                  conv => lhs; unfold impl_DocOk.j4
                  rw [if_neg (by decide), if_pos hnm, if_pos (by omega), ew, if_pos (by omega), if_pos (by omega), rdIt l (i - 1) hlt1, if_pos h2, if_pos hs]
                · rw [decide_eq_false hs]
                  rw [upV_at hlt1, hup] at hs
                  simp only [Bool.not_true, Bool.not_false, Bool.and_false, Bool.true_and]
                  refine Ev.step (fun k => ?_) hnext
                  conv => lhs; unfold impl_DocOk.j4
                  rw [if_neg (by decide), if_pos hnm, if_pos (by omega), ew, if_pos (by omega), if_pos (by omega), rdIt l (i - 1) hlt1, if_pos h2, if_neg hs, w1n hlt (by omega)]
        have := hpop (decide (((revI S).length : Int) ≥ 20))
        rw [← hdep] at this
        have es : stepV l i = (depV l i && textV l i) := by
          unfold stepV
          rw [hpv, hg, Bool.true_and, Bool.and_true]
        rw [es, Bool.and_assoc]
        refine Ev.step (fun k => ?_) this
        conv => lhs; unfold impl_DocOk.j3
        by_cases h0i : 0 < i
        · have := hSn h0i
          rw [if_pos (by omega), if_neg (by rw [revI_len]; omega)]
        · rw [if_neg (by omega)]
      · rw [hD, revI_nil]
        have : stepV l i = false := by unfold stepV posV; rw [decide_eq_false hP]; rfl
        rw [this]
        refine Ev.step (f := fun k => impl_DocOk.j4 k l (c + bytesV l[i]) [] (i : Int) l (l.length : Int) (i : Int) true l[i].f0 l[i].f1 l[i].f2 l[i].f3) (fun k => ?_) ?_
        · conv => lhs; unfold impl_DocOk.j3
          rw [if_pos (by omega), if_pos (by simp)]
        · refine Ev.step (f := fun _ => some false) (fun k => ?_) (Ev.now _)
          conv => lhs; unfold impl_DocOk.j4
          rw [if_pos rfl]
end
theorem impl_doc (l : List It) (hl : smallD l) (hb : l.length ≤ 1048576) : Ev (fun k => impl_DocOk.f k l) (docV l) := by
  have hj : Ev (fun k => impl_DocOk.j0 k l true) false := by
    exact Ev.step (f := fun _ => some false) (fun k => rfl) (Ev.now _)
  unfold docV
  cases hc : (decide (1 ≤ l.length) && decide (l.length ≤ 200)) with
  | false =>
    refine Ev.congr (fun k => ?_) hj
    have : inZ (l.length : Int) 1 200 = false := by
      rw [← hc]
      unfold inZ
      rw [Bool.eq_iff_iff]
      simp
      omega
    unfold impl_DocOk.f
    rw [impl_in', Option.bind_some, this, if_neg (by decide)]
  | true =>
    rw [Bool.and_eq_true, decide_eq_true_eq, decide_eq_true_eq] at hc
    have h0 : 0 < l.length := by omega
    have hz : inZ (l.length : Int) 1 200 = true := by
      unfold inZ
      simp
      omega
    have es : ∀ k, impl_DocOk.f k l = if (rd_T65 l 0).f0 = (-1) then (impl_DocOk.j0 k l (((rd_T65 l 0).f1).toList == ([] : List UInt8))) else (impl_DocOk.j0 k l true) := by
      intro k
      unfold impl_DocOk.f
      rw [impl_in', Option.bind_some, hz, if_pos rfl, if_pos (by omega)]
    have er : rd_T65 l 0 = l[0] := rdIt l 0 h0
    simp only [Bool.true_and]
    by_cases hP : PosP l 0
    · obtain ⟨h1, h2⟩ := hP.1 rfl
      have hmain := impl_doc_l0 l hl hc.2 hP l.length 0 0 (by omega) (fun j hj => by omega) (by omega) (by omega)
      rw [List.drop_zero, Int.zero_add] at hmain
      rw [upV_at h0] at h1
      have h3 := (el_yes h0).1 h2
      refine Ev.congr (f := fun k => impl_DocOk.j0 k l false) (fun k => ?_) ?_
      · rw [es, er, if_pos h1]
        congr 1
        rw [beq_eq_false_iff_ne]
        exact h3
      · exact Ev.step (fun k => rfl) hmain
    · have : allN (stepV l) 0 l.length = false := by
        rw [Bool.eq_false_iff]
        intro h
        rw [allN_iff] at h
        exact hP (step_pos (h 0 (by omega) (by omega)))
      rw [this, Bool.false_and]
      refine Ev.congr (fun k => ?_) hj
      rw [es, er]
      split
      · rename_i h1
        congr 1
        rw [beq_iff_eq]
        by_cases h2 : l[0].f1.toList = ([] : List UInt8)
        · exact h2
        · exact absurd ⟨fun _ => ⟨by rw [upV_at h0]; exact h1, (el_yes h0).2 h2⟩, fun h => by omega⟩ hP
      · rfl
theorem spec_deep_l0 (l : List It) (hn : l.length ≤ 200) {m : Nat} (V : Val (upV l) (elV l) m) (hm : m ≤ l.length) : ∀ (j : Nat) (d : Int), j < m → 0 ≤ d → d ≤ 300 - j → Ev (fun k => spec_l2Deep.l0 k l (j : Int) d) (d + ((chain (upV l) j).length : Int) - 1) := by
  intro j
  induction j using Nat.strongRecOn with
  | _ j ih =>
  intro d hj h0 hd
  have hlt : j < l.length := by omega
  have hup := upV_at hlt
  by_cases e : j = 0
  · subst e
    have h1 := (V.1 hj).1
    rw [chain_zero h1]
    rw [hup] at h1
    refine Ev.step (f := fun _ => some d) (fun k => ?_) (by simp; exact Ev.now _)
    conv => lhs; unfold spec_l2Deep.l0
    rw [if_pos (by omega), if_pos (by omega), rdIt l 0 hlt, if_neg (by omega)]
  · obtain ⟨h1, h2, h3⟩ := V.2 j (by omega) hj
    rw [chain_up h1 h2, List.length_cons]
    have := ih (upV l j).toNat h2 (d + 1) (by omega) (by omega) (by omega)
    have e1 : wrap64 (d + 1) = d + 1 := by rw [w64] <;> omega
    have e2 : l[j].f0 = (((upV l j).toNat : Nat) : Int) := by rw [← hup]; omega
    rw [show d + (((chain (upV l) (upV l j).toNat).length + 1 : Nat) : Int) - 1 = d + 1 + ((chain (upV l) (upV l j).toNat).length : Int) - 1 by omega]
    refine Ev.step (fun k => ?_) this
    conv => lhs; unfold spec_l2Deep.l0
    rw [if_pos (by omega), if_pos (by omega), rdIt l j hlt, if_pos (by omega), e1, e2]
theorem spec_deep (l : List It) (hn : l.length ≤ 200) {m : Nat} (V : Val (upV l) (elV l) m) (hm : m ≤ l.length) (j : Nat) (hj : j < m) : Ev (fun k => spec_l2Deep.f k l (j : Int)) (((chain (upV l) j).length : Int) - 1) := by
  have := spec_deep_l0 l hn V hm j 0 hj (by omega) (by omega)
  rw [Int.zero_add] at this
  exact this
theorem spec_climb (l : List It) {m : Nat} (V : Val (upV l) (elV l) m) (hm : m ≤ l.length) (c : Int) (i p : Nat) (nm tx : ByteArray) (ats : List At) (R : Bool) : ∀ j, j < m → (p ∈ chain (upV l) j → Ev (fun k => spec_DocOk.j6 k l c (i : Int) (p : Int) nm tx ats) R) → Ev (fun k => spec_DocOk.l2 k l c (i : Int) (j : Int) (p : Int) nm tx ats) (decide (p ∈ chain (upV l) j) && R) := by
  intro j
  induction j using Nat.strongRecOn with
  | _ j ih =>
  intro hj hR
  have hlt : j < l.length := by omega
  have hup := upV_at hlt
  by_cases c1 : j = p
  · have hm : p ∈ chain (upV l) j := by rw [chain_eq, c1]; simp
    rw [decide_eq_true hm, Bool.true_and]
    refine Ev.step (fun k => ?_) (hR hm)
    conv => lhs; unfold spec_DocOk.l2
    rw [if_pos (by omega), if_pos (by omega), if_neg (by omega)]
  · by_cases e : j = 0
    · subst e
      have h1 := (V.1 hj).1
      rw [chain_zero h1]
      rw [hup] at h1
      rw [decide_eq_false (by simp; omega), Bool.false_and]
      refine Ev.step (f := fun k => spec_DocOk.l2 k l c (i : Int) (-1) (p : Int) nm tx ats) (fun k => ?_) (Ev.step (f := fun _ => some false) (fun k => ?_) (Ev.now _))
      · conv => lhs; unfold spec_DocOk.l2
        rw [if_pos (by omega), if_neg (by omega), if_pos (by omega), if_pos (by omega), rdIt l 0 hlt, h1]
      · conv => lhs; unfold spec_DocOk.l2
        rw [if_neg (by omega), if_pos (by omega)]
    · obtain ⟨h1, h2, h3⟩ := V.2 j (by omega) hj
      have e2 : l[j].f0 = (((upV l j).toNat : Nat) : Int) := by rw [← hup]; omega
      have e3 : (p ∈ chain (upV l) j) ↔ (p ∈ chain (upV l) (upV l j).toNat) := by
        rw [chain_up h1 h2, List.mem_cons]
        exact ⟨fun h => h.resolve_left (fun h => c1 h.symm), .inr⟩
      have := ih (upV l j).toNat h2 (by omega) (fun h => hR (e3.2 h))
      rw [decide_eq_decide.2 e3]
      refine Ev.step (fun k => ?_) this
      conv => lhs; unfold spec_DocOk.l2
      rw [if_pos (by omega), if_neg (by omega), if_pos (by omega), if_pos (by omega), rdIt l j hlt, e2]
/-- The bytes that are counted ahead of the rest. -/
def bytesP (x : It) : Int := (x.f1.size : Int) + x.f2.size + bytesA (x.f3.take 20)
theorem bytesP_bound {x : It} (h : smallI x) : 0 ≤ bytesP x ∧ bytesP x ≤ bytesV x := by
  obtain ⟨h1, h2, h3, h4⟩ := h
  have h5 : ∀ (l : List At) (n : Nat), (∀ a ∈ l, smallA a) → bytesA (l.take n) ≤ bytesA l := by
    intro l
    induction l with
    | nil => intro n _; simp
    | cons a l ih =>
      intro n h
      have hb := bytesA_bound l (fun b hb => h b (by simp [hb]))
      cases n with
      | zero => simp only [List.take_zero, bytesA]; omega
      | succ n =>
        have := ih n (fun b hb => h b (by simp [hb]))
        simp only [List.take_succ_cons, bytesA]
        omega
  have h6 := h5 x.f3 20 h4
  have h7 := bytesA_bound (x.f3.take 20) (fun a ha => h4 a (List.mem_of_mem_take ha))
  unfold bytesP bytesV
  constructor <;> omega
theorem spec_sum (l : List It) (i : Nat) (p : Int) (nm tx : ByteArray) (ats : List At) (h : smallAs ats) (R : Bool) (T : Int) (hR : Ev (fun k => spec_DocOk.j3 k l T (i : Int) p nm tx ats) R) : ∀ (n j : Nat) (c : Int), j + n = (ats.take 20).length → 0 ≤ c → c ≤ 1152921504606846976 + 2097152 * j → c + bytesA ((ats.take 20).drop j) = T → Ev (fun k => spec_DocOk.l1 k l c (i : Int) (j : Int) p nm tx ats) R := by
  have hlen : (ats.take 20).length = min 20 ats.length := List.length_take
  intro n
  induction n with
  | zero =>
    intro j c hj h0 hc hT
    rw [List.drop_of_length_le (by omega), bytesA, Int.add_zero] at hT
    rw [← hT] at hR
    refine Ev.step (fun k => ?_) hR
    conv => lhs; unfold spec_DocOk.l1
    by_cases c1 : j < ats.length
    · rw [if_pos (by omega), if_neg (by omega)]
    · rw [if_neg (by omega)]
  | succ n ih =>
    intro j c hj h0 hc hT
    have hlt : j < (ats.take 20).length := by omega
    have hlt2 : j < ats.length := by omega
    rw [List.drop_eq_getElem_cons hlt, bytesA, List.getElem_take] at hT
    have hs := sm ats h j hlt2
    have e1 : wrap64 (c + (ats[j].f0.size : Int)) = c + (ats[j].f0.size : Int) := by rw [w64] <;> omega
    have e2 : wrap64 (c + (ats[j].f0.size : Int) + (ats[j].f1.size : Int)) = c + (ats[j].f0.size : Int) + (ats[j].f1.size : Int) := by rw [w64] <;> omega
    have := ih (j + 1) (c + (ats[j].f0.size : Int) + (ats[j].f1.size : Int)) (by omega) (by omega) (by omega) (by omega)
    refine Ev.step (fun k => ?_) this
    conv => lhs; unfold spec_DocOk.l1
    rw [if_pos (by omega), if_pos (by omega), if_pos (by omega), rdAt ats j hlt2, e1, e2, w1n hlt2 (by have := h.1; omega)]
section
variable (l : List It) (hl : smallD l) (hn : l.length ≤ 200)
include hl hn
theorem spec_content (i : Nat) (hlt : i < l.length) (c : Int) (R : Bool) (hp : ∀ j, j < i + 1 → PosP l j) (hR : Ev (fun k => spec_DocOk.l0 k l c ((i + 1 : Nat) : Int)) R) : Ev (fun k => spec_DocOk.j6 k l c (i : Int) l[i].f0 l[i].f1 l[i].f2 l[i].f3) (depV l i && (textV l i && goodAt l i) && R) := by
  have V : Val (upV l) (elV l) (i + 1) := pos_val hp
  have hx : smallI l[i] := hl _ (List.getElem_mem hlt)
  obtain ⟨hx1, hx2, hx3⟩ := hx
  have hup := upV_at hlt
  have hd := spec_deep l hn V (by omega) i (by omega)
  refine Ev.step (f := fun k => (spec_l2Deep.f k l (i : Int)).bind fun t153 => (if t153 ≥ 20 then (some false) else (if l[i].f1.toList = ([] : List UInt8) then (if l[i].f2.toList = ([] : List UInt8) then (spec_DocOk.j7 k l c (i : Int) true l[i].f0 l[i].f1 l[i].f2 l[i].f3) else (if (l[i].f3.length : Int) > 0 then (spec_DocOk.j7 k l c (i : Int) true l[i].f0 l[i].f1 l[i].f2 l[i].f3) else ((spec_l1Text.f k l[i].f2).bind fun t154 => (spec_DocOk.j7 k l c (i : Int) (!t154) l[i].f0 l[i].f1 l[i].f2 l[i].f3)))) else (if l[i].f2.toList = ([] : List UInt8) then ((spec_l1Qual.f k l[i].f1).bind fun t157 => (if t157 = true then ((spec_l2Attrs.f k l[i].f3).bind fun t158 => (if t158 = true then (spec_DocOk.l0 k l c (wrap64 ((i : Int) + 1))) else (some false))) else (some false))) else (some false))))) (fun k => ?_) (Ev.bind hd ?_)
  · conv => lhs; unfold spec_DocOk.j6
  · by_cases c1 : (chain (upV l) i).length ≤ 20
    · have : depV l i = true := decide_eq_true c1
      rw [this, Bool.true_and]
      rw [good_at hlt]
      unfold goodV
      cases he : elV l i with
      | true =>
        have hnm := (el_yes hlt).1 he
        have ht : textV l i = true := by unfold textV; rw [he]; rfl
        rw [ht, Bool.true_and, if_neg hnm]
        refine Ev.congr (f := fun k => (if l[i].f2.toList = ([] : List UInt8) then ((spec_l1Qual.f k l[i].f1).bind fun t157 => (if t157 = true then ((spec_l2Attrs.f k l[i].f3).bind fun t158 => (if t158 = true then (spec_DocOk.l0 k l c ((i + 1 : Nat) : Int)) else (some false))) else (some false))) else (some false))) (fun k => ?_) ?_
        · rw [if_neg (by omega), if_neg hnm, w1n hlt (by omega)]
        · by_cases c2 : l[i].f2.toList = ([] : List UInt8)
          · simp only [if_pos c2]
            refine Ev.bind (spec_qual l[i].f1 (size_len hx1)) ?_
            cases qualV l[i].f1 with
            | false => exact Ev.now _
            | true =>
              simp only [if_true, Bool.true_and]
              refine Ev.bind (spec_attrs l[i].f3 hx3) ?_
              cases attrsV l[i].f3 with
              | false => exact Ev.now _
              | true => exact hR
          · simp only [if_neg c2, Bool.and_false, Bool.false_and]
            exact Ev.now _
      | false =>
        have hnm := (el_no hlt).1 he
        rw [if_pos hnm]
        have hi0 : 0 < i := by
          rcases Nat.eq_zero_or_pos i with h | h
          · subst h
            rw [((hp 0 (by omega)).1 rfl).2] at he
            cases he
          · exact h
        have ht : textV l i = !(!elV l (i - 1) && decide (upV l (i - 1) = upV l i)) := by
          unfold textV
          rw [he, decide_eq_true hi0]
          simp
        have ew : wrap64 ((i : Int) - 1) = ((i - 1 : Nat) : Int) := by rw [w64] <;> omega
        have hlt1 : i - 1 < l.length := by omega
        have tail : ∀ b : Bool, Ev (fun k => spec_DocOk.j7 k l c (i : Int) b l[i].f0 l[i].f1 l[i].f2 l[i].f3) (textV l i && !b && R) := by
          intro b
          cases b with
          | true =>
            rw [Bool.not_true, Bool.and_false]
            refine Ev.step (f := fun _ => some false) (fun k => ?_) (Ev.now _)
            conv => lhs; unfold spec_DocOk.j7
            rw [if_pos rfl]
          | false =>
            rw [ht, Bool.not_false, Bool.and_true]
            cases hpe : elV l (i - 1) with
            | true =>
              have h2 := (el_yes hlt1).1 hpe
              simp only [Bool.not_true, Bool.not_false, Bool.false_and, Bool.true_and]
              refine Ev.step (fun k => ?_) hR
              conv => lhs; unfold spec_DocOk.j7
              rw [if_neg (by decide), ew, if_pos (by omega), if_pos (by omega), rdIt l (i - 1) hlt1, if_neg h2, w1n hlt (by omega)]
            | false =>
              have h2 := (el_no hlt1).1 hpe
              by_cases hs : upV l (i - 1) = upV l i
              · rw [decide_eq_true hs]
                rw [upV_at hlt1, hup] at hs
                refine Ev.step (f := fun _ => some false) (fun k => ?_) (Ev.now _)
                conv => lhs; unfold spec_DocOk.j7
                rw [if_neg (by decide), ew, if_pos (by omega), if_pos (by omega), rdIt l (i - 1) hlt1, if_pos h2, if_pos hs]
              · rw [decide_eq_false hs]
                rw [upV_at hlt1, hup] at hs
                simp only [Bool.not_true, Bool.not_false, Bool.and_false, Bool.true_and]
                refine Ev.step (fun k => ?_) hR
                conv => lhs; unfold spec_DocOk.j7
                rw [if_neg (by decide), ew, if_pos (by omega), if_pos (by omega), rdIt l (i - 1) hlt1, if_pos h2, if_neg hs, w1n hlt (by omega)]
        by_cases c2 : l[i].f2.toList = ([] : List UInt8)
        · rw [if_pos c2]
          refine Ev.congr (fun k => ?_) (tail true)
          rw [if_neg (by omega), if_pos hnm, if_pos c2]
        · rw [if_neg c2]
          by_cases c3 : l[i].f3.length = 0
          · rw [decide_eq_true c3, Bool.and_true]
            refine Ev.congr (f := fun k => (spec_l1Text.f k l[i].f2).bind fun t154 => (spec_DocOk.j7 k l c (i : Int) (!t154) l[i].f0 l[i].f1 l[i].f2 l[i].f3)) (fun k => ?_) ?_
            · rw [if_neg (by omega), if_pos hnm, if_neg c2, if_neg (by omega)]
            · refine Ev.bind (spec_text l[i].f2 (by omega)) ?_
              have := tail (!plainV l[i].f2)
              rw [Bool.not_not] at this
              exact this
          · rw [decide_eq_false c3, Bool.and_false]
            refine Ev.congr (fun k => ?_) (tail true)
            rw [if_neg (by omega), if_pos hnm, if_neg c2, if_pos (by omega)]
    · have : depV l i = false := decide_eq_false c1
      rw [this]
      refine Ev.congr (f := fun _ => some false) (fun k => ?_) (Ev.now _)
      rw [if_pos (by omega)]
end
theorem good_few {x : It} (h : goodV x = true) : x.f3.length ≤ 20 := by
  unfold goodV attrsV at h
  split at h
  · split at h
    · cases h
    · rw [Bool.and_eq_true, decide_eq_true_eq] at h
      omega
  · rw [Bool.and_eq_true] at h
    have h := h.2
    split at h
    · rw [Bool.and_eq_true, decide_eq_true_eq] at h
      omega
    · cases h
theorem spec_doc_l0 (l : List It) (hl : smallD l) (hn : l.length ≤ 200) : ∀ (n i : Nat) (c : Int), i + n = l.length → (∀ j, j < i → PosP l j) → 0 ≤ c → c ≤ 2500 → Ev (fun k => spec_DocOk.l0 k l c (i : Int)) (allN (stepV l) i n && decide (c + bytesD (l.drop i) ≤ 2500)) := by
  intro n
  induction n with
  | zero =>
    intro i c hi hp h0 hc
    rw [List.drop_of_length_le (by omega), allN, Bool.true_and, bytesD, Int.add_zero, decide_eq_true hc]
    refine Ev.step (f := fun _ => some true) (fun k => ?_) (Ev.now _)
    conv => lhs; unfold spec_DocOk.l0
    rw [if_neg (by omega)]
  | succ n ih =>
    intro i c hi hp h0 hc
    have hlt : i < l.length := by omega
    have hx : smallI l[i] := hl _ (List.getElem_mem hlt)
    have hb := bytesP_bound hx
    have hV := bytesV_bound hx
    have hdrop : bytesD (l.drop i) = bytesV l[i] + bytesD (l.drop (i + 1)) := by rw [List.drop_eq_getElem_cons hlt, bytesD]
    have hrest : 0 ≤ bytesD (l.drop (i + 1)) := bytesD_pos (fun x hx => hl x (List.mem_of_mem_drop hx))
    obtain ⟨hx1, hx2, hx3⟩ := hx
    have hup := upV_at hlt
    have e1 : wrap64 (c + (l[i].f1.size : Int)) = c + (l[i].f1.size : Int) := by rw [w64] <;> omega
    have e2 : wrap64 (c + (l[i].f1.size : Int) + (l[i].f2.size : Int)) = c + (l[i].f1.size : Int) + (l[i].f2.size : Int) := by rw [w64] <;> omega
    have main : Ev (fun k => spec_DocOk.j3 k l (c + bytesP l[i]) (i : Int) l[i].f0 l[i].f1 l[i].f2 l[i].f3) (allN (stepV l) i (n + 1) && decide (c + bytesD (l.drop i) ≤ 2500)) := by
      rw [allN]
      by_cases cb : c + bytesP l[i] > 2500
      · rw [decide_eq_false (show ¬ c + bytesD (l.drop i) ≤ 2500 by omega), Bool.and_false]
        refine Ev.step (f := fun _ => some false) (fun k => ?_) (Ev.now _)
        conv => lhs; unfold spec_DocOk.j3
        rw [if_pos cb]
      · by_cases hP : PosP l i
        · have hpi : ∀ j, j < i + 1 → PosP l j := fun j hj => by
            by_cases e : j = i
            · rw [e]; exact hP
            · exact hp j (by omega)
          have hc2 := spec_content l hl hn i hlt (c + bytesP l[i]) _ hpi (ih (i + 1) (c + bytesP l[i]) (by omega) hpi (by omega) (by omega))
          have hval : ((depV l i && (textV l i && goodAt l i)) && (allN (stepV l) (i + 1) n && decide (c + bytesP l[i] + bytesD (l.drop (i + 1)) ≤ 2500))) = ((stepV l i && allN (stepV l) (i + 1) n) && decide (c + bytesD (l.drop i) ≤ 2500)) := by
            have e : stepV l i = (depV l i && (textV l i && goodAt l i)) := by
              unfold stepV posV
              rw [decide_eq_true hP, Bool.true_and]
            rw [e]
            cases hg : goodAt l i with
            | false => simp
            | true =>
              rw [good_at hlt] at hg
              have hf := good_few hg
              have : bytesP l[i] = bytesV l[i] := by
                unfold bytesP bytesV
                rw [List.take_of_length_le hf]
              rw [this, show c + bytesV l[i] + bytesD (l.drop (i + 1)) = c + bytesD (l.drop i) by omega]
              simp only [Bool.and_assoc]
          rw [hval] at hc2
          by_cases h0i : i = 0
          · have hz := hP.1 h0i
            rw [← h0i] at hz
            have h1 := hz.1
            rw [hup] at h1
            have h2 := (el_yes hlt).1 hz.2
            refine Ev.step2' (fun k => ?_) hc2
            conv => lhs; unfold spec_DocOk.j3
            rw [if_neg cb, if_pos (by omega), if_pos h1, if_neg h2]
            conv => lhs; unfold spec_DocOk.j4
            rw [if_neg (by omega)]
          · obtain ⟨h1, h2, h3⟩ := hP.2 (by omega)
            have h4 := chain_lt _ _ h3
            have V : Val (upV l) (elV l) i := pos_val hp
            have ew : wrap64 ((i : Int) - 1) = ((i - 1 : Nat) : Int) := by rw [w64] <;> omega
            have ep : l[i].f0 = (((upV l i).toNat : Nat) : Int) := by rw [← hup]; omega
            have hin : inZ l[i].f0 0 ((i - 1 : Nat) : Int) = true := by
              unfold inZ
              simp
              omega
            have hlp : (upV l i).toNat < l.length := by omega
            have hq := spec_climb l V (by omega) (c + bytesP l[i]) i (upV l i).toNat l[i].f1 l[i].f2 l[i].f3 _ (i - 1) (by omega) (fun _ => by rw [← ep]; exact hc2)
            rw [decide_eq_true h3, Bool.true_and] at hq
            refine Ev.step2' (fun k => ?_) hq
            conv => lhs; unfold spec_DocOk.j3
            rw [if_neg cb, if_neg (by omega), ew, spec_in', Option.bind_some, hin, if_pos rfl, if_pos (by omega), if_pos (by omega), ep, rdIt l _ hlp, if_neg ((el_yes hlp).1 h2)]
            conv => lhs; unfold spec_DocOk.j4
            rw [if_pos (by omega), ew]
        · have e : stepV l i = false := by unfold stepV posV; rw [decide_eq_false hP]; rfl
          rw [e]
          by_cases h0i : i = 0
          · refine Ev.step (f := fun _ => some false) (fun k => ?_) (Ev.now _)
            conv => lhs; unfold spec_DocOk.j3
            rw [if_neg cb, if_pos (by omega)]
            by_cases h1 : l[i].f0 = -1
            · rw [if_pos h1]
              by_cases h2 : l[i].f1.toList = ([] : List UInt8)
              · rw [if_pos h2]
              · refine absurd ⟨fun _ => ?_, fun h => by omega⟩ hP
                subst h0i
                exact ⟨by rw [hup]; exact h1, (el_yes hlt).2 h2⟩
            · rw [if_neg h1]
          · have V : Val (upV l) (elV l) i := pos_val hp
            have ew : wrap64 ((i : Int) - 1) = ((i - 1 : Nat) : Int) := by rw [w64] <;> omega
            by_cases hin : inZ l[i].f0 0 ((i - 1 : Nat) : Int) = true
            · have hin2 := hin
              unfold inZ at hin2
              simp at hin2
              have ep : l[i].f0 = (((upV l i).toNat : Nat) : Int) := by rw [← hup] at hin2 ⊢; omega
              have hlp : (upV l i).toNat < l.length := by rw [← hup] at hin2; omega
              cases he : elV l (upV l i).toNat with
              | false =>
                refine Ev.step (f := fun _ => some false) (fun k => ?_) (Ev.now _)
                conv => lhs; unfold spec_DocOk.j3
                rw [if_neg cb, if_neg (by omega), ew, spec_in', Option.bind_some, hin, if_pos rfl, if_pos (by omega), if_pos (by omega), ep, rdIt l _ hlp, if_pos ((el_no hlp).1 he)]
              | true =>
                have hnc : ¬ (upV l i).toNat ∈ chain (upV l) (i - 1) := fun h => hP ⟨fun h => absurd h h0i, fun _ => ⟨by rw [hup]; omega, he, h⟩⟩
                have hq := spec_climb l V (by omega) (c + bytesP l[i]) i (upV l i).toNat l[i].f1 l[i].f2 l[i].f3 true (i - 1) (by omega) (fun h => absurd h hnc)
                rw [decide_eq_false hnc, Bool.false_and] at hq
                refine Ev.step2' (fun k => ?_) hq
                conv => lhs; unfold spec_DocOk.j3
                rw [if_neg cb, if_neg (by omega), ew, spec_in', Option.bind_some, hin, if_pos rfl, if_pos (by omega), if_pos (by omega), ep, rdIt l _ hlp, if_neg ((el_yes hlp).1 he)]
                conv => lhs; unfold spec_DocOk.j4
                rw [if_pos (by omega), ew]
            · refine Ev.step (f := fun _ => some false) (fun k => ?_) (Ev.now _)
              conv => lhs; unfold spec_DocOk.j3
              rw [if_neg cb, if_neg (by omega), ew, spec_in', Option.bind_some, if_neg hin]
    have hs := spec_sum l i l[i].f0 l[i].f1 l[i].f2 l[i].f3 hx3 _ (c + bytesP l[i]) main (l[i].f3.take 20).length 0 (c + (l[i].f1.size : Int) + (l[i].f2.size : Int)) (by omega) (by omega) (by omega) (by rw [List.drop_zero]; unfold bytesP; omega)
    refine Ev.step (fun k => ?_) hs
    conv => lhs; unfold spec_DocOk.l0
    rw [if_pos (by omega), if_pos (by omega), rdIt l i hlt, e1, e2]
    rfl
theorem spec_doc (l : List It) (hl : smallD l) (hb : l.length ≤ 1048576) : Ev (fun k => spec_DocOk.f k l) (docV l) := by
  have hj : Ev (fun k => spec_DocOk.j0 k l true) false := Ev.step (f := fun _ => some false) (fun k => rfl) (Ev.now _)
  unfold docV
  by_cases c1 : 1 ≤ l.length
  · by_cases c2 : l.length ≤ 200
    · rw [decide_eq_true c1, decide_eq_true c2]
      have := spec_doc_l0 l hl c2 l.length 0 0 (by omega) (fun j hj => by omega) (by omega) (by omega)
      rw [List.drop_zero, Int.zero_add] at this
      refine Ev.congr (f := fun k => spec_DocOk.j0 k l false) (fun k => ?_) (Ev.step (fun k => rfl) this)
      unfold spec_DocOk.f
      rw [if_neg (by omega), decide_eq_false (by omega)]
    · rw [decide_eq_false c2, Bool.and_false, Bool.false_and]
      refine Ev.congr (fun k => ?_) hj
      unfold spec_DocOk.f
      rw [if_neg (by omega), decide_eq_true (by omega)]
  · rw [decide_eq_false c1]
    refine Ev.congr (fun k => ?_) hj
    unfold spec_DocOk.f
    rw [if_pos (by omega)]
end Go.Proofs.YtpmjpbaeecnpiaaGreatDoor.Pure

namespace Go.Proofs.YtpmjpbaeecnpiaaGreatDoor.Pure
set_option linter.unusedVariables false
set_option linter.unusedSimpArgs false

namespace MT
def Ris (l : List Int) : Prop := l.Pairwise (· < ·)
theorem up_ext : ∀ {a b : List Int}, Ris a → Ris b → (∀ x, x ∈ a ↔ x ∈ b) → a = b
  | [], [], _, _, _ => rfl
  | [], y :: b, _, _, h => absurd ((h y).2 (by simp)) (by simp)
  | x :: a, [], _, _, h => absurd ((h x).1 (by simp)) (by simp)
  | x :: a, y :: b, ha, hb, h => by
    unfold Ris at ha hb
    rw [List.pairwise_cons] at ha hb
    have e : x = y := by
      rcases List.mem_cons.1 ((h x).1 (by simp)) with h1 | h1
      · exact h1
      · rcases List.mem_cons.1 ((h y).2 (by simp)) with h2 | h2
        · exact h2.symm
        · have := hb.1 x h1
          have := ha.1 y h2
          omega
    subst e
    rw [up_ext ha.2 hb.2 (fun z => ?_)]
    constructor
    · intro hz
      rcases List.mem_cons.1 ((h z).1 (by simp [hz])) with h1 | h1
      · have := ha.1 z hz
        omega
      · exact h1
    · intro hz
      rcases List.mem_cons.1 ((h z).2 (by simp [hz])) with h1 | h1
      · have := hb.1 z hz
        omega
      · exact h1
/-- Put in at its place, once. -/
def put1 (x : Int) : List Int → List Int
  | [] => [x]
  | y :: l => if y < x then y :: put1 x l else if y = x then y :: l else x :: y :: l
def srt (l : List Int) : List Int := l.foldl (fun a x => put1 x a) []
theorem mem_put1 {x z : Int} : ∀ {l : List Int}, z ∈ put1 x l ↔ z = x ∨ z ∈ l
  | [] => by simp [put1]
  | y :: l => by
    unfold put1
    split
    · rw [List.mem_cons, mem_put1, List.mem_cons]
      constructor
      · rintro (h | h | h)
        · exact .inr (.inl h)
        · exact .inl h
        · exact .inr (.inr h)
      · rintro (h | h | h)
        · exact .inr (.inl h)
        · exact .inl h
        · exact .inr (.inr h)
    · split
      · rename_i e
        subst e
        simp
      · simp
theorem up_put1 {x : Int} : ∀ {l : List Int}, Ris l → Ris (put1 x l)
  | [], _ => by simp [put1, Ris]
  | y :: l, h => by
    unfold Ris at h
    rw [List.pairwise_cons] at h
    unfold put1
    split
    · rename_i c
      refine List.pairwise_cons.2 ⟨fun z hz => ?_, up_put1 h.2⟩
      rcases mem_put1.1 hz with rfl | hz
      · exact c
      · exact h.1 z hz
    · split
      · exact List.pairwise_cons.2 h
      · refine List.pairwise_cons.2 ⟨fun z hz => ?_, List.pairwise_cons.2 h⟩
        rcases List.mem_cons.1 hz with rfl | hz
        · omega
        · have := h.1 z hz
          omega
theorem srt_from : ∀ (l a : List Int), Ris a → Ris (l.foldl (fun a x => put1 x a) a) ∧ ∀ z, z ∈ l.foldl (fun a x => put1 x a) a ↔ z ∈ a ∨ z ∈ l
  | [], a, h => ⟨h, by simp⟩
  | x :: l, a, h => by
    obtain ⟨h1, h2⟩ := srt_from l (put1 x a) (up_put1 h)
    refine ⟨h1, fun z => ?_⟩
    rw [List.foldl_cons, h2, mem_put1, List.mem_cons]
    constructor
    · rintro ((h | h) | h)
      · exact .inr (.inl h)
      · exact .inl h
      · exact .inr (.inr h)
    · rintro (h | h | h)
      · exact .inl (.inr h)
      · exact .inl (.inl h)
      · exact .inr h
theorem up_srt (l : List Int) : Ris (srt l) := (srt_from l [] .nil).1
theorem mem_srt {l : List Int} {z : Int} : z ∈ srt l ↔ z ∈ l := by
  rw [srt, (srt_from l [] .nil).2]
  simp
theorem srt_of {a l : List Int} (h : Ris a) (hm : ∀ z, z ∈ a ↔ z ∈ l) : a = srt l := up_ext h (up_srt l) (fun z => by rw [hm, mem_srt])
end MT
end Go.Proofs.YtpmjpbaeecnpiaaGreatDoor.Pure

namespace Go.Proofs.YtpmjpbaeecnpiaaGreatDoor.Pure
open Go.RowKit Go.Proofs.YtpmjpbaeecnpiaaGreatDoor.L Go.Proofs.YtpmjpbaeecnpiaaGreatDoorW.PrintWords Go.Proofs.YtpmjpbaeecnpiaaGreatDoorW.PrintLast Go.Proofs.YtpmjpbaeecnpiaaGreatDoorW.PrintMore
open MT
set_option linter.unusedVariables false
set_option linter.unusedSimpArgs false

theorem put1_len (x : Int) : ∀ l : List Int, (put1 x l).length ≤ l.length + 1
  | [] => by simp [put1]
  | y :: l => by
    have := put1_len x l
    unfold put1
    split
    · simp only [List.length_cons]; omega
    · split
      · simp only [List.length_cons]; omega
      · simp only [List.length_cons]; omega
theorem spec_put (xs : List Int) (i : Nat) (hi : i < xs.length) (hx : xs.length ≤ 1048576) (acc : List Int) (ha : acc.length ≤ i) (R : List Int) (hR : Ev (fun k => spec_l8Sorted.l0 k xs (put1 xs[i] acc) ((i + 1 : Nat) : Int)) R) : ∀ (n j : Nat), j + n = acc.length → put1 xs[i] acc = acc.take j ++ put1 xs[i] (acc.drop j) → Ev (fun k => spec_l8Sorted.l1 k xs acc (i : Int) (j : Int)) R := by
  intro n
  induction n with
  | zero =>
    intro j hj hput
    rw [List.drop_of_length_le (by omega), List.take_of_length_le (by omega)] at hput
    simp only [put1] at hput
    rw [hput] at hR
    refine Ev.step (fun k => ?_) hR
    conv => lhs; unfold spec_l8Sorted.l1
    rw [if_neg (by omega)]
    simp only [Option.bind_some, List.nil_append, List.length_nil]
    rw [if_pos (by omega), if_pos (by omega), Int.toNat_natCast, List.take_of_length_le (by omega), if_pos (by omega), if_pos (by omega), if_pos (by omega), if_pos (by omega), List.drop_of_length_le (by omega), if_pos (by simp; omega), List.append_nil, rdZ xs i hi, w1n hi (by omega)]
  | succ n ih =>
    intro j hj hput
    have hlt : j < acc.length := by omega
    have hd : acc.drop j = acc[j] :: acc.drop (j + 1) := List.drop_eq_getElem_cons hlt
    by_cases c1 : acc[j] < xs[i]
    · have := ih (j + 1) (by omega) (by
        rw [hput, hd]
        conv => lhs; unfold put1
        rw [if_pos c1, ← List.take_append_getElem hlt, List.append_assoc]
        rfl)
      refine Ev.step (fun k => ?_) this
      conv => lhs; unfold spec_l8Sorted.l1
      rw [if_pos (by omega), if_pos (by omega), if_pos (by omega), if_pos (by omega), rdZ xs i hi, rdZ acc j hlt, if_pos c1, w1n hlt (by omega)]
    · by_cases c2 : acc[j] = xs[i]
      · have e : put1 xs[i] acc = acc := by
          rw [hput, hd]
          unfold put1
          rw [if_neg c1, if_pos c2, ← hd, List.take_append_drop]
        rw [e] at hR
        refine Ev.step (fun k => ?_) hR
        conv => lhs; unfold spec_l8Sorted.l1
        rw [if_pos (by omega), if_pos (by omega), if_pos (by omega), if_pos (by omega), rdZ xs i hi, rdZ acc j hlt, if_neg c1, if_pos c2, w1n hi (by omega)]
      · have e : put1 xs[i] acc = acc.take j ++ [xs[i]] ++ acc.drop j := by
          rw [hput, hd]
          unfold put1
          rw [if_neg c1, if_neg c2]
          simp
        rw [e] at hR
        refine Ev.step (fun k => ?_) hR
        conv => lhs; unfold spec_l8Sorted.l1
        rw [if_pos (by omega), if_pos (by omega), if_pos (by omega), if_pos (by omega), rdZ xs i hi, rdZ acc j hlt, if_neg c1, if_neg c2]
        simp only [Option.bind_some, List.nil_append, List.length_nil, Int.toNat_natCast]
        rw [if_pos (by omega), if_pos (by rw [List.length_take]; omega), if_pos (by rw [List.length_take]; omega), if_pos (by simp only [List.length_append, List.length_take, List.length_drop, List.length_singleton]; omega), w1n hi (by omega)]
theorem spec_sorted_l0 (xs : List Int) (hx : xs.length ≤ 1048576) : ∀ (n i : Nat) (acc : List Int), i + n = xs.length → acc.length ≤ i → Ev (fun k => spec_l8Sorted.l0 k xs acc (i : Int)) ((xs.drop i).foldl (fun a x => put1 x a) acc) := by
  intro n
  induction n with
  | zero =>
    intro i acc hi ha
    rw [List.drop_of_length_le (by omega), List.foldl_nil]
    refine Ev.step (f := fun _ => some acc) (fun k => ?_) (Ev.now _)
    conv => lhs; unfold spec_l8Sorted.l0
    rw [if_neg (by omega)]
  | succ n ih =>
    intro i acc hi ha
    have hlt : i < xs.length := by omega
    rw [List.drop_eq_getElem_cons hlt, List.foldl_cons]
    have h1 := put1_len xs[i] acc
    have := spec_put xs i hlt hx acc ha _ (ih (i + 1) _ (by omega) (by omega)) acc.length 0 (by omega) (by simp)
    refine Ev.step (fun k => ?_) this
    conv => lhs; unfold spec_l8Sorted.l0
    rw [if_pos (by omega)]
    rfl
theorem spec_sorted (xs : List Int) (hx : xs.length ≤ 1048576) : Ev (fun k => spec_l8Sorted.f k xs) (srt xs) := by
  have := spec_sorted_l0 xs hx xs.length 0 [] (by omega) (by simp)
  rw [List.drop_zero] at this
  exact this
end Go.Proofs.YtpmjpbaeecnpiaaGreatDoor.Pure

namespace Go.Proofs.YtpmjpbaeecnpiaaGreatDoor.Pure
open Go.RowKit Go.Proofs.YtpmjpbaeecnpiaaGreatDoor.L Go.Proofs.YtpmjpbaeecnpiaaGreatDoorW.PrintWords Go.Proofs.YtpmjpbaeecnpiaaGreatDoorW.PrintLast Go.Proofs.YtpmjpbaeecnpiaaGreatDoorW.PrintMore
open DT MT
set_option linter.unusedVariables false
set_option linter.unusedSimpArgs false

def nmV (l : List It) (j : Nat) : List UInt8 := match l[j]? with | some x => x.f1.toList | none => []
theorem nmV_at {l : List It} {i : Nat} (h : i < l.length) : nmV l i = l[i].f1.toList := by
  unfold nmV; rw [List.getElem?_eq_getElem h]
/-! tables of truths -/
def tab (n : Nat) (f : Nat → Bool) : List Bool := (List.range n).map f
theorem tab_len (n : Nat) (f : Nat → Bool) : (tab n f).length = n := by simp [tab]
theorem tab_at {n : Nat} {f : Nat → Bool} {i : Nat} (h : i < n) : rdOf false (tab n f) (i : Int) = f i := by
  unfold rdOf tab
  simp [h]
theorem tab_congr {n : Nat} {f g : Nat → Bool} (h : ∀ i, i < n → f i = g i) : tab n f = tab n g := by
  unfold tab
  exact List.map_congr_left (fun i hi => h i (List.mem_range.1 hi))
theorem tab_get {n : Nat} {f : Nat → Bool} {i : Nat} (h : i < (tab n f).length) : (tab n f)[i] = f i := by
  simp [tab]
theorem tab_set (n : Nat) (f : Nat → Bool) (i : Nat) (v : Bool) : (tab n f).set i v = tab n (fun j => if j = i then v else f j) := by
  apply List.ext_getElem
  · simp [tab]
  · intro j h1 h2
    rw [List.getElem_set, tab_get, tab_get]
    by_cases e : j = i
    · rw [if_pos e, if_pos e.symm]
    · rw [if_neg e, if_neg (fun h => e h.symm)]
theorem tab_no (n : Nat) : List.replicate n false = tab n (fun _ => false) := by
  apply List.ext_getElem
  · simp [tab]
  · intro j h1 h2
    simp [tab]
/-- The first i places filled. -/
def upto (i : Nat) (f : Nat → Bool) (j : Nat) : Bool := if j < i then f j else false
theorem upto_next (n : Nat) (f : Nat → Bool) (i : Nat) (v : Bool) (hv : v = f i) : (tab n (upto i f)).set i v = tab n (upto (i + 1) f) := by
  rw [tab_set]
  refine tab_congr (fun j _ => ?_)
  unfold upto
  by_cases e : j = i
  · rw [if_pos e, if_pos (by omega), hv, e]
  · rw [if_neg e]
    by_cases h : j < i
    · rw [if_pos h, if_pos (by omega)]
    · rw [if_neg h, if_neg (by omega)]
theorem upto_all (n : Nat) (f : Nat → Bool) : tab n (upto n f) = tab n f := tab_congr (fun j h => by unfold upto; rw [if_pos h])
theorem upto_none (n : Nat) (f : Nat → Bool) : List.replicate n false = tab n (upto 0 f) := by
  rw [tab_no]
  exact tab_congr (fun j h => by unfold upto; rw [if_neg (by omega)])
/-- Where one starts. -/
def startB (l : List It) (t : Nat) (deep : Bool) (i : Nat) : Bool := decide (i = t) || (deep && (elV l i && decide (t ∈ chain (upV l) i)))
/-- One step down. -/
def stepB (l : List It) (B : Nat → Bool) (nm : List UInt8) (i : Nat) : Bool := decide (0 ≤ upV l i) && (B (upV l i).toNat && decide (nmV l i = nm))
def finB (l : List It) (B : Nat → Bool) (names : List ByteArray) : Nat → Bool := names.foldl (fun B x => stepB l B x.toList) B
section
variable (l : List It) (V : Val (upV l) (elV l) l.length) (hn : l.length ≤ 200)
include V hn
omit hn in
theorem impl_within_is (t : Nat) : ∀ j, j < l.length → Ev (fun k => impl_within.f k l (j : Int) (t : Int)) (decide (t ∈ chain (upV l) j)) := by
  intro j
  induction j using Nat.strongRecOn with
  | _ j ih =>
  intro hlt
  have hup := upV_at hlt
  by_cases c : j > t
  · obtain ⟨h1, h2, h3⟩ := V.2 j (by omega) hlt
    have := ih (upV l j).toNat h2 (by omega)
    have e2 : l[j].f0 = (((upV l j).toNat : Nat) : Int) := by rw [← hup]; omega
    have e3 : (t ∈ chain (upV l) j) ↔ (t ∈ chain (upV l) (upV l j).toNat) := by
      rw [chain_up h1 h2, List.mem_cons]
      exact ⟨fun h => h.resolve_left (by omega), .inr⟩
    rw [decide_eq_decide.2 e3]
    refine Ev.step (fun k => ?_) this
    show impl_within.l0 (k + 1) l (j : Int) (t : Int) = _
    conv => lhs; unfold impl_within.l0
    rw [if_pos (by omega), if_pos (by omega), if_pos (by omega), rdIt l j hlt, e2]
    rfl
  · have e : ((j : Int) == (t : Int)) = decide (t ∈ chain (upV l) j) := by
      rw [Bool.eq_iff_iff, decide_eq_true_eq, beq_iff_eq]
      constructor
      · intro h
        rw [show j = t by omega, chain_eq]
        simp
      · intro h
        have := chain_lt _ _ h
        omega
    refine Ev.step (f := fun _ => some ((j : Int) == (t : Int))) (fun k => ?_) (by rw [e]; exact Ev.now _)
    show impl_within.l0 (k + 1) l (j : Int) (t : Int) = _
    conv => lhs; unfold impl_within.l0
    rw [if_neg (by omega)]
omit V in
theorem impl_led_l3 (B : Nat → Bool) : ∀ (n i : Nat), i + n = l.length → Ev (fun k => impl_led.l3 k (((List.range i).filter B).map Int.ofNat) (tab l.length B) ((tab l.length B).length : Int) (i : Int)) (((List.range l.length).filter B).map Int.ofNat) := by
  intro n
  induction n with
  | zero =>
    intro i hi
    rw [show i = l.length by omega]
    refine Ev.step (f := fun _ => some (((List.range l.length).filter B).map Int.ofNat)) (fun k => ?_) (Ev.now _)
    conv => lhs; unfold impl_led.l3
    rw [if_neg (by rw [tab_len]; omega)]
  | succ n ih =>
    intro i hi
    have hlt : i < l.length := by omega
    have hnext := ih (i + 1) (by omega)
    have hlen : (((List.range i).filter B).map Int.ofNat).length ≤ i := by
      rw [List.length_map]
      have := List.length_filter_le B (List.range i)
      rw [List.length_range] at this
      exact this
    rw [List.range_succ, List.filter_append, List.map_append] at hnext
    cases hb : B i with
    | true =>
      rw [show List.filter B [i] = [i] by simp [hb]] at hnext
      refine Ev.step (fun k => ?_) hnext
      conv => lhs; unfold impl_led.l3
      rw [if_pos (by rw [tab_len]; omega), if_pos (by omega), if_pos (by rw [tab_len]; omega), tab_at hlt, if_pos hb, if_pos (by omega), w1n hlt (by omega)]
      rfl
    | false =>
      rw [show List.filter B [i] = [] by simp [hb], List.map_nil, List.append_nil] at hnext
      refine Ev.step (fun k => ?_) hnext
      conv => lhs; unfold impl_led.l3
      rw [if_pos (by rw [tab_len]; omega), if_pos (by omega), if_pos (by rw [tab_len]; omega), tab_at hlt, if_neg (by rw [hb]; decide), w1n hlt (by omega)]
theorem impl_led_l2 (B : Nat → Bool) (nm : ByteArray) (names : List ByteArray) (x : Int) (R : List Int) (hR : Ev (fun k => impl_led.l1 k l (tab l.length (stepB l B nm.toList)) names (names.length : Int) (wrap64 (x + 1))) R) : ∀ (n i : Nat), i + n = l.length → Ev (fun k => impl_led.l2 k l (tab l.length B) nm (tab l.length (upto i (stepB l B nm.toList))) names (names.length : Int) x l (l.length : Int) (i : Int)) R := by
  intro n
  induction n with
  | zero =>
    intro i hi
    rw [show i = l.length by omega, upto_all]
    refine Ev.step (fun k => ?_) hR
    conv => lhs; unfold impl_led.l2
    rw [if_neg (by omega)]
  | succ n ih =>
    intro i hi
    have hlt : i < l.length := by omega
    have hup := upV_at hlt
    have hnext := ih (i + 1) (by omega)
    refine Ev.step (fun k => ?_) hnext
    conv => lhs; unfold impl_led.l2
    rw [if_pos (by omega), if_pos (by omega), if_pos (by omega), rdIt l i hlt]
    by_cases c1 : l[i].f0 ≥ 0
    · have hi0 : 0 < i := by
        rcases Nat.eq_zero_or_pos i with h | h
        · have := (V.1 (by omega)).1
          rw [← h, hup] at this
          omega
        · exact h
      obtain ⟨h1, h2, h3⟩ := V.2 i hi0 hlt
      have e2 : l[i].f0 = (((upV l i).toNat : Nat) : Int) := by rw [← hup]; omega
      rw [if_pos c1, if_pos (by omega), if_pos (by rw [tab_len]; omega), e2, tab_at (by omega), tab_len, Int.toNat_natCast]
      cases hb : B (upV l i).toNat with
      | true =>
        rw [if_pos rfl, if_pos (by omega), w1n hlt (by omega), upto_next _ _ _ _ (by unfold stepB; rw [decide_eq_true h1, hb, nmV_at hlt, Bool.true_and, Bool.true_and, Bool.eq_iff_iff, beq_iff_eq, decide_eq_true_eq])]
      | false =>
        rw [if_neg (by decide), if_pos (by omega), w1n hlt (by omega), upto_next _ _ _ _ (by unfold stepB; rw [hb]; simp)]
    · rw [if_neg c1, tab_len, if_pos (by omega), Int.toNat_natCast, w1n hlt (by omega), upto_next _ _ _ _ (by unfold stepB; rw [hup, decide_eq_false c1]; simp)]
theorem impl_led_l1 (names : List ByteArray) (hm : names.length ≤ 1048576) : ∀ (n i : Nat) (B : Nat → Bool), i + n = names.length → Ev (fun k => impl_led.l1 k l (tab l.length B) names (names.length : Int) (i : Int)) (((List.range l.length).filter (finB l B (names.drop i))).map Int.ofNat) := by
  intro n
  induction n with
  | zero =>
    intro i B hi
    rw [List.drop_of_length_le (by omega)]
    refine Ev.step (fun k => ?_) (impl_led_l3 l hn B l.length 0 (by omega))
    conv => lhs; unfold impl_led.l1
    rw [if_neg (by omega)]
    rfl
  | succ n ih =>
    intro i B hi
    have hlt : i < names.length := by omega
    rw [List.drop_eq_getElem_cons hlt]
    have hnext := ih (i + 1) (stepB l B names[i].toList) (by omega)
    have h2 := impl_led_l2 l V hn B names[i] names (i : Int) _ (by rw [w1n hlt (by omega)]; exact hnext) l.length 0 (by omega)
    have er : rdOf ByteArray.empty names (i : Int) = names[i] := by
      unfold rdOf
      simp [hlt]
    refine Ev.step (fun k => ?_) h2
    conv => lhs; unfold impl_led.l1
    rw [if_pos (by omega), if_pos (by omega), if_pos (by omega), if_pos (by omega), if_pos (by omega), er, Int.toNat_natCast, upto_none l.length (stepB l B names[i].toList)]
    rfl
theorem impl_led_l0 (t : Nat) (names : List ByteArray) (deep : Bool) (R : List Int) (hR : Ev (fun k => impl_led.l1 k l (tab l.length (startB l t deep)) names (names.length : Int) 0) R) : ∀ (n i : Nat), i + n = l.length → Ev (fun k => impl_led.l0 k l (t : Int) names deep (tab l.length (upto i (startB l t deep))) l (l.length : Int) (i : Int)) R := by
  intro n
  induction n with
  | zero =>
    intro i hi
    rw [show i = l.length by omega, upto_all]
    refine Ev.step (fun k => ?_) hR
    conv => lhs; unfold impl_led.l0
    rw [if_neg (by omega)]
  | succ n ih =>
    intro i hi
    have hlt : i < l.length := by omega
    have hnext := ih (i + 1) (by omega)
    by_cases c1 : i = t
    · refine Ev.step (fun k => ?_) hnext
      conv => lhs; unfold impl_led.l0
      rw [if_pos (by omega), if_pos (by omega), if_pos (by omega), if_pos (by omega), tab_len, if_pos (by omega), Int.toNat_natCast, w1n hlt (by omega), upto_next _ _ _ _ (by unfold startB; rw [decide_eq_true c1]; rfl)]
    · cases hd : deep with
      | false =>
        subst hd
        refine Ev.step (fun k => ?_) hnext
        conv => lhs; unfold impl_led.l0
        rw [if_pos (by omega), if_pos (by omega), if_pos (by omega), if_neg (by omega), if_neg (by decide), tab_len, if_pos (by omega), Int.toNat_natCast, w1n hlt (by omega), upto_next _ _ _ _ (by unfold startB; rw [decide_eq_false c1]; rfl)]
      | true =>
        subst hd
        cases he : elV l i with
        | false =>
          refine Ev.step (fun k => ?_) hnext
          conv => lhs; unfold impl_led.l0
          rw [if_pos (by omega), if_pos (by omega), if_pos (by omega), if_neg (by omega), if_pos rfl, rdIt l i hlt, if_pos ((el_no hlt).1 he), tab_len, if_pos (by omega), Int.toNat_natCast, w1n hlt (by omega), upto_next _ _ _ _ (by unfold startB; rw [decide_eq_false c1, he]; rfl)]
        | true =>
          have hw := impl_within_is l V t i hlt
          refine Ev.step (f := fun k => (impl_within.f k l (i : Int) (t : Int)).bind fun t372 => (impl_led.l0 k l (t : Int) names true ((tab l.length (upto i (startB l t true))).set i t372) l (l.length : Int) ((i + 1 : Nat) : Int))) (fun k => ?_) (Ev.bind hw ?_)
          · conv => lhs; unfold impl_led.l0
            rw [if_pos (by omega), if_pos (by omega), if_pos (by omega), if_neg (by omega), if_pos rfl, rdIt l i hlt, if_neg ((el_yes hlt).1 he)]
            congr 1
            funext t372
            rw [tab_len, if_pos (by omega), Int.toNat_natCast, w1n hlt (by omega)]
          · rw [upto_next _ _ _ _ (by unfold startB; rw [decide_eq_false c1, he]; rfl)]
            exact hnext
theorem impl_led_is (t : Nat) (names : List ByteArray) (hm : names.length ≤ 1048576) (deep : Bool) : Ev (fun k => impl_led.f k l (t : Int) names deep) (((List.range l.length).filter (finB l (startB l t deep) names)).map Int.ofNat) := by
  have h1 := impl_led_l1 l V hn names hm names.length 0 (startB l t deep) (by omega)
  rw [List.drop_zero] at h1
  have := impl_led_l0 l V hn t names deep _ h1 l.length 0 (by omega)
  refine Ev.congr (fun k => ?_) this
  unfold impl_led.f
  rw [if_pos (by omega), if_pos (by omega), Int.toNat_natCast, upto_none l.length (startB l t deep)]
  rfl
end
end Go.Proofs.YtpmjpbaeecnpiaaGreatDoor.Pure

namespace Go.Proofs.YtpmjpbaeecnpiaaGreatDoor.Pure
open Go.RowKit Go.Proofs.YtpmjpbaeecnpiaaGreatDoor.L Go.Proofs.YtpmjpbaeecnpiaaGreatDoorW.PrintWords Go.Proofs.YtpmjpbaeecnpiaaGreatDoorW.PrintLast Go.Proofs.YtpmjpbaeecnpiaaGreatDoorW.PrintMore
set_option linter.unusedVariables false
set_option linter.unusedSimpArgs false

def pathB (l : List UInt8) : Bool := (specSteps l).2.2 && decide (l.length ≤ 20000)
/-- The two readers say alike whether a path is one; where it is one they tell the same names. -/
theorem steps_alike (s : ByteArray) : (implSteps s).2.2 = pathB s.data.toList ∧ (pathB s.data.toList = true → (implSteps s).1 = (specSteps s.data.toList).1 ∧ (implSteps s).2.1 = (specSteps s.data.toList).2.1) := by
  unfold pathB implSteps
  by_cases c1 : 20000 < s.data.toList.length
  · rw [if_pos c1]
    have : decide (s.data.toList.length ≤ 20000) = false := decide_eq_false (by omega)
    rw [this, Bool.and_false]
    exact ⟨rfl, fun h => by cases h⟩
  · rw [if_neg c1]
    have : decide (s.data.toList.length ≤ 20000) = true := decide_eq_true (by omega)
    rw [this, Bool.and_true]
    by_cases c2 : 2 < s.data.toList.length
    · have e : deepS s.data.toList = twoB s.data.toList := by unfold deepS; rw [decide_eq_true c2, Bool.true_and]
      unfold specSteps stepsV
      rw [e, List.nil_append]
      generalize hS : segs [] (if twoB s.data.toList = true then s.data.toList.drop 2 else s.data.toList) = S
      clear hS
      cases ha : S.all nameB with
      | true =>
        simp only [if_true, List.length_map]
        by_cases c3 : 6 < S.length
        · rw [if_pos c3]
          have : decide ((S.length : Int) ≤ 6) = false := decide_eq_false (by omega)
          rw [this]
          exact ⟨rfl, fun h => by cases h⟩
        · rw [if_neg c3]
          have : decide ((S.length : Int) ≤ 6) = true := decide_eq_true (by omega)
          rw [this]
          exact ⟨rfl, fun _ => ⟨rfl, rfl⟩⟩
      | false =>
        simp only [Bool.false_eq_true, if_false]
        refine ⟨?_, fun h => by cases h⟩
        split <;> rfl
    · have e : deepS s.data.toList = false := by unfold deepS; rw [decide_eq_false c2, Bool.false_and]
      unfold specSteps stepsV
      rw [e, List.nil_append]
      simp only [Bool.false_eq_true, if_false]
      cases ht : twoB s.data.toList with
      | true =>
        have hl : s.data.toList = [47, 47] := by
          match hm : s.data.toList, ht, c2 with
          | [a, b], ht, _ =>
            simp only [twoB, Bool.and_eq_true, decide_eq_true_eq] at ht
            rw [ht.1, ht.2]
          | a :: b :: c :: t, _, c2 => simp at c2
        rw [hl]
        exact ⟨by decide, fun h => absurd h (by decide)⟩
      | false =>
        simp only [Bool.false_eq_true, if_false]
        generalize segs [] s.data.toList = S
        cases ha : S.all nameB with
        | true =>
          simp only [if_true, List.length_map]
          by_cases c3 : 6 < S.length
          · rw [if_pos c3]
            have : decide ((S.length : Int) ≤ 6) = false := decide_eq_false (by omega)
            rw [this]
            exact ⟨rfl, fun h => by cases h⟩
          · rw [if_neg c3]
            have : decide ((S.length : Int) ≤ 6) = true := decide_eq_true (by omega)
            rw [this]
            exact ⟨rfl, fun _ => ⟨rfl, rfl⟩⟩
        | false =>
          simp only [Bool.false_eq_true, if_false]
          refine ⟨?_, fun h => by cases h⟩
          split <;> rfl
end Go.Proofs.YtpmjpbaeecnpiaaGreatDoor.Pure

namespace Go.Proofs.YtpmjpbaeecnpiaaGreatDoor.Pure
open Go.RowKit Go.Proofs.YtpmjpbaeecnpiaaGreatDoor.L Go.Proofs.YtpmjpbaeecnpiaaGreatDoorW.PrintWords Go.Proofs.YtpmjpbaeecnpiaaGreatDoorW.PrintLast Go.Proofs.YtpmjpbaeecnpiaaGreatDoorW.PrintMore
open DT MT
set_option linter.unusedVariables false
set_option linter.unusedSimpArgs false

def ofN (s : List Nat) : List Int := s.map Int.ofNat
theorem ofN_len (s : List Nat) : (ofN s).length = s.length := by simp [ofN]
theorem ofN_app (s t : List Nat) : ofN (s ++ t) = ofN s ++ ofN t := by simp [ofN]
theorem ofN_at {s : List Nat} {i : Nat} (h : i < s.length) : rd (ofN s) (i : Int) = (s[i] : Int) := by
  rw [rdZ _ _ (by rw [ofN_len]; exact h)]
  simp [ofN]
theorem ofN_mem {s : List Nat} {z : Int} : z ∈ ofN s ↔ 0 ≤ z ∧ z.toNat ∈ s := by
  unfold ofN
  rw [List.mem_map]
  constructor
  · rintro ⟨a, h, rfl⟩
    exact ⟨by simp, by simpa using h⟩
  · rintro ⟨h1, h2⟩
    exact ⟨z.toNat, h2, by simp; omega⟩
/-- The kids of item i. -/
def kidsN (l : List It) (i : Nat) : List Nat := (List.range l.length).filter (fun j => decide (i < j) && decide (upV l j = (i : Int)))
theorem kidsN_mem {l : List It} {i j : Nat} : j ∈ kidsN l i ↔ j < l.length ∧ i < j ∧ upV l j = (i : Int) := by
  unfold kidsN
  simp [List.mem_filter]
theorem nodup_filter {p : Nat → Bool} {s : List Nat} (h : s.Nodup) : (s.filter p).Nodup := List.Pairwise.filter p h
theorem few {l : List It} {s : List Nat} (h : s.Nodup) (hs : ∀ i ∈ s, i < l.length) : s.length ≤ l.length := by
  have := h.length_le_of_subset (l₂ := List.range l.length) (fun i hi => List.mem_range.2 (hs i hi))
  rwa [List.length_range] at this
theorem kidsN_len (l : List It) (i : Nat) : (kidsN l i).length ≤ l.length := few (nodup_filter List.nodup_range) (fun j hj => (kidsN_mem.1 hj).1)
/-- One step down. -/
def stepN (l : List It) (s : List Nat) (nm : List UInt8) : List Nat := s.flatMap (fun i => (kidsN l i).filter (fun j => decide (nmV l j = nm)))
theorem stepN_mem {l : List It} {s : List Nat} {nm : List UInt8} {j : Nat} : j ∈ stepN l s nm ↔ ∃ i ∈ s, (j < l.length ∧ i < j ∧ upV l j = (i : Int)) ∧ nmV l j = nm := by
  unfold stepN
  rw [List.mem_flatMap]
  simp only [List.mem_filter, kidsN_mem, decide_eq_true_eq]
theorem stepN_nodup {l : List It} {s : List Nat} {nm : List UInt8} (h : s.Nodup) : (stepN l s nm).Nodup := by
  unfold stepN List.Nodup
  rw [List.pairwise_flatMap]
  refine ⟨fun i _ => nodup_filter (nodup_filter List.nodup_range), ?_⟩
  refine List.Pairwise.imp ?_ h
  intro a b hab x hx y hy
  simp only [List.mem_filter, kidsN_mem, decide_eq_true_eq] at hx hy
  rintro rfl
  exact hab (by omega)
def finN (l : List It) (s : List Nat) (names : List ByteArray) : List Nat := names.foldl (fun s x => stepN l s x.toList) s
/-- Where one starts. -/
def startN (l : List It) (t : Nat) (deep : Bool) : List Nat := if deep = true then t :: (List.range l.length).filter (fun i => decide (t < i) && (decide (t ∈ chain (upV l) i) && elV l i)) else [t]
section
variable (l : List It) (hn : l.length ≤ 200)
include hn
theorem spec_kids_l0 (p : Nat) : ∀ (n i : Nat), i + n = l.length → p < i → Ev (fun k => spec_l2Kids.l0 k l (p : Int) (ofN ((List.range i).filter (fun j => decide (p < j) && decide (upV l j = (p : Int))))) (i : Int)) (ofN (kidsN l p)) := by
  intro n
  induction n with
  | zero =>
    intro i hi hp
    rw [show i = l.length by omega]
    refine Ev.step (f := fun _ => some (ofN (kidsN l p))) (fun k => ?_) (Ev.now _)
    conv => lhs; unfold spec_l2Kids.l0
    rw [if_neg (by omega)]
    rfl
  | succ n ih =>
    intro i hi hp
    have hlt : i < l.length := by omega
    have hup := upV_at hlt
    have hnext := ih (i + 1) (by omega) (by omega)
    have hlen : (ofN ((List.range i).filter (fun j => decide (p < j) && decide (upV l j = (p : Int))))).length ≤ i := by
      rw [ofN_len]
      have := List.length_filter_le (fun j => decide (p < j) && decide (upV l j = (p : Int))) (List.range i)
      rw [List.length_range] at this
      exact this
    rw [List.range_succ, List.filter_append, ofN_app] at hnext
    by_cases c : l[i].f0 = (p : Int)
    · rw [show List.filter (fun j => decide (p < j) && decide (upV l j = (p : Int))) [i] = [i] by simp [hup, c, hp]] at hnext
      refine Ev.step (fun k => ?_) hnext
      conv => lhs; unfold spec_l2Kids.l0
      rw [if_pos (by omega), if_pos (by omega), rdIt l i hlt, if_pos c, if_pos (by omega), w1n hlt (by omega)]
      rfl
    · rw [show List.filter (fun j => decide (p < j) && decide (upV l j = (p : Int))) [i] = [] by simp [hup, c], show ofN [] = [] from rfl, List.append_nil] at hnext
      refine Ev.step (fun k => ?_) hnext
      conv => lhs; unfold spec_l2Kids.l0
      rw [if_pos (by omega), if_pos (by omega), rdIt l i hlt, if_neg c, w1n hlt (by omega)]
theorem spec_kids (p : Nat) (hp : p < l.length) : Ev (fun k => spec_l2Kids.f k l (p : Int)) (ofN (kidsN l p)) := by
  have := spec_kids_l0 l hn p (l.length - (p + 1)) (p + 1) (by omega) (by omega)
  have e : (List.range (p + 1)).filter (fun j => decide (p < j) && decide (upV l j = (p : Int))) = [] := by
    rw [List.filter_eq_nil_iff]
    intro j hj
    rw [List.mem_range] at hj
    simp
    omega
  rw [e] at this
  refine Ev.congr (fun k => ?_) this
  unfold spec_l2Kids.f
  rw [w1n hp (by omega)]
  rfl
omit hn in
theorem spec_sel_l4 (names : List ByteArray) (c : Nat) (hc : c < names.length) (S K : List Nat) (hK : ∀ j ∈ K, j < l.length) (hKb : K.length ≤ 200) (x : Int) (R : List Int) : ∀ (n j : Nat) (A : List Nat), j + n = K.length → A.length + n ≤ 1048576 → Ev (fun k => spec_l11Select.l3 k l names (ofN S) (c : Int) (ofN (A ++ (K.drop j).filter (fun q => decide (nmV l q = names[c].toList)))) (wrap64 (x + 1))) R → Ev (fun k => spec_l11Select.l4 k l names (ofN S) (c : Int) (ofN A) x (ofN K) (j : Int)) R := by
  intro n
  induction n with
  | zero =>
    intro j A hj hA h
    rw [List.drop_of_length_le (by omega), List.filter_nil, List.append_nil] at h
    refine Ev.step (fun k => ?_) h
    conv => lhs; unfold spec_l11Select.l4
    rw [if_neg (by rw [ofN_len]; omega)]
  | succ n ih =>
    intro j A hj hA h
    have hlt : j < K.length := by omega
    have hq : K[j] < l.length := hK _ (List.getElem_mem hlt)
    have er : rdOf ByteArray.empty names (c : Int) = names[c] := by
      unfold rdOf
      simp [hc]
    have hKl : ((ofN K).length : Int) = K.length := by rw [ofN_len]
    rw [List.drop_eq_getElem_cons hlt, List.filter_cons] at h
    by_cases cn : nmV l K[j] = names[c].toList
    · rw [if_pos (decide_eq_true cn)] at h
      have := ih (j + 1) (A ++ [K[j]]) (by omega) (by simp; omega) (by rw [List.append_assoc]; exact h)
      rw [nmV_at hq] at cn
      refine Ev.step (fun k => ?_) this
      conv => lhs; unfold spec_l11Select.l4
      rw [if_pos (by omega), if_pos (by omega), ofN_at hlt, if_pos (by omega), if_pos (by omega), if_pos (by omega), if_pos (by omega), rdIt l _ hq, er, if_pos cn, if_pos (by rw [ofN_len]; omega), w1n hlt (by omega), ofN_app]
      rfl
    · rw [if_neg (by rw [decide_eq_true_eq]; exact cn)] at h
      have := ih (j + 1) A (by omega) (by omega) h
      rw [nmV_at hq] at cn
      refine Ev.step (fun k => ?_) this
      conv => lhs; unfold spec_l11Select.l4
      rw [if_pos (by omega), if_pos (by omega), ofN_at hlt, if_pos (by omega), if_pos (by omega), if_pos (by omega), if_pos (by omega), rdIt l _ hq, er, if_neg cn, w1n hlt (by omega)]
theorem spec_sel_l3 (names : List ByteArray) (c : Nat) (hc : c < names.length) (S : List Nat) (hS : ∀ i ∈ S, i < l.length) (hSl : S.length ≤ 200) (R : List Int) (hR : Ev (fun k => spec_l11Select.l2 k l names (ofN (stepN l S names[c].toList)) (wrap64 ((c : Int) + 1))) R) : ∀ (n i : Nat) (A : List Nat), i + n = S.length → A.length ≤ 200 * i → A ++ stepN l (S.drop i) names[c].toList = stepN l S names[c].toList → Ev (fun k => spec_l11Select.l3 k l names (ofN S) (c : Int) (ofN A) (i : Int)) R := by
  intro n
  induction n with
  | zero =>
    intro i A hi hA h
    rw [List.drop_of_length_le (by omega)] at h
    simp only [stepN, List.flatMap_nil, List.append_nil] at h
    rw [h]
    refine Ev.step (fun k => ?_) hR
    conv => lhs; unfold spec_l11Select.l3
    rw [if_neg (by rw [ofN_len]; omega)]
    rfl
  | succ n ih =>
    intro i A hi hA h
    have hlt : i < S.length := by omega
    have hq : S[i] < l.length := hS _ (List.getElem_mem hlt)
    rw [List.drop_eq_getElem_cons hlt] at h
    unfold stepN at h
    rw [List.flatMap_cons, ← List.append_assoc] at h
    have hkl := kidsN_len l S[i]
    have hfl := List.length_filter_le (fun j => decide (nmV l j = names[c].toList)) (kidsN l S[i])
    have hnext := ih (i + 1) (A ++ (kidsN l S[i]).filter (fun j => decide (nmV l j = names[c].toList))) (by omega) (by rw [List.length_append]; omega) h
    have h4 := spec_sel_l4 l names c hc S (kidsN l S[i]) (fun j hj => (kidsN_mem.1 hj).1) (by omega) (i : Int) R (kidsN l S[i]).length 0 A (by omega) (by omega) (by rw [List.drop_zero, w1n hlt (by omega)]; exact hnext)
    refine Ev.step (f := fun k => (spec_l2Kids.f k l ((S[i] : Nat) : Int)).bind fun t247 => (spec_l11Select.l4 k l names (ofN S) (c : Int) (ofN A) (i : Int) t247 0)) (fun k => ?_) (Ev.bind (spec_kids l hn S[i] hq) h4)
    conv => lhs; unfold spec_l11Select.l3
    rw [if_pos (by rw [ofN_len]; omega), if_pos (by omega), ofN_at hlt]
theorem spec_sel_l2 (names : List ByteArray) (hm : names.length ≤ 1048576) : ∀ (n c : Nat) (S : List Nat), c + n = names.length → S.Nodup → (∀ i ∈ S, i < l.length) → Ev (fun k => spec_l11Select.l2 k l names (ofN S) (c : Int)) (srt (ofN (finN l S (names.drop c)))) := by
  intro n
  induction n with
  | zero =>
    intro c S hc hd hS
    rw [List.drop_of_length_le (by omega)]
    have hSl := few hd hS
    refine Ev.step (f := fun k => (spec_l8Sorted.f k (ofN S)).bind fun t240 => some t240) (fun k => ?_) (Ev.bind (spec_sorted (ofN S) (by rw [ofN_len]; omega)) (Ev.now _))
    conv => lhs; unfold spec_l11Select.l2
    rw [if_neg (by omega)]
  | succ n ih =>
    intro c S hc hd hS
    have hlt : c < names.length := by omega
    have hSl := few hd hS
    rw [List.drop_eq_getElem_cons hlt]
    have hnext := ih (c + 1) (stepN l S names[c].toList) (by omega) (stepN_nodup hd) (fun i hi => by
      obtain ⟨_, _, h, _⟩ := stepN_mem.1 hi
      exact h.1)
    have h3 := spec_sel_l3 l hn names c hlt S hS (by omega) _ (by rw [w1n hlt (by omega)]; exact hnext) S.length 0 [] (by omega) (by simp) (by simp)
    refine Ev.step (fun k => ?_) h3
    conv => lhs; unfold spec_l11Select.l2
    rw [if_pos (by omega)]
    rfl
theorem spec_sel_l1 (V : Val (upV l) (elV l) l.length) (t : Nat) (names : List ByteArray) (acc : List Int) (ha : acc.length ≤ 1048576) (i : Nat) (hi : i < l.length) (R : List Int)
    (h1 : t ∈ chain (upV l) i → elV l i = true → Ev (fun k => spec_l11Select.l0 k l (t : Int) names (acc ++ [(i : Int)]) ((i + 1 : Nat) : Int)) R)
    (h2 : ¬ (t ∈ chain (upV l) i ∧ elV l i = true) → Ev (fun k => spec_l11Select.l0 k l (t : Int) names acc ((i + 1 : Nat) : Int)) R) : ∀ j, j < l.length → ((t ∈ chain (upV l) i) ↔ (t ∈ chain (upV l) j)) → Ev (fun k => spec_l11Select.l1 k l (t : Int) names acc (i : Int) (j : Int)) R := by
  intro j
  induction j using Nat.strongRecOn with
  | _ j ih =>
  intro hlt hij
  have hup := upV_at hlt
  by_cases c : j > t
  · obtain ⟨q1, q2, q3⟩ := V.2 j (by omega) hlt
    have e2 : l[j].f0 = (((upV l j).toNat : Nat) : Int) := by rw [← hup]; omega
    have e3 : (t ∈ chain (upV l) j) ↔ (t ∈ chain (upV l) (upV l j).toNat) := by
      rw [chain_up q1 q2, List.mem_cons]
      exact ⟨fun h => h.resolve_left (by omega), .inr⟩
    have := ih (upV l j).toNat q2 (by omega) (hij.trans e3)
    refine Ev.step (fun k => ?_) this
    conv => lhs; unfold spec_l11Select.l1
    rw [if_pos (by omega), if_pos (by omega), if_pos (by omega), rdIt l j hlt, e2]
  · by_cases c2 : j = t
    · have hm : t ∈ chain (upV l) i := hij.2 (by rw [c2, chain_eq]; simp)
      cases he : elV l i with
      | true =>
        refine Ev.step (fun k => ?_) (h1 hm he)
        conv => lhs; unfold spec_l11Select.l1
        rw [if_neg (by omega), if_pos (by omega), if_pos (by omega), if_pos (by omega), rdIt l i hi, if_neg ((el_yes hi).1 he), if_pos (by omega), w1n hi (by omega)]
      | false =>
        refine Ev.step (fun k => ?_) (h2 (fun h => by rw [he] at h; exact absurd h.2 (by decide)))
        conv => lhs; unfold spec_l11Select.l1
        rw [if_neg (by omega), if_pos (by omega), if_pos (by omega), if_pos (by omega), rdIt l i hi, if_pos ((el_no hi).1 he), w1n hi (by omega)]
    · have hm : ¬ t ∈ chain (upV l) i := fun h => by
        have := chain_lt _ _ (hij.1 h)
        have hmj := hij.1 h
        rcases Nat.eq_or_lt_of_le this with e | e
        · exact c2 e.symm
        · omega
      refine Ev.step (fun k => ?_) (h2 (fun h => hm h.1))
      conv => lhs; unfold spec_l11Select.l1
      rw [if_neg (by omega), if_neg (by omega), w1n hi (by omega)]
theorem spec_sel_l0 (V : Val (upV l) (elV l) l.length) (t : Nat) (names : List ByteArray) (R : List Int) (hR : Ev (fun k => spec_l11Select.j2 k l names (ofN (startN l t true))) R) : ∀ (n i : Nat), i + n = l.length → t < i → Ev (fun k => spec_l11Select.l0 k l (t : Int) names (ofN (t :: (List.range i).filter (fun j => decide (t < j) && (decide (t ∈ chain (upV l) j) && elV l j)))) (i : Int)) R := by
  intro n
  induction n with
  | zero =>
    intro i hi ht
    rw [show i = l.length by omega]
    refine Ev.step (fun k => ?_) hR
    conv => lhs; unfold spec_l11Select.l0
    rw [if_neg (by omega)]
    rfl
  | succ n ih =>
    intro i hi ht
    have hlt : i < l.length := by omega
    have hnext := ih (i + 1) (by omega) (by omega)
    rw [List.range_succ, List.filter_append, ← List.cons_append, ofN_app] at hnext
    have hlen : (ofN (t :: (List.range i).filter (fun j => decide (t < j) && (decide (t ∈ chain (upV l) j) && elV l j)))).length ≤ i + 1 := by
      rw [ofN_len, List.length_cons]
      have := List.length_filter_le (fun j => decide (t < j) && (decide (t ∈ chain (upV l) j) && elV l j)) (List.range i)
      rw [List.length_range] at this
      omega
    have h1 := spec_sel_l1 l hn V t names (ofN (t :: (List.range i).filter (fun j => decide (t < j) && (decide (t ∈ chain (upV l) j) && elV l j)))) (by omega) i hlt R (fun hm he => by
        rw [show List.filter (fun j => decide (t < j) && (decide (t ∈ chain (upV l) j) && elV l j)) [i] = [i] by simp [hm, he, ht]] at hnext
        exact hnext) (fun h => by
        rw [show List.filter (fun j => decide (t < j) && (decide (t ∈ chain (upV l) j) && elV l j)) [i] = [] by simp; intro _ hm; cases he : elV l i with | true => exact absurd ⟨hm, he⟩ h | false => rfl, show ofN [] = [] from rfl, List.append_nil] at hnext
        exact hnext) i hlt Iff.rfl
    refine Ev.step (fun k => ?_) h1
    conv => lhs; unfold spec_l11Select.l0
    rw [if_pos (by omega)]
end
theorem startN_mem {l : List It} {t : Nat} (ht : t < l.length) {deep : Bool} {i : Nat} : i ∈ startN l t deep ↔ i < l.length ∧ startB l t deep i = true := by
  unfold startN startB
  cases deep with
  | false =>
    simp only [Bool.false_eq_true, if_false, List.mem_singleton, Bool.false_and, Bool.or_false, decide_eq_true_eq]
    exact ⟨fun h => ⟨by omega, h⟩, fun h => h.2⟩
  | true =>
    simp only [if_true, List.mem_cons, List.mem_filter, List.mem_range, Bool.and_eq_true, Bool.or_eq_true, decide_eq_true_eq, Bool.true_and]
    constructor
    · rintro (h | ⟨h1, h2, h3, h4⟩)
      · exact ⟨by omega, .inl h⟩
      · exact ⟨h1, .inr ⟨h4, h3⟩⟩
    · rintro ⟨h1, h | ⟨h4, h3⟩⟩
      · exact .inl h
      · have := chain_lt _ _ h3
        by_cases e : i = t
        · exact .inl e
        · exact .inr ⟨h1, by omega, h3, h4⟩
theorem startN_nodup (l : List It) (t : Nat) (deep : Bool) : (startN l t deep).Nodup := by
  unfold startN
  split
  · refine List.nodup_cons.2 ⟨?_, nodup_filter List.nodup_range⟩
    simp
  · simp
theorem finN_mem {l : List It} (V : Val (upV l) (elV l) l.length) : ∀ (names : List ByteArray) (s : List Nat) (B : Nat → Bool), (∀ i, i ∈ s ↔ i < l.length ∧ B i = true) → ∀ i, i ∈ finN l s names ↔ i < l.length ∧ finB l B names i = true
  | [], s, B, h, i => h i
  | nm :: names, s, B, h, i => by
    refine finN_mem V names (stepN l s nm.toList) (stepB l B nm.toList) (fun j => ?_) i
    rw [stepN_mem]
    unfold stepB
    simp only [Bool.and_eq_true, decide_eq_true_eq]
    constructor
    · rintro ⟨a, ha, ⟨h1, h2, h3⟩, h4⟩
      refine ⟨h1, by omega, ?_, h4⟩
      rw [h3, Int.toNat_natCast]
      exact ((h a).1 ha).2
    · rintro ⟨h1, h2, h3, h4⟩
      have hj0 : 0 < j := by
        rcases Nat.eq_zero_or_pos j with e | e
        · have := (V.1 (by omega)).1
          rw [e] at h2
          omega
        · exact e
      obtain ⟨q1, q2, q3⟩ := V.2 j hj0 h1
      exact ⟨(upV l j).toNat, (h _).2 ⟨by omega, h3⟩, ⟨h1, q2, by omega⟩, h4⟩
theorem led_up (l : List It) (B : Nat → Bool) : Ris (ofN ((List.range l.length).filter B)) := by
  unfold Ris ofN
  rw [List.pairwise_map]
  refine List.Pairwise.imp ?_ (List.Pairwise.filter B List.pairwise_lt_range)
  intro a b h
  simpa using h
/-- Both ways lead to the same. -/
theorem led_same {l : List It} (V : Val (upV l) (elV l) l.length) {t : Nat} (ht : t < l.length) (names : List ByteArray) (deep : Bool) : srt (ofN (finN l (startN l t deep) names)) = ((List.range l.length).filter (finB l (startB l t deep) names)).map Int.ofNat := by
  refine (srt_of (led_up l _) (fun z => ?_)).symm
  rw [ofN_mem, ofN_mem, finN_mem V names _ _ (fun i => startN_mem ht), List.mem_filter, List.mem_range]
theorem spec_led (l : List It) (hn : l.length ≤ 200) (V : Val (upV l) (elV l) l.length) (t : Nat) (ht : t < l.length) (s : ByteArray) (hs : s.data.toList.length ≤ 1048576) (hm : (specSteps s.data.toList).1.length ≤ 1048576) : Ev (fun k => spec_l11Select.f k l (t : Int) s) (((List.range l.length).filter (finB l (startB l t (specSteps s.data.toList).2.1) (specSteps s.data.toList).1)).map Int.ofNat) := by
  refine Ev.congr (f := fun k => (spec_l11Steps.f k s).bind fun bt227 => (if bt227.2.1 = true then (spec_l11Select.l0 k l (t : Int) bt227.1 [(t : Int)] (wrap64 ((t : Int) + 1))) else (spec_l11Select.j2 k l bt227.1 [(t : Int)]))) (fun k => rfl) (Ev.bind (spec_steps s hs) ?_)
  generalize specSteps s.data.toList = T at *
  obtain ⟨names, deep, ok⟩ := T
  simp only at hm ⊢
  rw [← led_same V ht]
  have h2 := spec_sel_l2 l hn names hm names.length 0 (startN l t deep) (by omega) (startN_nodup l t deep) (fun i hi => ((startN_mem ht).1 hi).1)
  rw [List.drop_zero] at h2
  have hj : Ev (fun k => spec_l11Select.j2 k l names (ofN (startN l t deep))) (srt (ofN (finN l (startN l t deep) names))) := by
    refine Ev.step (fun k => ?_) h2
    conv => lhs; unfold spec_l11Select.j2
    rfl
  cases deep with
  | false => exact hj
  | true =>
    simp only [if_true]
    rw [w1n ht (by omega)]
    have h0 := spec_sel_l0 l hn V t names _ hj (l.length - (t + 1)) (t + 1) (by omega) (by omega)
    have e : (List.range (t + 1)).filter (fun j => decide (t < j) && (decide (t ∈ chain (upV l) j) && elV l j)) = [] := by
      rw [List.filter_eq_nil_iff]
      intro j hj
      rw [List.mem_range] at hj
      simp
      omega
    rw [e] at h0
    exact h0
theorem doc_val {l : List It} (h : docV l = true) : 0 < l.length ∧ l.length ≤ 200 ∧ Val (upV l) (elV l) l.length := by
  unfold docV at h
  simp only [Bool.and_eq_true, decide_eq_true_eq] at h
  obtain ⟨⟨h1, h2⟩, h3, h4⟩ := h
  refine ⟨by omega, h2, pos_val (fun j hj => ?_)⟩
  rw [allN_iff] at h3
  exact step_pos (h3 j (by omega) (by omega))
theorem seg_count : ∀ (l acc : List UInt8), (segs acc l).length ≤ l.length + 1
  | [], acc => by simp [segs]
  | b :: t, acc => by
    rw [segs]
    by_cases c : b = 47
    · rw [if_pos c, List.length_cons, List.length_cons]
      have := seg_count t []
      omega
    · rw [if_neg c, List.length_cons]
      have := seg_count t (acc ++ [b])
      omega
theorem steps_few (l : List UInt8) (hs : l.length ≤ 1048570) : (specSteps l).1.length ≤ 1048576 := by
  have hd : ∀ b : Bool, (if b = true then l.drop 2 else l).length ≤ l.length := by
    intro b
    cases b with
    | true => simp only [if_true, List.length_drop]; omega
    | false => exact Nat.le_refl _
  have hql := hd (deepS l)
  unfold specSteps
  generalize (if deepS l = true then l.drop 2 else l) = q at *
  unfold stepsV
  have := seg_count q []
  by_cases c : (segs [] q).all nameB = true
  · rw [if_pos c]
    simp only [List.nil_append, List.length_map]
    omega
  · rw [if_neg c]
    simp
/-! rows of places -/
def upTo (l : List It) (n : Int) (m : Nat) : List Nat := (List.range m).filter fun j => decide (upV l j = n)
def ints (L : List Nat) : List Int := L.map Int.ofNat
theorem filt_succ (p : Nat → Bool) (m : Nat) : (List.range (m + 1)).filter p = (List.range m).filter p ++ (if p m = true then [m] else []) := by
  rw [List.range_succ, List.filter_append]
  congr 1
  by_cases c : p m = true
  · simp [c]
  · simp [c]
theorem upTo_succ (l : List It) (n : Int) (m : Nat) : upTo l n (m + 1) = upTo l n m ++ (if upV l m = n then [m] else []) := by
  unfold upTo
  rw [filt_succ]
  simp only [decide_eq_true_eq]
theorem upTo_len (l : List It) (n : Int) (m : Nat) : (upTo l n m).length ≤ m := by
  have := List.length_filter_le (fun j => decide (upV l j = n)) (List.range m)
  rw [List.length_range] at this
  exact this
theorem upTo_zero {l : List It} (V : Val (upV l) (elV l) l.length) {n : Nat} (hn : n < l.length) : ∀ m, m ≤ n + 1 → upTo l (n : Int) m = []
  | 0, _ => rfl
  | m + 1, h => by
    rw [upTo_succ, upTo_zero V hn m (by omega), if_neg, List.append_nil]
    intro e
    by_cases c : m = 0
    · have := (V.1 (by omega)).1
      rw [c, this] at e
      omega
    · obtain ⟨q1, q2, q3⟩ := V.2 m (by omega) (by omega)
      omega
theorem ints_len (L : List Nat) : (ints L).length = L.length := by unfold ints; rw [List.length_map]
theorem ints_app (A B : List Nat) : ints (A ++ B) = ints A ++ ints B := by unfold ints; rw [List.map_append]
def hasV (l : List It) (n : Int) : Bool := decide (docV l = true ∧ 0 ≤ n ∧ n < l.length)
theorem in_doc {l : List It} (h : docV l = true) (n : Int) : inZ n 0 (wrap64 ((l.length : Int) - 1)) = hasV l n := by
  have hv := doc_val h
  have ew : wrap64 ((l.length : Int) - 1) = ((l.length - 1 : Nat) : Int) := by rw [w64] <;> omega
  rw [ew, Bool.eq_iff_iff]
  unfold inZ hasV
  simp only [Bool.and_eq_true, decide_eq_true_eq, h, true_and]
  omega
theorem impl_has_ev (l : List It) (n : Int) (hsm : smallD l) (hl : l.length ≤ 1048576) : Ev (fun k => impl_has.f k l n) (hasV l n) := by
  have hdoc := impl_doc l hsm hl
  refine Ev.congr (f := fun k => (impl_DocOk.f k l).bind fun t326 => (if t326 = true then ((impl_in.f n 0 (wrap64 ((l.length : Int) - 1))).bind fun t327 => (some t327)) else (some false))) (fun k => rfl) (Ev.bind hdoc ?_)
  cases hd : docV l with
  | false =>
    have e : hasV l n = false := by unfold hasV; rw [hd]; simp
    simp only [Bool.false_eq_true, if_false, e]
    exact Ev.now _
  | true =>
    simp only [if_true, impl_in', Option.bind_some, in_doc hd]
    exact Ev.now _
theorem spec_kd_l0 {l : List It} (hl : l.length ≤ 200) (t : Nat) : ∀ (n m : Nat), m + n = l.length → Ev (fun k => spec_l2Kids.l0 k l (t : Int) (ints (upTo l (t : Int) m)) (m : Int)) (ints (upTo l (t : Int) l.length)) := by
  intro n
  induction n with
  | zero =>
    intro m hm
    have e : m = l.length := by omega
    subst e
    refine Ev.step (f := fun _ => some (ints (upTo l (t : Int) l.length))) (fun k => ?_) (Ev.now _)
    conv => lhs; unfold spec_l2Kids.l0
    rw [if_neg (by omega)]
  | succ n ih =>
    intro m hm
    have hlt : m < l.length := by omega
    have hn := ih (m + 1) (by omega)
    rw [upTo_succ, upV_at hlt] at hn
    have hlen : (ints (upTo l (t : Int) m)).length < 17592186044416 := by
      rw [ints_len]
      have := upTo_len l (t : Int) m
      omega
    refine Ev.step (fun k => ?_) hn
    conv => lhs; unfold spec_l2Kids.l0
    rw [if_pos (by omega), if_pos (by omega), rdIt l m hlt, w1n hlt (by omega)]
    by_cases c : l[m].f0 = (t : Int)
    · rw [if_pos c, if_pos c, if_pos hlen, ints_app]
      rfl
    · rw [if_neg c, if_neg c, List.append_nil]
theorem spec_l2kids_ev {l : List It} (V : Val (upV l) (elV l) l.length) (hl : l.length ≤ 200) {t : Nat} (ht : t < l.length) : Ev (fun k => spec_l2Kids.f k l (t : Int)) (ints (upTo l (t : Int) l.length)) := by
  have := spec_kd_l0 hl t (l.length - (t + 1)) (t + 1) (by omega)
  rw [upTo_zero V ht (t + 1) (Nat.le_refl _)] at this
  refine Ev.congr (fun k => ?_) this
  unfold spec_l2Kids.f
  rw [w1n ht (by omega)]
  rfl
/-! texts -/
def txk (l : List It) (j : Nat) : List UInt8 := match l[j]? with | some x => x.f2.data.toList | none => []
theorem txk_at {l : List It} {j : Nat} (h : j < l.length) : txk l j = l[j].f2.data.toList := by
  unfold txk; rw [List.getElem?_eq_getElem h]
theorem txt_kids (l : List It) (n : Int) : ∀ m, m ≤ l.length → txtV (l.take m) n = (upTo l n m).flatMap (txk l)
  | 0, _ => by simp [txtV, upTo]
  | m + 1, h => by
    have hlt : m < l.length := by omega
    rw [txt_next hlt, txt_kids l n m (by omega), upTo_succ, List.flatMap_append, rdIt l m hlt, upV_at hlt]
    congr 1
    by_cases c : l[m].f0 = n
    · rw [if_pos c, if_pos c]
      simp [txk_at hlt]
    · rw [if_neg c, if_neg c]
      rfl
theorem txt_all (l : List It) (n : Int) : txtV l n = (upTo l n l.length).flatMap (txk l) := by
  have := txt_kids l n l.length (Nat.le_refl _)
  rwa [List.take_length] at this
theorem rdI (L : List Nat) (i : Nat) (h : i < L.length) : rd (ints L) (i : Int) = (L[i] : Int) := by
  have h2 : i < (L.map Int.ofNat).length := by rw [List.length_map]; exact h
  show rd (L.map Int.ofNat) (i : Int) = (L[i] : Int)
  rw [rdZ (L.map Int.ofNat) i h2, List.getElem_map]
  rfl
theorem spec_bt_l0 {l : List It} (ht : smallD l) (hl : l.length ≤ 200) (L : List Nat) (hL : L.length ≤ 200) (hin : ∀ j ∈ L, j < l.length) : ∀ (n i : Nat) (A : List UInt8), i + n = L.length → A.length ≤ 1048576 * i → Ev (fun k => spec_l2Text.l0 k l (mkB A) (ints L) (i : Int)) (mkB (A ++ (L.drop i).flatMap (txk l))) := by
  intro n
  induction n with
  | zero =>
    intro i A hi hA
    rw [List.drop_eq_nil_of_le (by omega)]
    simp only [List.flatMap_nil, List.append_nil]
    refine Ev.step (f := fun _ => some (mkB A)) (fun k => ?_) (Ev.now _)
    conv => lhs; unfold spec_l2Text.l0
    rw [if_neg (by rw [ints_len]; omega)]
  | succ n ih =>
    intro i A hi hA
    have hlt : i < L.length := by omega
    have hj := hin _ (List.getElem_mem hlt)
    have h64 : (l[L[i]].f2).size ≤ 1048576 := (ht _ (List.getElem_mem hj)).2.1
    have hb : mkB A ++ l[L[i]].f2 = mkB (A ++ txk l L[i]) := by
      apply ba_ext
      rw [mkB_list, txk_at hj]
      simp [mkB_list]
    have hn := ih (i + 1) (A ++ txk l L[i]) (by omega) (by rw [List.length_append, txk_at hj, ← sz]; omega)
    rw [List.append_assoc, ← List.flatMap_cons, ← List.drop_eq_getElem_cons hlt] at hn
    refine Ev.step (fun k => ?_) hn
    have hsz : (mkB A).size = A.length := by rw [sz, mkB_list]
    conv => lhs; unfold spec_l2Text.l0
    rw [if_pos (by rw [ints_len]; omega), if_pos (by omega), rdI L i hlt, if_pos (by omega), if_pos (by omega), rdIt l L[i] hj, if_pos (by omega), hb, w1n hlt (by omega)]
theorem upTo_in {l : List It} {n : Int} {m : Nat} : ∀ j ∈ upTo l n m, j < m ∧ upV l j = n := by
  intro j hj
  unfold upTo at hj
  rw [List.mem_filter, List.mem_range, decide_eq_true_eq] at hj
  exact hj
theorem txtV_len : ∀ (l : List It) (n : Int), smallD l → ((txtV l n).length : Int) ≤ bytesD l
  | [], n, _ => by simp [txtV, bytesD]
  | x :: l, n, h => by
    have h1 := txtV_len l n (fun y hy => h y (by simp [hy]))
    have h2 := bytesA_bound x.f3 (fun a ha => (h x (by simp)).2.2.2 a ha)
    have e : txtV (x :: l) n = (if x.f0 = n then x.f2.data.toList else []) ++ txtV l n := by simp [txtV]
    have h3 : ((if x.f0 = n then x.f2.data.toList else []).length : Int) ≤ (x.f2.size : Int) := by
      by_cases c : x.f0 = n
      · rw [if_pos c, sz]
        exact Int.le_refl _
      · rw [if_neg c]
        simp
    rw [e, List.length_append, bytesD]
    unfold bytesV
    omega
theorem txtV_doc {l : List It} (hd : docV l = true) (hsm : smallD l) (n : Int) : (txtV l n).length ≤ 2500 := by
  have h := txtV_len l n hsm
  unfold docV at hd
  simp only [Bool.and_eq_true, decide_eq_true_eq] at hd
  omega
theorem impl_txt {l : List It} (hd : docV l = true) (hsm : smallD l) (n : Int) : impl_textBelow.f l n = some (mkB (txtV l n)) := by
  have h := txtV_doc hd hsm n
  unfold impl_textBelow.f
  rw [if_pos (by omega)]
  rfl
theorem spec_txt {l : List It} (hd : docV l = true) (hsm : smallD l) {t : Nat} (ht : t < l.length) : Ev (fun k => spec_l2Text.f k l (t : Int)) (mkB (txtV l (t : Int))) := by
  obtain ⟨_, h2, V⟩ := doc_val hd
  have hk := spec_l2kids_ev V h2 ht
  have hu := upTo_len l (t : Int) l.length
  have hx := spec_bt_l0 hsm h2 (upTo l (t : Int) l.length) (by omega) (fun j hj => (upTo_in j hj).1) (upTo l (t : Int) l.length).length 0 [] (by omega) (by simp)
  rw [List.drop_zero, List.nil_append, ← txt_all] at hx
  exact Ev.congr (f := fun k => (spec_l2Kids.f k l (t : Int)).bind fun t272 => (spec_l2Text.l0 k l (⟨#[]⟩ : ByteArray) t272 0)) (fun k => rfl) (Ev.bind hk hx)
theorem impl_elem (l : List It) (n : Int) (hsm : smallD l) (hl : l.length ≤ 1048576) : Ev (fun k => impl_isElement.f k l n) (decide (docV l = true ∧ 0 ≤ n ∧ n < l.length ∧ elV l n.toNat = true)) := by
  refine Ev.congr (f := fun k => (impl_has.f k l n).bind fun t411 => (if t411 = true then (if 0 ≤ n then (if n < (l.length : Int) then (some (((rd_T65 l n).f1).toList != ([] : List UInt8))) else (none)) else (none)) else (some false))) (fun k => rfl) (Ev.bind (impl_has_ev l n hsm hl) ?_)
  by_cases c : docV l = true ∧ 0 ≤ n ∧ n < l.length
  · have e : hasV l n = true := decide_eq_true c
    obtain ⟨t, rfl⟩ : ∃ t : Nat, n = (t : Int) := ⟨n.toNat, by omega⟩
    have htl : t < l.length := by omega
    simp only [e, if_true, if_pos c.2.1, if_pos c.2.2, rdIt l t htl]
    have e2 : (l[t].f1.toList != ([] : List UInt8)) = decide (docV l = true ∧ 0 ≤ (t : Int) ∧ (t : Int) < l.length ∧ elV l (t : Int).toNat = true) := by
      rw [Bool.eq_iff_iff, bne_iff_ne, decide_eq_true_eq, Int.toNat_natCast, el_yes htl]
      exact ⟨fun h => ⟨c.1, c.2.1, c.2.2, h⟩, fun h => h.2.2.2⟩
    rw [e2]
    exact Ev.now _
  · have e : hasV l n = false := decide_eq_false c
    simp only [e, Bool.false_eq_true, if_false]
    rw [decide_eq_false (fun h => c ⟨h.1, h.2.1, h.2.2.1⟩)]
    exact Ev.now _
end Go.Proofs.YtpmjpbaeecnpiaaGreatDoor.Pure

namespace Go.Proofs.YtpmjpbaeecnpiaaGreatDoor.Pure
open Go.RowKit Go.Proofs.YtpmjpbaeecnpiaaGreatDoor.L Go.Proofs.YtpmjpbaeecnpiaaGreatDoorW.PrintWords Go.Proofs.YtpmjpbaeecnpiaaGreatDoorW.PrintLast Go.Proofs.YtpmjpbaeecnpiaaGreatDoorW.PrintMore
set_option linter.unusedVariables false
set_option linter.unusedSimpArgs false

/-- The place of the last sign @ (64) from place i on, acc if there is none. -/
def lastI (acc : Int) (i : Nat) : List UInt8 → Int
  | [] => acc
  | b :: t => lastI (if b = 64 then (i : Int) else acc) (i + 1) t
theorem lastI_none : ∀ (l : List UInt8) (acc : Int) (i : Nat), 64 ∉ l → lastI acc i l = acc
  | [], _, _, _ => rfl
  | b :: t, acc, i, h => by
    have hb : b ≠ 64 := fun e => h (by simp [e])
    rw [lastI, if_neg hb, lastI_none t acc (i + 1) fun e => h (by simp [e])]
theorem lastI_some : ∀ (l : List UInt8) (acc : Int) (i : Nat), 64 ∈ l → ∃ u v, l = u ++ 64 :: v ∧ 64 ∉ v ∧ lastI acc i l = ((i + u.length : Nat) : Int)
  | [], _, _, h => by cases h
  | b :: t, acc, i, h => by
    by_cases c : 64 ∈ t
    · obtain ⟨u, v, e, hv, hl⟩ := lastI_some t (if b = 64 then (i : Int) else acc) (i + 1) c
      refine ⟨b :: u, v, by rw [e]; rfl, hv, ?_⟩
      rw [lastI, hl]
      simp only [List.length_cons]
      omega
    · have hb : b = 64 := by
        rcases List.mem_cons.1 h with e | e
        · exact e.symm
        · exact absurd e c
      subst hb
      refine ⟨[], t, rfl, c, ?_⟩
      rw [lastI, if_pos rfl, lastI_none t _ _ c]
      simp
def okS (l : List UInt8) : Bool := (specSteps l).2.2 && !(specSteps l).2.1
/-- What stands ahead of the sign, and behind it. -/
def tailS (u v : List UInt8) : Bool := nameB v && (decide (u = []) || (decide (u.getLast? = some 47) && okS u.dropLast))
theorem nameB_all (l : List UInt8) (h : nameB l = true) : ∀ b ∈ l, moreB b = true := by
  cases l with
  | nil => intro b hb; cases hb
  | cons c t =>
    simp only [nameB, Bool.and_eq_true, List.all_eq_true] at h
    intro b hb
    rcases List.mem_cons.1 hb with e | e
    · subst e; exact fst_more _ h.1.1
    · exact h.1.2 b e
theorem not_more64 : moreB 64 = false := by decide
theorem nameB_no64 (l : List UInt8) (h : 64 ∈ l) : nameB l = false := by
  cases c : nameB l with
  | false => rfl
  | true =>
    have := nameB_all l c 64 h
    rw [not_more64] at this
    cases this
theorem segs_mem : ∀ (l acc : List UInt8), 64 ∈ acc ∨ 64 ∈ l → ∃ x ∈ segs acc l, 64 ∈ x
  | [], acc, h => by
    rcases h with h | h
    · exact ⟨acc, by simp [segs], h⟩
    · cases h
  | b :: t, acc, h => by
    rw [segs]
    by_cases c : b = 47
    · rw [if_pos c]
      rcases h with h | h
      · exact ⟨acc, by simp, h⟩
      · have ht : 64 ∈ t := by
          rcases List.mem_cons.1 h with e | e
          · rw [c] at e; exact absurd e (by decide)
          · exact e
        obtain ⟨x, hx, h64⟩ := segs_mem t [] (.inr ht)
        exact ⟨x, by simp [hx], h64⟩
    · rw [if_neg c]
      refine segs_mem t (acc ++ [b]) ?_
      rcases h with h | h
      · exact .inl (by simp [h])
      · rcases List.mem_cons.1 h with e | e
        · exact .inl (by simp [e])
        · exact .inr e
theorem okS_no64 (l : List UInt8) (h : 64 ∈ l) : okS l = false := by
  unfold okS specSteps stepsV
  have h2 : 64 ∈ (if deepS l = true then l.drop 2 else l) := by
    split
    · rename_i hd
      unfold deepS at hd
      simp only [Bool.and_eq_true] at hd
      match l, hd.2, h with
      | a :: b :: t, hd2, h =>
        simp only [twoB, Bool.and_eq_true, decide_eq_true_eq] at hd2
        rw [hd2.1, hd2.2] at h
        simpa using h
    · exact h
  obtain ⟨x, hx, h64⟩ := segs_mem _ [] (.inr h2)
  have : ((segs [] (if deepS l = true then l.drop 2 else l)).all nameB) = false := by
    rw [List.all_eq_false]
    exact ⟨x, hx, by rw [nameB_no64 x h64]; decide⟩
  rw [if_neg (by rw [this]; decide)]
  rfl
/-- What the reference says of a field. -/
def fieldS (l : List UInt8) : Bool :=
  if l = [46] then true
  else if 64 ∈ l then (match lastI (-1) 0 l with | (n : Int) => tailS (l.take n.toNat) (l.drop (n.toNat + 1)))
  else okS l
theorem b64 (b : UInt8) : ((b.toNat : Int) = 64) ↔ b = 64 := byte_is b 64 (by decide)
theorem take_last {u v : List UInt8} {c : UInt8} (n : Nat) (h : (u ++ c :: v)[n]? = some 47) (hn : n + 1 = u.length) : u.getLast? = some 47 := by
  rw [List.getLast?_eq_getElem?]
  rw [List.getElem?_append_left (by omega)] at h
  have : u.length - 1 = n := by omega
  rw [this]; exact h
theorem spec_field_l0 (s : ByteArray) (hs : s.data.toList.length ≤ 1048576) (r : ByteArray × ByteArray × Bool) : ∀ (n i : Nat) (acc : Int), i + n = s.data.toList.length →
    Ev (fun k => spec_l11Field.l0 k s (lastI acc i (s.data.toList.drop i)) ((s.data.toList.length : Nat) : Int)) r → Ev (fun k => spec_l11Field.l0 k s acc (i : Int)) r := by
  intro n
  induction n with
  | zero =>
    intro i acc hi h
    rw [List.drop_of_length_le (by omega)] at h
    have : i = s.data.toList.length := by omega
    rw [this]
    exact h
  | succ n ih =>
    intro i acc hi h
    have hlt : i < s.data.toList.length := by omega
    have hd : s.data.toList.drop i = s.data.toList[i] :: s.data.toList.drop (i + 1) := List.drop_eq_getElem_cons hlt
    have w : wrap64 ((i : Int) + 1) = ((i + 1 : Nat) : Int) := by rw [w64] <;> omega
    rw [hd, lastI] at h
    refine Ev.step (f := fun k => spec_l11Field.l0 k s (if s.data.toList[i] = 64 then (i : Int) else acc) ((i + 1 : Nat) : Int)) (fun k => ?_) (ih (i + 1) _ (by omega) h)
    conv => lhs; unfold spec_l11Field.l0
    rw [if_pos (by rw [sz]; omega), if_pos (by omega), bt_nat s i hlt, w]
    by_cases c : s.data.toList[i] = 64
    · rw [if_pos ((b64 _).2 c), if_pos c]
    · rw [if_neg (fun h => c ((b64 _).1 h)), if_neg c]
/-- What the program says of a field. -/
def fieldB (l : List UInt8) : Bool := decide (l.length ≤ 20000) && fieldS l
theorem two_split {p q u v : List UInt8} (h : p ++ 64 :: q = u ++ 64 :: v) (hp : 64 ∉ p) (hv : 64 ∉ v) : (p = u ∧ q = v) ∨ (64 ∈ q ∧ 64 ∈ u.dropLast ∧ u ≠ [] ) ∨ (64 ∈ q ∧ u ≠ [] ∧ u.getLast? = some 64) := by
  rcases List.append_eq_append_iff.1 h with ⟨a, h1, h2⟩ | ⟨a, h1, h2⟩
  · cases a with
    | nil =>
      simp at h1 h2
      exact .inl ⟨h1.symm, h2⟩
    | cons c a =>
      simp only [List.cons_append, List.cons.injEq] at h2
      obtain ⟨rfl, h2⟩ := h2
      have hq : 64 ∈ q := by rw [h2]; simp
      have hu : u ≠ [] := by rw [h1]; simp
      cases a with
      | nil => exact .inr (.inr ⟨hq, hu, by rw [h1]; simp⟩)
      | cons d a =>
        refine .inr (.inl ⟨hq, ?_, hu⟩)
        rw [h1, List.dropLast_append_of_ne_nil (by simp)]
        rw [List.dropLast_cons_of_ne_nil (by simp)]
        simp
  · cases a with
    | nil =>
      simp at h1 h2
      exact .inl ⟨h1, h2.symm⟩
    | cons c a =>
      exfalso
      simp only [List.cons_append, List.cons.injEq] at h2
      obtain ⟨rfl, h2⟩ := h2
      exact hp (by rw [h1]; simp)
theorem tail_alike {p q u v : List UInt8} (h : p ++ 64 :: q = u ++ 64 :: v) (hp : 64 ∉ p) (hv : 64 ∉ v) : tailS p q = tailS u v := by
  rcases two_split h hp hv with ⟨rfl, rfl⟩ | ⟨hq, hu, hne⟩ | ⟨hq, hne, hl⟩
  · rfl
  · unfold tailS
    rw [nameB_no64 q hq, okS_no64 _ hu, decide_eq_false hne]
    simp
  · unfold tailS
    rw [nameB_no64 q hq, decide_eq_false hne, hl]
    simp
theorem first_split (l : List UInt8) (i : Nat) (h : Lib.indexByte l 64 = (i : Int)) : l = l.take i ++ 64 :: l.drop (i + 1) ∧ 64 ∉ l.take i := by
  obtain ⟨h1, h2⟩ := Lib.indexByte_some h
  obtain ⟨hlt, hv⟩ := List.getElem?_eq_some_iff.1 h1
  refine ⟨?_, fun hm => ?_⟩
  · conv => lhs; rw [← List.take_append_drop i l, List.drop_eq_getElem_cons hlt, hv]
  · obtain ⟨j, hj⟩ := List.getElem?_of_mem hm
    have hjl := (List.getElem?_eq_some_iff.1 hj).1
    simp only [List.length_take] at hjl
    rw [List.getElem?_take_of_lt (by omega)] at hj
    exact h2 j (by omega) hj
theorem fieldS_first (l : List UInt8) (i : Nat) (hne : l ≠ [46]) (h : Lib.indexByte l 64 = (i : Int)) : fieldS l = tailS (l.take i) (l.drop (i + 1)) := by
  obtain ⟨e, hp⟩ := first_split l i h
  have h64 : 64 ∈ l := by rw [e]; simp
  obtain ⟨u, v, e2, hv, hl⟩ := lastI_some l (-1) 0 h64
  unfold fieldS
  rw [if_neg hne, if_pos h64, hl]
  simp only [Nat.zero_add, Int.toNat_natCast]
  have : l.take u.length = u ∧ l.drop (u.length + 1) = v := by rw [e2]; simp
  rw [this.1, this.2]
  exact (tail_alike (by rw [← e, e2]) hp hv).symm
theorem steps_okS (s : ByteArray) (h : s.data.toList.length ≤ 20000) : ((implSteps s).2.2 && !(implSteps s).2.1) = okS s.data.toList := by
  obtain ⟨h1, h2⟩ := steps_alike s
  have e : pathB s.data.toList = (specSteps s.data.toList).2.2 := by unfold pathB; rw [decide_eq_true h, Bool.and_true]
  unfold okS
  rw [h1, e]
  cases hp : (specSteps s.data.toList).2.2 with
  | true =>
    rw [(h2 (by rw [e, hp])).2]
  | false => rfl
theorem cut_suffix (s : ByteArray) (hs : s.data.toList.length ≤ 1048576) : strings_CutSuffix.f s ⟨#[47]⟩ = some (if s.data.toList.getLast? = some 47 then (s.extract 0 (s.data.toList.length - 1), true) else (s, false)) := by
  have e2 : (((⟨#[47]⟩ : ByteArray).size : Nat) : Int) = 1 := rfl
  have e3 : (⟨#[47]⟩ : ByteArray).toList = [47] := by rw [Lib.toList_data]
  unfold strings_CutSuffix.f stringslite_CutSuffix.f stringslite_HasSuffix.f
  rw [e2, e3]
  by_cases c : 1 ≤ s.data.toList.length
  · have w : wrap64 ((s.size : Int) - 1) = ((s.data.toList.length - 1 : Nat) : Int) := by rw [sz, w64] <;> omega
    rw [w, if_pos (by rw [sz]; omega), if_pos (by omega), if_pos (by rw [sz]; omega)]
    have hlt : s.data.toList.length - 1 < s.data.toList.length := by omega
    have e4 : (s.extract (((s.data.toList.length - 1 : Nat) : Int)).toNat s.size).toList = [s.data.toList[s.data.toList.length - 1]] := by
      rw [Lib.toList_data, Int.toNat_natCast, Lib.extract_to_end, List.drop_eq_getElem_cons hlt, List.drop_of_length_le (by omega)]
    have hg : s.data.toList.getLast? = some (s.data.toList[s.data.toList.length - 1]) := by
      rw [List.getLast?_eq_getElem?, List.getElem?_eq_getElem hlt]
    rw [e4, hg]
    simp only [Option.bind_some]
    by_cases h47 : s.data.toList[s.data.toList.length - 1] = 47
    · rw [h47]
      simp only [beq_self_eq_true, if_true]
      rw [if_pos (by omega), if_pos (by rw [sz]; omega)]
      rfl
    · rw [if_neg (by simpa using h47), if_neg (by simpa using h47)]
      rfl
  · have hl : s.data.toList = [] := List.length_eq_zero_iff.1 (by omega)
    rw [if_neg (by rw [sz]; omega), hl]
    rfl
theorem j0_eq (k : Nat) (x0 x5 x6 : ByteArray) (x7 x19 : Bool) : impl_fieldParts.j0 (k + 1) x0 x5 x6 x7 x19 = (if x19 = true then (some (([] : List ByteArray), (⟨#[]⟩ : ByteArray), false)) else (if x0.toList = ([46] : List UInt8) then (impl_fieldParts.j1 k x5 x6 x7 true) else (if x7 = true then (impl_fieldParts.j1 k x5 x6 x7 (x5.toList == ([] : List UInt8))) else (impl_fieldParts.j1 k x5 x6 x7 false)))) := rfl
theorem j1_eq (k : Nat) (x5 x6 : ByteArray) (x7 x31 : Bool) : impl_fieldParts.j1 (k + 1) x5 x6 x7 x31 = (if x31 = true then (some (([] : List ByteArray), x6, true)) else (if x7 = true then ((strings_CutSuffix.f x5 (⟨#[47]⟩ : ByteArray)).bind fun bt191 => (if bt191.2 = true then ((impl_stepsOf.f k bt191.1).bind fun bt193 => (if bt193.2.2 = true then (some (bt193.1, x6, !bt193.2.1)) else (some (bt193.1, x6, false)))) else (some (([] : List ByteArray), (⟨#[]⟩ : ByteArray), false)))) else ((impl_stepsOf.f k x5).bind fun bt198 => (if bt198.2.2 = true then (some (bt198.1, x6, !bt198.2.1)) else (some (bt198.1, x6, false)))))) := rfl
/-- What the reference tells of a right field. -/
def FieldIs (l : List UInt8) (up nm : ByteArray) : Prop :=
  (l = [46] ∧ up = ⟨#[]⟩ ∧ nm = ⟨#[]⟩) ∨
  (∃ u v, l = u ++ 64 :: v ∧ 64 ∉ v ∧ nm.data.toList = v ∧ nameB v = true ∧ ((u = [] ∧ up = ⟨#[]⟩) ∨ (u ≠ [] ∧ u.getLast? = some 47 ∧ up.data.toList = u.dropLast ∧ okS u.dropLast = true))) ∨
  (64 ∉ l ∧ l ≠ [46] ∧ up.data.toList = l ∧ nm = ⟨#[]⟩ ∧ okS l = true)
/-- What the program tells of a right field. -/
def FieldIm (l : List UInt8) (names : List ByteArray) (nm : ByteArray) : Prop :=
  (l = [46] ∧ names = [] ∧ nm = ⟨#[]⟩) ∨
  (∃ u v, l = u ++ 64 :: v ∧ nm.data.toList = v ∧ nameB v = true ∧ ((u = [] ∧ names = []) ∨ (u ≠ [] ∧ okS u.dropLast = true ∧ names = (specSteps u.dropLast).1))) ∨
  (64 ∉ l ∧ l ≠ [46] ∧ nm = ⟨#[]⟩ ∧ okS l = true ∧ names = (specSteps l).1)
theorem steps_same (d : ByteArray) (l : List UInt8) (e : d.data.toList = l) (h : ((implSteps d).2.2 && !(implSteps d).2.1) = true) : (implSteps d).1 = (specSteps l).1 := by
  subst e
  rw [Bool.and_eq_true] at h
  obtain ⟨q1, q2⟩ := steps_alike d
  exact (q2 (by rw [← q1]; exact h.1)).1
theorem spec_fieldF_end (s : ByteArray) (hs : s.data.toList.length ≤ 1048576) (hne : s.data.toList ≠ [46]) (i : Nat) (hi : s.data.toList.length ≤ i) :
    ∃ r, Ev (fun k => spec_l11Field.l0 k s (lastI (-1) 0 s.data.toList) (i : Int)) r ∧ r.2.2 = fieldS s.data.toList ∧ (r.2.2 = true → FieldIs s.data.toList r.1 r.2.1) := by
  by_cases h64 : 64 ∈ s.data.toList
  · obtain ⟨u, v, e, hv, hl⟩ := lastI_some s.data.toList (-1) 0 h64
    have hf : fieldS s.data.toList = tailS u v := by
      unfold fieldS
      rw [if_neg hne, if_pos h64, hl]
      simp only [Nat.zero_add, Int.toNat_natCast]
      rw [e]
      simp
    rw [Nat.zero_add] at hl
    have hlen : s.data.toList.length = u.length + (v.length + 1) := by rw [e]; simp
    have w1 : wrap64 ((u.length : Int) + 1) = ((u.length + 1 : Nat) : Int) := by rw [w64] <;> omega
    have e1 : (s.extract (u.length + 1) s.size).data.toList = v := by
      rw [Lib.extract_to_end, e]
      simp
    rw [hl, hf]
    have hname := spec_name (s.extract (u.length + 1) s.size)
    rw [e1] at hname
    by_cases hn : nameB v = true
    · by_cases hu : u = []
      · subst hu
        refine ⟨((⟨#[]⟩ : ByteArray), s.extract (0 + 1) s.size, true), ?_, by unfold tailS; rw [hn]; rfl, fun _ => .inr (.inl ⟨[], v, e, hv, e1, hn, .inl ⟨rfl, rfl⟩⟩)⟩
        refine Ev.step (f := fun k => (spec_NameOk.f k (s.extract (0 + 1) s.size)).bind fun t => if t = true then some ((⟨#[]⟩ : ByteArray), s.extract (0 + 1) s.size, true) else some ((⟨#[]⟩ : ByteArray), (⟨#[]⟩ : ByteArray), false)) (fun k => ?_) ?_
        · conv => lhs; unfold spec_l11Field.l0
          rw [if_neg (by rw [sz]; omega), if_neg (by omega), w1, if_pos (by omega), if_pos (by rw [sz]; omega)]
          rfl
        · refine Ev.bind hname ?_
          rw [hn]
          exact Ev.now _
      · have hup : 0 < u.length := List.length_pos_iff.2 hu
        have w2 : wrap64 ((u.length : Int) - 1) = ((u.length - 1 : Nat) : Int) := by rw [w64] <;> omega
        have hlt : u.length - 1 < s.data.toList.length := by omega
        have hbt := bt_nat s (u.length - 1) hlt
        have hg : s.data.toList[u.length - 1]? = some (s.data.toList[u.length - 1]) := List.getElem?_eq_getElem hlt
        by_cases h47 : s.data.toList[u.length - 1] = 47
        · have hlast : u.getLast? = some 47 := by
            refine take_last (u := u) (v := v) (c := 64) (u.length - 1) ?_ (by omega)
            rw [← e, hg, h47]
          have e2 : (s.extract 0 (u.length - 1)).data.toList = u.dropLast := by
            rw [ex_take, e, List.take_append_of_le_length (by omega), List.dropLast_eq_take]
          have hst := spec_steps (s.extract 0 (u.length - 1)) (by rw [e2, List.length_dropLast]; omega)
          rw [e2] at hst
          have ht : tailS u v = okS u.dropLast := by
            unfold tailS
            rw [hn, decide_eq_false hu, decide_eq_true hlast]
            rfl
          rw [ht]
          refine ⟨(s.extract 0 (u.length - 1), s.extract (u.length + 1) s.size, okS u.dropLast), ?_, rfl, fun h => .inr (.inl ⟨u, v, e, hv, e1, hn, .inr ⟨hu, hlast, e2, h⟩⟩)⟩
          refine Ev.step (f := fun k => (spec_NameOk.f k (s.extract (u.length + 1) s.size)).bind fun t => if t = true then ((spec_l11Steps.f k (s.extract 0 (u.length - 1))).bind fun bt139 => (if bt139.2.2 = true then (some (s.extract 0 (u.length - 1), s.extract (u.length + 1) s.size, !bt139.2.1)) else (some (s.extract 0 (u.length - 1), s.extract (u.length + 1) s.size, false)))) else some ((⟨#[]⟩ : ByteArray), (⟨#[]⟩ : ByteArray), false)) (fun k => ?_) ?_
          · conv => lhs; unfold spec_l11Field.l0
            rw [if_neg (by rw [sz]; omega), if_neg (by omega), w1, if_pos (by omega), if_pos (by rw [sz]; omega), w2, if_neg (by omega), if_pos (by omega), if_pos (by rw [sz]; omega), hbt, if_pos (by rw [h47]; rfl), if_pos (by rw [sz]; omega)]
            rfl
          · refine Ev.bind hname ?_
            rw [hn]
            simp only [if_true]
            refine Ev.bind hst ?_
            unfold okS
            cases (specSteps u.dropLast).2.2 with
            | true => exact Ev.now _
            | false => exact Ev.now _
        · have h47' : ¬ ((s.data.toList[u.length - 1].toNat : Int) = 47) := fun h => h47 ((byte_is _ 47 (by decide)).1 h)
          have hlast : u.getLast? ≠ some 47 := by
            intro h
            rw [List.getLast?_eq_getElem?] at h
            apply h47
            have : s.data.toList[u.length - 1]? = some 47 := by
              rw [e, List.getElem?_append_left (by omega)]; exact h
            rw [hg] at this
            exact Option.some.inj this
          have ht : tailS u v = false := by
            unfold tailS
            rw [decide_eq_false hu, decide_eq_false hlast]
            simp
          rw [ht]
          refine ⟨((⟨#[]⟩ : ByteArray), (⟨#[]⟩ : ByteArray), false), ?_, rfl, fun h => by cases h⟩
          refine Ev.step (f := fun k => (spec_NameOk.f k (s.extract (u.length + 1) s.size)).bind fun t => if t = true then some ((⟨#[]⟩ : ByteArray), (⟨#[]⟩ : ByteArray), false) else some ((⟨#[]⟩ : ByteArray), (⟨#[]⟩ : ByteArray), false)) (fun k => ?_) ?_
          · conv => lhs; unfold spec_l11Field.l0
            rw [if_neg (by rw [sz]; omega), if_neg (by omega), w1, if_pos (by omega), if_pos (by rw [sz]; omega), w2, if_neg (by omega), if_pos (by omega), if_pos (by rw [sz]; omega), hbt, if_neg h47']
            rfl
          · refine Ev.bind hname ?_
            rw [hn]
            exact Ev.now _
    · rw [Bool.not_eq_true] at hn
      have ht : tailS u v = false := by unfold tailS; rw [hn]; rfl
      rw [ht]
      refine ⟨((⟨#[]⟩ : ByteArray), (⟨#[]⟩ : ByteArray), false), ?_, rfl, fun h => by cases h⟩
      obtain ⟨K, hK⟩ := hname
      refine ⟨K + 1, fun k hk => ?_⟩
      obtain ⟨m, rfl⟩ : ∃ m, k = m + 1 := ⟨k - 1, by omega⟩
      show spec_l11Field.l0 (m + 1) s (u.length : Int) (i : Int) = _
      conv => lhs; unfold spec_l11Field.l0
      rw [if_neg (by rw [sz]; omega), if_neg (by omega), w1, if_pos (by omega), if_pos (by rw [sz]; omega)]
      have e3 : (((u.length + 1 : Nat) : Int)).toNat = u.length + 1 := by omega
      have hK' : spec_NameOk.f m (s.extract (u.length + 1) s.size) = some (nameB v) := hK m (by omega)
      rw [e3, hK', hn]
      rfl
  · have hl := lastI_none s.data.toList (-1) 0 h64
    have hf : fieldS s.data.toList = okS s.data.toList := by
      unfold fieldS
      rw [if_neg hne, if_neg h64]
    rw [hl, hf]
    refine ⟨(s, (⟨#[]⟩ : ByteArray), okS s.data.toList), ?_, rfl, fun h => .inr (.inr ⟨h64, hne, rfl, rfl, h⟩)⟩
    refine Ev.step (f := fun k => (spec_l11Steps.f k s).bind fun bt133 => (if bt133.2.2 = true then (some (s, (⟨#[]⟩ : ByteArray), !bt133.2.1)) else (some (s, (⟨#[]⟩ : ByteArray), false)))) (fun k => ?_) ?_
    · conv => lhs; unfold spec_l11Field.l0
      rw [if_neg (by rw [sz]; omega), if_pos (by decide)]
    · refine Ev.bind (spec_steps s hs) ?_
      unfold okS
      cases (specSteps s.data.toList).2.2 with
      | true => exact Ev.now _
      | false => exact Ev.now _
theorem spec_fieldF (s : ByteArray) (hs : s.data.toList.length ≤ 1048576) : ∃ r, Ev (fun k => spec_l11Field.f k s) r ∧ r.2.2 = fieldS s.data.toList ∧ (r.2.2 = true → FieldIs s.data.toList r.1 r.2.1) := by
  by_cases hne : s.data.toList = [46]
  · refine ⟨((⟨#[]⟩ : ByteArray), (⟨#[]⟩ : ByteArray), true), ?_, by unfold fieldS; rw [if_pos hne], fun _ => .inl ⟨hne, rfl, rfl⟩⟩
    refine Ev.congr (f := fun _ => some ((⟨#[]⟩ : ByteArray), (⟨#[]⟩ : ByteArray), true)) (fun k => ?_) (Ev.now _)
    unfold spec_l11Field.f
    rw [Lib.toList_data, if_pos hne]
  · obtain ⟨r, hr, hv, hF⟩ := spec_fieldF_end s hs hne s.data.toList.length (Nat.le_refl _)
    refine ⟨r, ?_, hv, hF⟩
    refine Ev.congr (f := fun k => spec_l11Field.l0 k s (-1) ((0 : Nat) : Int)) (fun k => ?_) ?_
    · unfold spec_l11Field.f
      rw [Lib.toList_data, if_neg hne]
      rfl
    · exact spec_field_l0 s hs r s.data.toList.length 0 (-1) (by omega) (by simpa using hr)
theorem impl_fieldF (s : ByteArray) (hs : s.data.toList.length ≤ 1048576) : ∃ r, Ev (fun k => impl_fieldParts.f k s) r ∧ r.2.2 = fieldB s.data.toList ∧ (r.2.2 = true → FieldIm s.data.toList r.1 r.2.1) := by
  have hsz : s.size ≤ 9223372036854775807 := by rw [sz]; omega
  obtain ⟨c1, c2, c3, hcut, hw⟩ : ∃ c1 c2 c3, strings_Cut.f s ⟨#[64]⟩ = some (c1, c2, c3) ∧
      ((c3 = true ∧ ∃ i : Nat, Lib.indexByte s.data.toList 64 = (i : Int) ∧ c1.data.toList = s.data.toList.take i ∧ c2.data.toList = s.data.toList.drop (i + 1)) ∨ (c3 = false ∧ c1 = s ∧ c2 = ⟨#[]⟩ ∧ 64 ∉ s.data.toList)) := by
    unfold strings_Cut.f
    simp only [if_pos hsz]
    by_cases h0 : 0 ≤ Lib.indexByte s.data.toList 64
    · obtain ⟨i, hi⟩ := Int.eq_ofNat_of_zero_le h0
      rw [if_pos h0]
      refine ⟨_, _, _, rfl, .inl ⟨rfl, i, hi, ?_, ?_⟩⟩
      · rw [hi, Int.toNat_natCast, ex_take]
      · rw [hi, Int.toNat_natCast, Lib.extract_to_end]
    · rw [if_neg h0]
      refine ⟨_, _, _, rfl, .inr ⟨rfl, rfl, rfl, fun hm => ?_⟩⟩
      have := Lib.indexByte_none (l := s.data.toList) (c := 64) (by have := Lib.indexByte_ge s.data.toList 64; omega)
      obtain ⟨j, hj⟩ := List.getElem?_of_mem hm
      exact this j hj
  have hbad : ∀ (b1 b2 : ByteArray) (b3 : Bool), Ev (fun k => impl_fieldParts.j0 k s b1 b2 b3 true) (([] : List ByteArray), (⟨#[]⟩ : ByteArray), false) := by
    intro b1 b2 b3
    refine Ev.step (f := fun _ => some (([] : List ByteArray), (⟨#[]⟩ : ByteArray), false)) (fun k => ?_) (Ev.now _)
    rfl
  by_cases hbig : 20000 < s.data.toList.length
  · refine ⟨([], ⟨#[]⟩, false), ?_, by unfold fieldB; rw [decide_eq_false (by omega)]; rfl, fun h => by cases h⟩
    refine Ev.congr (f := fun k => impl_fieldParts.j0 k s c1 c2 c3 true) (fun k => ?_) (hbad _ _ _)
    unfold impl_fieldParts.f
    rw [hcut]
    simp only [Option.bind_some]
    rw [if_pos (by rw [sz]; omega)]
  · have hB : fieldB s.data.toList = fieldS s.data.toList := by unfold fieldB; rw [decide_eq_true (by omega), Bool.true_and]
    rw [hB]
    rcases hw with ⟨rfl, i, hi, e1, e2⟩ | ⟨hc3, hc1, hc2, h64⟩
    · have hname := impl_name c2 (by rw [e2, List.length_drop]; omega)
      rw [e2] at hname
      have hhead : ∀ b : Bool, nameB (s.data.toList.drop (i + 1)) = b → ∀ r, Ev (fun k => impl_fieldParts.j0 k s c1 c2 true (!b)) r → Ev (fun k => impl_fieldParts.f k s) r := by
        intro b hb r hr
        refine Ev.congr (f := fun k => (impl_NameOk.f k c2).bind fun t190 => (impl_fieldParts.j0 k s c1 c2 true (!t190))) (fun k => ?_) ?_
        · unfold impl_fieldParts.f
          rw [hcut]
          simp only [Option.bind_some]
          rw [if_neg (by rw [sz]; omega), if_pos trivial]
        · refine Ev.bind hname ?_
          rw [hb]
          exact hr
      have hne : s.data.toList ≠ [46] := by
        intro e
        rw [e] at hi
        have : Lib.indexByte [46] 64 = -1 := by decide
        rw [this] at hi
        omega
      have hfs := fieldS_first s.data.toList i hne hi
      rw [hfs]
      by_cases hn : nameB (s.data.toList.drop (i + 1)) = true
      · have hj0 : ∀ r, Ev (fun k => impl_fieldParts.j1 k c1 c2 true (c1.toList == ([] : List UInt8))) r → Ev (fun k => impl_fieldParts.f k s) r := by
          intro r hr
          refine hhead true hn r ?_
          refine Ev.step (f := fun k => impl_fieldParts.j1 k c1 c2 true (c1.toList == ([] : List UInt8))) (fun k => ?_) hr
          rw [j0_eq, if_neg (by decide), Lib.toList_data s, if_neg hne, if_pos rfl]
        rw [Lib.toList_data, e1] at hj0
        by_cases hp : s.data.toList.take i = []
        · refine ⟨([], c2, true), hj0 _ ?_, by unfold tailS; rw [hn, hp]; rfl, fun _ => .inr (.inl ⟨_, _, (first_split _ i hi).1, e2, hn, .inl ⟨hp, rfl⟩⟩)⟩
          rw [hp]
          refine Ev.step (f := fun _ => some (([] : List ByteArray), c2, true)) (fun k => ?_) (Ev.now _)
          rfl
        · have hsuf := cut_suffix c1 (by rw [e1, List.length_take]; omega)
          rw [e1] at hsuf
          have hpb : (s.data.toList.take i == ([] : List UInt8)) = false := by simpa using hp
          rw [hpb] at hj0
          by_cases hl : (s.data.toList.take i).getLast? = some 47
          · rw [if_pos hl] at hsuf
            obtain ⟨d, hd⟩ : ∃ d, c1.extract 0 ((s.data.toList.take i).length - 1) = d := ⟨_, rfl⟩
            have ed : d.data.toList = (s.data.toList.take i).dropLast := by
              rw [← hd, ex_take, e1, List.dropLast_eq_take]
            rw [hd] at hsuf
            have hdl : d.data.toList.length ≤ 20000 := by rw [ed, List.length_dropLast, List.length_take]; omega
            have hst := impl_steps d (by omega)
            have hok := steps_okS d hdl
            rw [ed] at hok
            have ht : tailS (s.data.toList.take i) (s.data.toList.drop (i + 1)) = okS (s.data.toList.take i).dropLast := by
              unfold tailS
              rw [hn, decide_eq_false hp, decide_eq_true hl]
              rfl
            rw [ht, ← hok]
            refine ⟨((implSteps d).1, c2, (implSteps d).2.2 && !(implSteps d).2.1), hj0 _ ?_, rfl, fun h => .inr (.inl ⟨_, _, (first_split _ i hi).1, e2, hn, .inr ⟨hp, by rw [← hok]; exact h, steps_same d (s.data.toList.take i).dropLast ed h⟩⟩)⟩
            refine Ev.step (f := fun k => (impl_stepsOf.f k d).bind fun bt193 => (if bt193.2.2 = true then (some (bt193.1, c2, !bt193.2.1)) else (some (bt193.1, c2, false)))) (fun k => ?_) ?_
            · rw [j1_eq, if_neg (by decide), if_pos rfl, hsuf]
              rfl
            · refine Ev.bind hst ?_
              cases (implSteps d).2.2 with
              | true => exact Ev.now _
              | false => exact Ev.now _
          · rw [if_neg hl] at hsuf
            have ht : tailS (s.data.toList.take i) (s.data.toList.drop (i + 1)) = false := by
              unfold tailS
              rw [decide_eq_false hp, decide_eq_false hl]
              simp
            rw [ht]
            refine ⟨([], ⟨#[]⟩, false), hj0 _ ?_, rfl, fun h => by cases h⟩
            refine Ev.step (f := fun _ => some (([] : List ByteArray), (⟨#[]⟩ : ByteArray), false)) (fun k => ?_) (Ev.now _)
            rw [j1_eq, if_neg (by decide), if_pos rfl, hsuf]
            rfl
      · rw [Bool.not_eq_true] at hn
        refine ⟨([], ⟨#[]⟩, false), hhead false hn _ (hbad _ _ _), by unfold tailS; rw [hn]; rfl, fun h => by cases h⟩
    · rw [hc3, hc1, hc2] at hcut
      have hhead : ∀ r, Ev (fun k => impl_fieldParts.j0 k s s ⟨#[]⟩ false false) r → Ev (fun k => impl_fieldParts.f k s) r := by
        intro r hr
        refine Ev.congr (f := fun k => impl_fieldParts.j0 k s s ⟨#[]⟩ false false) (fun k => ?_) hr
        unfold impl_fieldParts.f
        rw [hcut]
        simp only [Option.bind_some]
        rw [if_neg (by rw [sz]; omega), if_neg (by decide)]
      by_cases hne : s.data.toList = [46]
      · refine ⟨([], ⟨#[]⟩, true), hhead _ ?_, by unfold fieldS; rw [if_pos hne], fun _ => .inl ⟨hne, rfl, rfl⟩⟩
        refine Ev.step (f := fun k => impl_fieldParts.j1 k s ⟨#[]⟩ false true) (fun k => ?_) ?_
        · rw [j0_eq, if_neg (by decide), Lib.toList_data, if_pos hne]
        · refine Ev.step (f := fun _ => some (([] : List ByteArray), (⟨#[]⟩ : ByteArray), true)) (fun k => ?_) (Ev.now _)
          rfl
      · have hf : fieldS s.data.toList = okS s.data.toList := by unfold fieldS; rw [if_neg hne, if_neg h64]
        have hok := steps_okS s (by omega)
        rw [hf, ← hok]
        refine ⟨((implSteps s).1, ⟨#[]⟩, (implSteps s).2.2 && !(implSteps s).2.1), hhead _ ?_, rfl, fun h => .inr (.inr ⟨h64, hne, rfl, by rw [← hok]; exact h, steps_same s _ rfl h⟩)⟩
        refine Ev.step (f := fun k => impl_fieldParts.j1 k s ⟨#[]⟩ false false) (fun k => ?_) ?_
        · rw [j0_eq, if_neg (by decide), Lib.toList_data, if_neg hne, if_neg (by decide)]
        · refine Ev.step (f := fun k => (impl_stepsOf.f k s).bind fun bt198 => (if bt198.2.2 = true then (some (bt198.1, (⟨#[]⟩ : ByteArray), !bt198.2.1)) else (some (bt198.1, (⟨#[]⟩ : ByteArray), false)))) (fun k => ?_) ?_
          · rfl
          · refine Ev.bind (impl_steps s hs) ?_
            cases (implSteps s).2.2 with
            | true => exact Ev.now _
            | false => exact Ev.now _
theorem split_one {u v u' v' : List UInt8} (h : u ++ 64 :: v = u' ++ 64 :: v') (hv : 64 ∉ v) (hv' : 64 ∉ v') : u = u' ∧ v = v' := by
  rcases List.append_eq_append_iff.1 h with ⟨a, e1, e2⟩ | ⟨a, e1, e2⟩
  · cases a with
    | nil =>
      simp at e1 e2
      exact ⟨e1.symm, e2⟩
    | cons x a =>
      simp at e2
      exact absurd (by rw [e2.2]; simp) hv
  · cases a with
    | nil =>
      simp at e1 e2
      exact ⟨e1, e2.symm⟩
    | cons x a =>
      simp at e2
      exact absurd (by rw [e2.2]; simp) hv'
theorem okS_ne {l : List UInt8} (h : okS l = true) : l ≠ [] := by
  rintro rfl
  exact absurd h (by decide)
/-- The two tell alike. -/
theorem field_same {l : List UInt8} {up nm nm' : ByteArray} {names : List ByteArray} (h : FieldIs l up nm) (h' : FieldIm l names nm') :
    nm = nm' ∧ ((up = ⟨#[]⟩ ∧ names = []) ∨ (up.data.toList ≠ [] ∧ names = (specSteps up.data.toList).1 ∧ okS up.data.toList = true)) := by
  rcases h with ⟨a1, a2, a3⟩ | ⟨u, v, e, hv, hn, hb, hu⟩ | ⟨a1, a2, a3, a4, a5⟩
  · rcases h' with ⟨b1, b2, b3⟩ | ⟨u', v', e', hn', hb', hu'⟩ | ⟨b1, b2, b3, b4, b5⟩
    · exact ⟨by rw [a3, b3], .inl ⟨a2, b2⟩⟩
    · rw [a1] at e'
      have : (64 : UInt8) ∈ [46] := by rw [e']; simp
      simp at this
    · exact absurd a1 b2
  · rcases h' with ⟨b1, b2, b3⟩ | ⟨u', v', e', hn', hb', hu'⟩ | ⟨b1, b2, b3, b4, b5⟩
    · rw [b1] at e
      have : (64 : UInt8) ∈ [46] := by rw [e]; simp
      simp at this
    · have hv' : 64 ∉ v' := fun hm => by rw [nameB_no64 v' hm] at hb'; cases hb'
      obtain ⟨rfl, rfl⟩ := split_one (by rw [← e, e']) hv hv'
      refine ⟨ba_ext (by rw [hn, hn']), ?_⟩
      rcases hu with ⟨c1, c2⟩ | ⟨c1, c2, c3, c4⟩
      · rcases hu' with ⟨d1, d2⟩ | ⟨d1, d2, d3⟩
        · exact .inl ⟨c2, d2⟩
        · exact absurd c1 d1
      · rcases hu' with ⟨d1, d2⟩ | ⟨d1, d2, d3⟩
        · exact absurd d1 c1
        · exact .inr ⟨by rw [c3]; exact okS_ne c4, by rw [c3]; exact d3, by rw [c3]; exact c4⟩
    · exact absurd (by rw [e]; simp) b1
  · rcases h' with ⟨b1, b2, b3⟩ | ⟨u', v', e', hn', hb', hu'⟩ | ⟨b1, b2, b3, b4, b5⟩
    · exact absurd b1 a2
    · exact absurd (by rw [e']; simp) a1
    · exact ⟨by rw [a4, b3], .inr ⟨by rw [a3]; exact okS_ne a5, by rw [a3]; exact b5, by rw [a3]; exact a5⟩⟩
end Go.Proofs.YtpmjpbaeecnpiaaGreatDoor.Pure
