/- Words and contracts for the row RowFnSample; printed, and merged. -/
import Derived.Test.YtajdfbgbkgabjaaQa10
import Derived.Lib.Hide
import Derived.Outline
namespace Go.Proofs.Ytajdfbgbkgabjaa
theorem oB {α β : Type} (a : α) (f : α → Option β) : (some a).bind f = f a := rfl
end Go.Proofs.Ytajdfbgbkgabjaa
namespace Go.Proofs.Ytajdfbgbkgabjaa.Pure
open Go.RowKit Ytajdfbgbkgabjaa.L YtajdfbgbkgabjaaW.PrintWords YtajdfbgbkgabjaaW.PrintLast YtajdfbgbkgabjaaW.PrintMore
set_option linter.unusedVariables false
set_option linter.unusedSimpArgs false
def tv : Option Nat → Int
 | none => -1
 | some f => f
theorem spec_tree {p : List PM} (hp : p.length ≤ 40) (hs : smallM p) : ∀ j, j < p.length → Ev (fun k => spec_l8Tree.f k p (j : Int)) (tv (tf p j)) := by
 intro j
 induction j using Nat.strongRecOn with
 | _ j ih =>
 intro hj
 have e : rd_T42 p (j : Int) = at_ p j := rfl
 have hkl : (at_ p j).f2.length ≤ 1048576 := by
  have := (hs p[j] (List.getElem_mem hj)).2
  rwa [← at_lt hj] at this
 have loop : ∀ (m e : Nat), m ≤ (at_ p j).f2.length → e ≤ j → Ev (fun k => spec_l8Tree.l0 k p (j : Int) ((e : Int) - 1) ((m : Int) - 1)) (tv (chF (tf p) e ((at_ p j).f2.take m).reverse)) := by
  intro m
  induction m with
  | zero =>
   intro e hm he
   refine Ev.step (f := fun _ => some (e : Int)) (fun k => ?_) (Ev.now _)
   conv => lhs; unfold spec_l8Tree.l0
   rw [if_neg (by omega), w64 (by omega) (by omega)]
   congr 1
   omega
  | succ m ihm =>
   intro e' hm he
   have hlt : m < (at_ p j).f2.length := by omega
   have ht : ((at_ p j).f2.take (m + 1)).reverse = (at_ p j).f2[m] :: ((at_ p j).f2.take m).reverse := by
    rw [List.take_succ_eq_append_getElem hlt, List.reverse_append]; rfl
   rw [ht]
   have hrd := rdZ (at_ p j).f2 m hlt
   have e7 : ((m + 1 : Nat) : Int) - 1 = (m : Int) := by omega
   rw [e7]
   have hch : ∀ ks, chF (tf p) e' ((at_ p j).f2[m] :: ks) = if 0 < e' ∧ (at_ p j).f2[m] = (e' : Int) - 1 then (tf p (e' - 1)).bind fun f => chF (tf p) f ks else none := fun _ => rfl
   rw [hch]
   have hno : Ev (fun k => spec_l8Tree.j1 k p (j : Int) ((e' : Int) - 1) (m : Int) true) (-1) := by
    refine Ev.step (f := fun _ => some (-1)) (fun k => ?_) (Ev.now _)
    conv => lhs; unfold spec_l8Tree.j1
    rw [if_pos rfl]
   by_cases c0 : 0 < e'
   ·by_cases c1 : (at_ p j).f2[m] = (e' : Int) - 1
    ·rw [if_pos ⟨c0, c1⟩]
     have hE := ih (e' - 1) (by omega) (by omega)
     have hee : ((e' - 1 : Nat) : Int) = (e' : Int) - 1 := by omega
     rw [hee] at hE
     refine Ev.step (f := fun k => spec_l8Tree.j1 k p (j : Int) ((e' : Int) - 1) (m : Int) false) (fun k => ?_) ?_
     ·conv => lhs; unfold spec_l8Tree.l0
      rw [if_pos (by omega), if_neg (by omega), if_pos (by omega), if_pos (by omega), if_pos (by omega), e, if_pos (by omega), hrd, c1]
      simp
     ·refine Ev.step (f := fun k => (spec_l8Tree.f k p ((e' : Int) - 1)).bind fun t => (if t < 0 then (some (-1)) else (spec_l8Tree.l0 k p (j : Int) (wrap64 (t - 1)) (wrap64 ((m : Int) - 1))))) (fun k => ?_) ?_
      ·conv => lhs; unfold spec_l8Tree.j1
       rw [if_neg (by decide)]
      ·refine Ev.bind hE ?_
       cases hf : tf p (e' - 1) with
       | none =>
        refine Ev.congr (f := fun _ => some (-1)) (fun k => ?_) (Ev.now _)
        rw [if_pos (by decide : tv none < 0)]
       | some f =>
        have hfl := tf_le _ _ hf
        refine Ev.congr (f := fun k => spec_l8Tree.l0 k p (j : Int) ((f : Int) - 1) ((m : Int) - 1)) (fun k => ?_) (ihm f (by omega) (by omega))
        have htv : tv (some f) = (f : Int) := rfl
        rw [htv, if_neg (by omega)]
        rw [w64 (by omega) (by omega), w64 (by omega) (by omega)]
    ·rw [if_neg (fun h => c1 h.2)]
     refine Ev.step (f := fun k => spec_l8Tree.j1 k p (j : Int) ((e' : Int) - 1) (m : Int) true) (fun k => ?_) hno
     conv => lhs; unfold spec_l8Tree.l0
     rw [if_pos (by omega), if_neg (by omega), if_pos (by omega), if_pos (by omega), if_pos (by omega), e, if_pos (by omega), hrd]
     rw [bne_iff_ne.2 c1]
   ·rw [if_neg (fun h => c0 h.1)]
    refine Ev.step (f := fun k => spec_l8Tree.j1 k p (j : Int) ((e' : Int) - 1) (m : Int) true) (fun k => ?_) hno
    conv => lhs; unfold spec_l8Tree.l0
    rw [if_pos (by omega), if_pos (by omega)]
 have := loop (at_ p j).f2.length j (Nat.le_refl _) (Nat.le_refl _)
 rw [List.take_length, ← tf_eq] at this
 refine Ev.step (fun k => ?_) this
 conv => lhs; unfold spec_l8Tree.f
 rw [if_pos (by omega), if_pos (by omega), e, w64 (by omega) (by omega), w64 (by omega) (by omega)]
theorem spec_deep {p : List PM} (hp : p.length ≤ 40) (hs : smallM p) : ∀ j, j < p.length → ∀ f, tf p j = some f → Ev (fun k => spec_l8Deep.f k p (j : Int)) ((dp p j + 1 : Nat) : Int) := by
 intro j
 induction j using Nat.strongRecOn with
 | _ j ih =>
 intro hj f hf
 have e : rd_T42 p (j : Int) = at_ p j := rfl
 have hkl : (at_ p j).f2.length ≤ 1048576 := by
  have := (hs p[j] (List.getElem_mem hj)).2
  rwa [← at_lt hj] at this
 have hkids := tf_kids hf
 have loop : ∀ (m i d : Nat), i + m = (at_ p j).f2.length → d ≤ 40 → Ev (fun k => spec_l8Deep.l0 k p (j : Int) (d : Int) (i : Int)) ((dpS (dp p) d ((at_ p j).f2.drop i) + 1 : Nat) : Int) := by
  intro m
  induction m with
  | zero =>
   intro i d hi hd
   refine Ev.step (f := fun _ => some ((d + 1 : Nat) : Int)) (fun k => ?_) ?_
   ·conv => lhs; unfold spec_l8Deep.l0
    rw [if_pos (by omega), if_pos (by omega), e, if_neg (by omega), w64 (by omega) (by omega)]
    rfl
   ·rw [List.drop_of_length_le (by omega)]
    exact Ev.now _
  | succ m ihm =>
   intro i d hi hd
   have hlt : i < (at_ p j).f2.length := by omega
   obtain ⟨a, b, q, hq, _⟩ := hkids _ (List.getElem_mem hlt)
   have hE := ih (at_ p j).f2[i].toNat (by omega) (by omega) q hq
   have hdl := dp_le _ _ hq
   rw [show (((at_ p j).f2[i].toNat : Nat) : Int) = (at_ p j).f2[i] by omega] at hE
   have hrd := rdZ (at_ p j).f2 i hlt
   rw [List.drop_eq_getElem_cons hlt]
   refine Ev.step (f := fun k => (spec_l8Deep.f k p (at_ p j).f2[i]).bind fun t => spec_l8Deep.l0 k p (j : Int) (mx (d : Int) t) (wrap64 ((i : Int) + 1))) (fun k => ?_) (Ev.bind hE ?_)
   ·conv => lhs; unfold spec_l8Deep.l0
    rw [if_pos (by omega), if_pos (by omega), e, if_pos (by omega), if_pos (by omega), hrd]
   ·have emx : mx (d : Int) ((dp p (at_ p j).f2[i].toNat + 1 : Nat) : Int) = ((max d (dp p (at_ p j).f2[i].toNat + 1) : Nat) : Int) := by
     unfold mx
     split <;> omega
    rw [emx, w1n hlt (by omega)]
    exact ihm (i + 1) _ (by omega) (by omega)
 have := loop (at_ p j).f2.length 0 0 (by omega) (by omega)
 rw [List.drop_zero, ← dp_eq hf] at this
 refine Ev.step (fun k => ?_) this
 conv => lhs; unfold spec_l8Deep.f
 rfl
def kidsIn (p : List PM) (i : Nat) : Bool := (at_ p i).f2.all fun k => decide (0 ≤ k ∧ k < (i : Int))
theorem lin_ok (x a b : Int) : spec_l1In.f x a b = some (decide (a ≤ x ∧ x ≤ b)) := by
 unfold spec_l1In.f
 by_cases h : x ≥ a
 ·rw [if_pos h]; congr 1; exact decide_eq_decide.2 (by omega)
 ·rw [if_neg h, decide_eq_false (by omega)]
theorem spec_nodes {p : List PM} (h1 : 1 ≤ p.length) (hp : p.length ≤ 40) (hs : smallM p) : ∀ (m i : Nat), i + m = p.length →
  Ev (fun k => spec_ParticleOk.l0 k p (i : Int)) (((List.range' i m).all fun j => okN (at_ p j) && kidsIn p j) && finV p) := by
 intro m
 induction m with
 | zero =>
  intro i hi
  have hw : wrap64 ((p.length : Int) - 1) = ((p.length - 1 : Nat) : Int) := by rw [w64] <;> omega
  have ht := spec_tree hp hs (p.length - 1) (by omega)
  have e : rd_T42 p ((p.length - 1 : Nat) : Int) = at_ p (p.length - 1) := rfl
  rw [List.range'_zero, List.all_nil, Bool.true_and]
  unfold finV
  refine Ev.step (f := fun k => (spec_l8Tree.f k p ((p.length - 1 : Nat) : Int)).bind fun t117 => (if t117 = 0 then (if (at_ p (p.length - 1)).f0 = 1 then some false else if (at_ p (p.length - 1)).f0 = 4 then some false else (spec_l8Deep.f k p ((p.length - 1 : Nat) : Int)).bind fun t120 => some (decide (t120 ≤ 10))) else some false)) (fun k => ?_) (Ev.bind ht ?_)
  ·conv => lhs; unfold spec_ParticleOk.l0
   rw [if_neg (by omega), hw, if_pos (by omega), if_pos (by omega), e]
  ·cases hf : tf p (p.length - 1) with
   | none =>
    refine Ev.congr (f := fun _ => some false) (fun k => ?_) (Ev.now _)
    rw [if_neg (by decide : ¬ tv none = 0)]
   | some f =>
    have htv : tv (some f) = (f : Int) := rfl
    rw [htv]
    by_cases c : (f : Int) = 0
    ·obtain rfl : f = 0 := by omega
     simp only [if_pos c, beq_self_eq_true, Bool.true_and]
     unfold posN
     by_cases c1 : (at_ p (p.length - 1)).f0 = 1
     ·simp only [if_pos c1]
      rw [c1]
      exact Ev.now _
     ·by_cases c4 : (at_ p (p.length - 1)).f0 = 4
      ·simp only [if_neg c1, if_pos c4]
       rw [c4]
       exact Ev.now _
      ·simp only [if_neg c1, if_neg c4]
       rw [beq_eq_false_iff_ne.2 c1, beq_eq_false_iff_ne.2 c4]
       refine Ev.bind (spec_deep hp hs _ (by omega) _ hf) ?_
       have hd : decide ((((dp p (p.length - 1) + 1 : Nat) : Int)) ≤ 10) = (!(false || false) && decide (dp p (p.length - 1) ≤ 9)) := by
        simp only [Bool.or_false, Bool.not_false, Bool.true_and]
        exact decide_eq_decide.2 (by omega)
       rw [hd]
       exact Ev.now _
    ·have h0 : (some f == some 0) = false := beq_eq_false_iff_ne.2 (fun h => c (by injection h with h; omega))
     rw [h0]
     simp only [if_neg c, Bool.false_and]
     exact Ev.now _
 | succ m ih =>
  intro i hi
  have hil : i < p.length := by omega
  have e : rd_T42 p (i : Int) = at_ p i := rfl
  have hsm := hs p[i] (List.getElem_mem hil)
  rw [← at_lt hil] at hsm
  rw [List.range'_succ, List.all_cons]
  have kloop : ∀ (q j : Nat), j + q = (at_ p i).f2.length → Ev (fun k => spec_ParticleOk.l1 k p (i : Int) (j : Int) (at_ p i).f0 (at_ p i).f1 (at_ p i).f2 (at_ p i).f3) (((at_ p i).f2.drop j).all (fun k => decide (0 ≤ k ∧ k < (i : Int))) && (((List.range' (i + 1) m).all fun j => okN (at_ p j) && kidsIn p j) && finV p)) := by
   intro q
   induction q with
   | zero =>
    intro j hj
    rw [List.drop_of_length_le (by omega), List.all_nil, Bool.true_and]
    refine Ev.step (fun k => ?_) (ih (i + 1) (by omega))
    conv => lhs; unfold spec_ParticleOk.l1
    rw [if_neg (by omega), w1n hil (by omega)]
   | succ q ihq =>
    intro j hj
    have hlt : j < (at_ p i).f2.length := by omega
    have hrd := rdZ (at_ p i).f2 j hlt
    rw [List.drop_eq_getElem_cons hlt, List.all_cons]
    have hl : (decide (0 ≤ (at_ p i).f2[j] ∧ (at_ p i).f2[j] ≤ wrap64 ((i : Int) - 1))) = decide (0 ≤ (at_ p i).f2[j] ∧ (at_ p i).f2[j] < (i : Int)) := by
     rw [w64 (by omega) (by omega)]
     exact decide_eq_decide.2 (by omega)
    by_cases c : 0 ≤ (at_ p i).f2[j] ∧ (at_ p i).f2[j] < (i : Int)
    ·rw [decide_eq_true c, Bool.true_and]
     refine Ev.step (fun k => ?_) (ihq (j + 1) (by omega))
     conv => lhs; unfold spec_ParticleOk.l1
     rw [if_pos (by omega), if_pos (by omega), hrd, lin_ok, hl, decide_eq_true c]
     simp only [oB, if_true]
     rw [w1n hlt (by omega)]
    ·rw [decide_eq_false c, Bool.false_and, Bool.false_and]
     refine Ev.step (f := fun _ => some false) (fun k => ?_) (Ev.now _)
     conv => lhs; unfold spec_ParticleOk.l1
     rw [if_pos (by omega), if_pos (by omega), hrd, lin_ok, hl, decide_eq_false c]
     rfl
  have hgo : Ev (fun k => spec_ParticleOk.j2 k p (i : Int) (at_ p i).f0 (at_ p i).f1 (at_ p i).f2 (at_ p i).f3) (kidsIn p i && (((List.range' (i + 1) m).all fun j => okN (at_ p j) && kidsIn p j) && finV p)) := by
   refine Ev.step (fun k => ?_) (kloop _ 0 (Nat.zero_add _))
   conv => lhs; unfold spec_ParticleOk.j2
   rfl
  have hq : (((okN (at_ p i) && kidsIn p i) && ((List.range' (i + 1) m).all fun j => okN (at_ p j) && kidsIn p j)) && finV p) = (okN (at_ p i) && (kidsIn p i && (((List.range' (i + 1) m).all fun j => okN (at_ p j) && kidsIn p j) && finV p))) := by
   simp only [Bool.and_assoc]
  rw [hq]
  generalize (kidsIn p i && (((List.range' (i + 1) m).all fun j => okN (at_ p j) && kidsIn p j) && finV p)) = R at hgo
  clear kloop hq ih
  have hz : decide ((((at_ p i).f2.length : Nat) : Int) > 0) = !(at_ p i).f2.isEmpty := by
   cases (at_ p i).f2 with
   | nil => rfl
   | cons x l => simp
  unfold okN fitsN
  by_cases c3 : 0 ≤ (at_ p i).f3 ∧ (at_ p i).f3 ≤ 3
  ·rw [decide_eq_true c3, Bool.and_true]
   by_cases k1 : (at_ p i).f0 = 1
   ·rw [if_pos k1]
    refine Ev.step (f := fun k => (spec_NameOk.f k (at_ p i).f1).bind fun t124 => (if t124 = true then (if (((at_ p i).f2).length : Int) > 0 then (some false) else (spec_ParticleOk.j2 k p (i : Int) (at_ p i).f0 (at_ p i).f1 (at_ p i).f2 (at_ p i).f3)) else (some false))) (fun k => ?_) (Ev.bind (spec_name _) ?_)
    ·conv => lhs; unfold spec_ParticleOk.l0
     rw [if_pos (by omega), if_pos (by omega), e, lin_ok, decide_eq_true c3]
     simp only [oB, if_true, if_pos k1]
    ·cases nameB (at_ p i).f1.data.toList with
     | false => exact Ev.now _
     | true =>
      simp only [if_true, Bool.true_and]
      cases hE : (at_ p i).f2.isEmpty with
      | true =>
       rw [Bool.true_and]
       refine Ev.congr (fun k => ?_) hgo
       rw [if_neg (by rw [hE] at hz; simpa using hz)]
      | false =>
       refine Ev.congr (f := fun _ => some false) (fun k => ?_) (Ev.now _)
       rw [if_pos (by rw [hE] at hz; simpa using hz)]
   ·rw [if_neg k1]
    by_cases k4 : (at_ p i).f0 = 4
    ·rw [if_pos k4]
     cases hT : (at_ p i).f1.data.toList.isEmpty with
     | false =>
      refine Ev.step (f := fun _ => some false) (fun k => ?_) (Ev.now _)
      conv => lhs; unfold spec_ParticleOk.l0
      rw [if_pos (by omega), if_pos (by omega), e, lin_ok, decide_eq_true c3]
      simp only [oB, if_true, if_neg k1, if_pos k4]
      rw [if_neg (fun h => by rw [(emp_iff _).1 h] at hT; cases hT)]
     | true =>
      rw [Bool.true_and]
      cases hE : (at_ p i).f2.isEmpty with
      | true =>
       rw [Bool.true_and]
       refine Ev.step (fun k => ?_) hgo
       conv => lhs; unfold spec_ParticleOk.l0
       rw [if_pos (by omega), if_pos (by omega), e, lin_ok, decide_eq_true c3]
       simp only [oB, if_true, if_neg k1, if_pos k4]
       rw [if_pos ((emp_iff _).2 hT), if_neg (by rw [hE] at hz; simpa using hz)]
      | false =>
       refine Ev.step (f := fun _ => some false) (fun k => ?_) (Ev.now _)
       conv => lhs; unfold spec_ParticleOk.l0
       rw [if_pos (by omega), if_pos (by omega), e, lin_ok, decide_eq_true c3]
       simp only [oB, if_true, if_neg k1, if_pos k4]
       rw [if_pos ((emp_iff _).2 hT), if_pos (by rw [hE] at hz; simpa using hz)]
    ·rw [if_neg k4]
     by_cases k2 : (at_ p i).f0 = 2
     ·rw [if_pos k2]
      cases hT : (at_ p i).f1.data.toList.isEmpty with
      | false =>
       refine Ev.step (f := fun _ => some false) (fun k => ?_) (Ev.now _)
       conv => lhs; unfold spec_ParticleOk.l0
       rw [if_pos (by omega), if_pos (by omega), e, lin_ok, decide_eq_true c3]
       simp only [oB, if_true, if_neg k1, if_neg k4, if_pos k2]
       rw [if_neg (fun h => by rw [(emp_iff _).1 h] at hT; cases hT)]
      | true =>
       rw [Bool.true_and]
       refine Ev.step (fun k => ?_) hgo
       conv => lhs; unfold spec_ParticleOk.l0
       rw [if_pos (by omega), if_pos (by omega), e, lin_ok, decide_eq_true c3]
       simp only [oB, if_true, if_neg k1, if_neg k4, if_pos k2]
       rw [if_pos ((emp_iff _).2 hT)]
     ·rw [if_neg k2]
      by_cases k3 : (at_ p i).f0 = 3
      ·rw [if_pos k3]
       cases hT : (at_ p i).f1.data.toList.isEmpty with
       | false =>
        refine Ev.step (f := fun _ => some false) (fun k => ?_) (Ev.now _)
        conv => lhs; unfold spec_ParticleOk.l0
        rw [if_pos (by omega), if_pos (by omega), e, lin_ok, decide_eq_true c3]
        simp only [oB, if_true, if_neg k1, if_neg k4, if_neg k2, if_pos k3]
        rw [if_neg (fun h => by rw [(emp_iff _).1 h] at hT; cases hT)]
       | true =>
        rw [Bool.true_and]
        by_cases c2 : 2 ≤ (at_ p i).f2.length
        ·rw [decide_eq_true c2, Bool.true_and]
         refine Ev.step (fun k => ?_) hgo
         conv => lhs; unfold spec_ParticleOk.l0
         rw [if_pos (by omega), if_pos (by omega), e, lin_ok, decide_eq_true c3]
         simp only [oB, if_true, if_neg k1, if_neg k4, if_neg k2, if_pos k3]
         rw [if_pos ((emp_iff _).2 hT), if_neg (by omega)]
        ·rw [decide_eq_false c2, Bool.false_and]
         refine Ev.step (f := fun _ => some false) (fun k => ?_) (Ev.now _)
         conv => lhs; unfold spec_ParticleOk.l0
         rw [if_pos (by omega), if_pos (by omega), e, lin_ok, decide_eq_true c3]
         simp only [oB, if_true, if_neg k1, if_neg k4, if_neg k2, if_pos k3]
         rw [if_pos ((emp_iff _).2 hT), if_pos (by omega)]
      ·rw [if_neg k3, Bool.false_and]
       refine Ev.step (f := fun _ => some false) (fun k => ?_) (Ev.now _)
       conv => lhs; unfold spec_ParticleOk.l0
       rw [if_pos (by omega), if_pos (by omega), e, lin_ok, decide_eq_true c3]
       simp only [oB, if_true, if_neg k1, if_neg k4, if_neg k2, if_neg k3]
  ·rw [decide_eq_false c3, Bool.and_false, Bool.false_and]
   refine Ev.step (f := fun _ => some false) (fun k => ?_) (Ev.now _)
   conv => lhs; unfold spec_ParticleOk.l0
   rw [if_pos (by omega), if_pos (by omega), e, lin_ok, decide_eq_false c3]
   rfl
theorem all_both (p : List PM) (h : tf p (p.length - 1) = some 0) : ((List.range p.length).all fun j => okN (at_ p j) && kidsIn p j) = ((List.range p.length).all fun j => okN (at_ p j) && (tf p j).isSome) := by
 apply Bool.eq_iff_iff.2
 rw [List.all_eq_true, List.all_eq_true]
 have hsome : ∀ j ∈ List.range p.length, (tf p j).isSome = true ∧ kidsIn p j = true := by
  intro j hj
  have hj := List.mem_range.1 hj
  have h1 := tf_cover _ _ h j (Nat.zero_le _) (by omega)
  refine ⟨h1, ?_⟩
  obtain ⟨f, hf⟩ := Option.isSome_iff_exists.1 h1
  unfold kidsIn
  rw [List.all_eq_true]
  intro k hk
  have := tf_kids hf k hk
  exact decide_eq_true ⟨this.1, this.2.1⟩
 constructor
 ·intro h j hj
  have := h j hj
  rw [(hsome j hj).2] at this
  rw [(hsome j hj).1]
  exact this
 ·intro h j hj
  have := h j hj
  rw [(hsome j hj).1] at this
  rw [(hsome j hj).2]
  exact this
theorem spec_ok (p : List PM) (hs : smallM p) : Ev (fun k => spec_ParticleOk.f k p) (okV p) := by
 unfold spec_ParticleOk.f okV
 have hno : Ev (fun k => spec_ParticleOk.j0 k p true) false := by
  refine Ev.step (f := fun _ => some false) (fun k => ?_) (Ev.now _)
  show (if true = true then some false else spec_ParticleOk.l0 k p 0) = some false
  rw [if_pos rfl]
 by_cases c : 1 ≤ p.length ∧ p.length ≤ 40
 ·rw [decide_eq_true c, Bool.true_and]
  have hn := spec_nodes c.1 c.2 hs p.length 0 (Nat.zero_add _)
  rw [← List.range_eq_range'] at hn
  have hR : (((List.range p.length).all fun j => okN (at_ p j) && kidsIn p j) && finV p) = (((List.range p.length).all fun i => okN (at_ p i) && (tf p i).isSome) && (tf p (p.length - 1) == some 0) && !posN (at_ p (p.length - 1)) && decide (dp p (p.length - 1) ≤ 9)) := by
   unfold finV
   by_cases ht : tf p (p.length - 1) = some 0
   ·rw [all_both p ht]
    simp only [Bool.and_assoc]
   ·rw [beq_eq_false_iff_ne.2 ht]
    simp
  rw [hR] at hn
  refine Ev.congr (f := fun k => spec_ParticleOk.j0 k p false) (fun k => ?_) (Ev.step (fun k => ?_) hn)
  ·rw [if_neg (by omega), decide_eq_false (by omega)]
  ·show (if false = true then some false else spec_ParticleOk.l0 k p 0) = _
   rw [if_neg (by decide)]
   rfl
 ·rw [decide_eq_false c]
  simp only [Bool.false_and]
  refine Ev.congr (f := fun k => spec_ParticleOk.j0 k p true) (fun k => ?_) hno
  by_cases h : (p.length : Int) < 1
  ·rw [if_pos h]
  ·rw [if_neg h, decide_eq_true (by omega)]
end Go.Proofs.Ytajdfbgbkgabjaa.Pure
namespace Go.Proofs.Ytajdfbgbkgabjaa.Pure
open Go.RowKit Ytajdfbgbkgabjaa.L YtajdfbgbkgabjaaW.PrintWords YtajdfbgbkgabjaaW.PrintLast YtajdfbgbkgabjaaW.PrintMore
open MT
set_option linter.unusedVariables false
set_option linter.unusedSimpArgs false
def mdN (n : PM) : Nd := ⟨n.f0, n.f1, n.f2.map Int.toNat, n.f3⟩
def md (p : List PM) : Md := p.map mdN
def loT (p : List PM) (j : Nat) : Nat := (tf p j).getD 0
def ints (l : List Nat) : List Int := l.map fun n : Nat => (n : Int)
theorem nd_md {p : List PM} {i : Nat} (h : i < p.length) : nd (md p) i = mdN (at_ p i) := by
 unfold nd md
 rw [at_lt h]
 simp [h]
theorem mL (p : List PM) : (md p).length = p.length := List.length_map _
theorem chF_chain {g : Nat → Option Nat} : ∀ (ks : List Int) (e f : Nat), chF g e ks.reverse = some f → Chain (fun j => (g j).getD 0) e (ks.map Int.toNat) f
 | [], e, f, h => (Option.some.inj h).symm
 | k :: ks, e, f, h => by
  rw [List.reverse_cons, chF_app] at h
  obtain ⟨m, h1, h2⟩ := Option.bind_eq_some_iff.1 h
  refine ⟨m, chF_chain ks e m h1, ?_⟩
  unfold chF at h2
  by_cases c : 0 < m ∧ k = (m : Int) - 1
  ·rw [if_pos c] at h2
   obtain ⟨f1, h3, h4⟩ := Option.bind_eq_some_iff.1 h2
   have h5 : f1 = f := Option.some.inj h4
   refine ⟨by omega, ?_⟩
   show f = (g k.toNat).getD 0
   rw [show k.toNat = m - 1 by omega, h3, h5]
   rfl
  ·rw [if_neg c] at h2; cases h2
structure OkP (p : List PM) : Prop where
 one : 1 ≤ p.length
 most : p.length ≤ 40
 ok : ∀ i, i < p.length → okN (at_ p i) = true
 tree : ∀ i, i < p.length → (tf p i).isSome = true
 root : tf p (p.length - 1) = some 0
 deep : dp p (p.length - 1) ≤ 9
 comp : posN (at_ p (p.length - 1)) = false
theorem okP {p : List PM} (h : okV p = true) : OkP p := by
 unfold okV at h
 simp only [Bool.and_eq_true, decide_eq_true_eq, List.all_eq_true, List.mem_range, Bool.not_eq_true', beq_iff_eq] at h
 obtain ⟨⟨⟨⟨⟨a, b⟩, c⟩, d⟩, e⟩, f⟩ := h
 exact ⟨a, b, fun i hi => (c i hi).1, fun i hi => (c i hi).2, d, f, e⟩
section
variable {p : List PM} (K : OkP p)
include K
theorem OkP.kinds {i : Nat} (hi : i < p.length) : (posB (at_ p i) = true ∧ (at_ p i).f2 = []) ∨ ((at_ p i).f0 = 2) ∨ ((at_ p i).f0 = 3 ∧ 2 ≤ (at_ p i).f2.length) := by
 have h := K.ok i hi
 unfold okN fitsN at h
 unfold posB
 by_cases k1 : (at_ p i).f0 = 1
 ·rw [if_pos k1] at h
  simp only [Bool.and_eq_true, List.isEmpty_iff] at h
  exact .inl ⟨by rw [k1]; rfl, h.1.2⟩
 ·by_cases k4 : (at_ p i).f0 = 4
  ·rw [if_neg k1, if_pos k4] at h
   simp only [Bool.and_eq_true, List.isEmpty_iff] at h
   exact .inl ⟨by rw [k4]; rfl, h.1.2⟩
  ·by_cases k2 : (at_ p i).f0 = 2
   ·exact .inr (.inl k2)
   ·by_cases k3 : (at_ p i).f0 = 3
    ·rw [if_neg k1, if_neg k4, if_neg k2, if_pos k3] at h
     simp only [Bool.and_eq_true, decide_eq_true_eq] at h
     exact .inr (.inr ⟨k3, h.1.2⟩)
    ·rw [if_neg k1, if_neg k4, if_neg k2, if_neg k3] at h
     simp at h
theorem OkP.tr : Tree (md p) (loT p) := by
 constructor
 ·intro i hi
  rw [mL] at hi
  rw [nd_md hi]
  obtain ⟨f, hf⟩ := Option.isSome_iff_exists.1 (K.tree i hi)
  have : loT p i = f := by unfold loT; rw [hf]; rfl
  rw [this]
  rw [tf_eq] at hf
  exact chF_chain _ _ _ hf
 ·intro i hi
  rw [mL] at hi
  rw [nd_md hi]
  rcases K.kinds hi with ⟨a, b⟩ | a | ⟨a, b⟩
  ·exact .inl ⟨a, by show (at_ p i).f2.map Int.toNat = []; rw [b]; rfl⟩
  ·exact .inr (.inl a)
  ·exact .inr (.inr ⟨a, by show 2 ≤ ((at_ p i).f2.map Int.toNat).length; rw [List.length_map]; exact b⟩)
theorem OkP.f2 {i : Nat} (hi : i < p.length) : (at_ p i).f2 = ints (nd (md p) i).kids := by
 rw [nd_md hi]
 obtain ⟨f, hf⟩ := Option.isSome_iff_exists.1 (K.tree i hi)
 have h := tf_kids hf
 show _ = ints ((at_ p i).f2.map Int.toNat)
 unfold ints
 rw [List.map_map]
 generalize (at_ p i).f2 = ks at h
 clear K
 induction ks with
 | nil => rfl
 | cons k ks ih =>
  have := h k (by simp)
  rw [List.map_cons, ← ih (fun k' hk' => h k' (by simp [hk']))]
  congr 1
  show k = ((k.toNat : Nat) : Int)
  omega
end
theorem ints_app (a b : List Nat) : ints (a ++ b) = ints a ++ ints b := List.map_append
theorem iLn (a : List Nat) : (ints a).length = a.length := List.length_map _
theorem mI {a : List Nat} {x : Int} : x ∈ ints a ↔ ∃ b : Nat, x = (b : Int) ∧ b ∈ a := by
 unfold ints
 rw [List.mem_map]
 constructor
 ·rintro ⟨b, h, rfl⟩; exact ⟨b, rfl, h⟩
 ·rintro ⟨b, rfl, h⟩; exact ⟨b, h, rfl⟩
theorem nat_ints {a : List Nat} {b : Nat} : (b : Int) ∈ ints a ↔ b ∈ a := by
 rw [mI]
 constructor
 ·rintro ⟨c, h, hc⟩
  have : b = c := by omega
  rwa [this]
 ·intro h; exact ⟨b, rfl, h⟩
theorem ints_nodup {a : List Nat} (h : a.Nodup) : (ints a).Nodup := by
 unfold ints
 exact List.Pairwise.map _ (fun x y hxy e => hxy (by omega)) h
theorem flat_len {lo : Nat → Nat} {F : Nat → List Nat} : ∀ {ks : List Nat} {e b : Nat}, Chain lo e ks b → (∀ k, k < e → lo k ≤ k) → (∀ k ∈ ks, (F k).length ≤ k + 1 - lo k) → (ks.flatMap F).length + b ≤ e
 | [], e, b, hc, _, _ => by
  have : b = e := hc
  simp [this]
 | k :: ks, e, b, hc, hl, h => by
  obtain ⟨m, h1, h2, h3⟩ := hc
  have a := flat_len h1 hl (fun k' hk' => h k' (by simp [hk']))
  have c := h k (by simp)
  have d := (Chain.facts hl h1).1
  have g := hl k (by omega)
  rw [List.flatMap_cons, List.length_append]
  omega
section
variable {q : Md} {lo : Nat → Nat} (T : Tree q lo)
include T
theorem edge_len (E : Md → Nat → List Nat) (hE : E = fst ∨ E = lst) : ∀ i, i < q.length → (E q i).length ≤ i + 1 - lo i := by
 intro i
 induction i using Nat.strongRecOn with
 | _ i ih =>
 intro hi
 have key := flat_len (F := E q) (T.chain i hi) (fun k hk => T.le k (by omega)) (fun k hk => ih k (T.kid hi hk).2 (by have := (T.kid hi hk).2; omega))
 have hle := T.le i hi
 rcases hE with rfl | rfl
 ·rw [fst_eq T.ahead hi]
  split
  ·simp; omega
  ·split
   ·omega
   ·have := (pre_sub (N := nul q) (F := fst q) (nd q i).kids).length_le
    omega
 ·rw [lst_eq T.ahead hi]
  split
  ·simp; omega
  ·split
   ·omega
   ·have := (suf_sub (N := nul q) (L := lst q) (nd q i).kids []).length_le
    simp only [List.nil_append] at this
    omega
theorem kids_len (E : Md → Nat → List Nat) (hE : E = fst ∨ E = lst) {i : Nat} (hi : i < q.length) {us vs : List Nat} (h : (nd q i).kids = us ++ vs) : (us.flatMap (E q)).length ≤ i := by
 have key := flat_len (F := E q) (T.chain i hi) (fun k hk => T.le k (by omega)) (fun k hk => edge_len T E hE k (by have := (T.kid hi hk).2; omega))
 rw [h, List.flatMap_append, List.length_append] at key
 omega
end
theorem pre_snoc {N : Nat → Bool} {F : Nat → List Nat} (k : Nat) : ∀ us : List Nat, pre N F (us ++ [k]) = pre N F us ++ (if us.all N = true then F k else [])
 | [] => by simp [pre]
 | u :: us => by
  rw [List.cons_append, pre, pre, pre_snoc k us, List.all_cons]
  cases N u <;> simp
theorem suf_snoc {N : Nat → Bool} {L : Nat → List Nat} (k : Nat) : ∀ (us acc : List Nat), suf N L acc (us ++ [k]) = (if N k = true then suf N L acc us else []) ++ L k
 | [], acc => rfl
 | u :: us, acc => by
  rw [List.cons_append, suf, suf_snoc k us]
  rfl
theorem snoc_split {us : List Nat} {k : Nat} {Q : List Nat → Nat → Prop} : (∃ u k' v, us ++ [k] = u ++ k' :: v ∧ Q u k') ↔ (∃ u k' v, us = u ++ k' :: v ∧ Q u k') ∨ Q us k := by
 constructor
 ·rintro ⟨u, k', v, e, h⟩
  rcases List.eq_nil_or_concat v with rfl | ⟨v', x, rfl⟩
  ·right
   have := List.append_inj' e rfl
   obtain ⟨rfl, h2⟩ := this
   simp only [List.cons.injEq, and_true] at h2
   subst h2
   exact h
  ·left
   rw [List.concat_eq_append, ← List.cons_append, ← List.append_assoc] at e
   have := List.append_inj' e rfl
   exact ⟨u, k', v', this.1, h⟩
 ·rintro (⟨u, k', v, e, h⟩ | h)
  ·exact ⟨u, k', v ++ [k], by rw [e]; simp, h⟩
  ·exact ⟨us, k, [], rfl, h⟩
structure FolP (n : Nat) (P : Nat → Nat → Prop) (fol : List (List Int)) : Prop where
 len : fol.length = n
 mem : ∀ a, a < n → ∀ x : Int, x ∈ rdL fol a ↔ ∃ b : Nat, x = (b : Int) ∧ P a b
theorem FolP.congr {n : Nat} {P P' : Nat → Nat → Prop} {fol : List (List Int)} (h : FolP n P fol) (e : ∀ a, a < n → ∀ b, P a b ↔ P' a b) : FolP n P' fol :=
 ⟨h.len, fun a ha x => by
  rw [h.mem a ha x]
  constructor
  ·rintro ⟨b, h1, h2⟩; exact ⟨b, h1, (e a ha b).1 h2⟩
  ·rintro ⟨b, h1, h2⟩; exact ⟨b, h1, (e a ha b).2 h2⟩⟩
theorem rd_leadTo {fol : List (List Int)} {a q : Nat} (ha : a < fol.length) (to_ : List Int) : rdL (leadTo fol (a : Int) to_) q = if q = a then rdL fol a ++ to_ else rdL fol q := by
 unfold rdL rdOf leadTo
 simp only [Int.toNat_natCast, List.getD_eq_getElem?_getD]
 by_cases c : q = a
 ·subst c
  rw [if_pos rfl, List.getElem?_set_self ha]
  rfl
 ·rw [if_neg c, List.getElem?_set_ne (fun e => c e.symm)]
theorem FolP.lead {n : Nat} : ∀ {A B : List Nat} {P : Nat → Nat → Prop} {fol : List (List Int)}, FolP n P fol → (∀ a ∈ A, a < n) → FolP n (fun a b => P a b ∨ (a ∈ A ∧ b ∈ B)) (leadL fol (ints A) (ints B))
 | [], B, P, fol, h, _ => h.congr (fun a ha b => by simp)
 | c :: A, B, P, fol, h, hA => by
  have hc := hA c (by simp)
  have h1 : FolP n (fun a b => P a b ∨ (a = c ∧ b ∈ B)) (leadTo fol (c : Int) (ints B)) := by
   refine ⟨by rw [leadTo_length, h.len], fun a ha x => ?_⟩
   rw [rd_leadTo (by rw [h.len]; exact hc)]
   by_cases e : a = c
   ·subst e
    rw [if_pos rfl, List.mem_append, h.mem a ha, mI]
    constructor
    ·rintro (⟨b, h1, h2⟩ | ⟨b, h1, h2⟩)
     ·exact ⟨b, h1, .inl h2⟩
     ·exact ⟨b, h1, .inr ⟨rfl, h2⟩⟩
    ·rintro ⟨b, h1, h2 | h2⟩
     ·exact .inl ⟨b, h1, h2⟩
     ·exact .inr ⟨b, h1, h2.2⟩
   ·rw [if_neg e, h.mem a ha]
    constructor
    ·rintro ⟨b, h1, h2⟩; exact ⟨b, h1, .inl h2⟩
    ·rintro ⟨b, h1, h2 | h2⟩
     ·exact ⟨b, h1, h2⟩
     ·exact absurd h2.1 e
  have h2 := FolP.lead (A := A) (B := B) h1 (fun a ha => hA a (by simp [ha]))
  refine FolP.congr (fol := leadL fol (ints (c :: A)) (ints B)) h2 (fun a ha b => ?_)
  simp only [List.mem_cons]
  constructor
  ·rintro ((h | ⟨h, h'⟩) | ⟨h, h'⟩)
   ·exact .inl h
   ·exact .inr ⟨.inl h, h'⟩
   ·exact .inr ⟨.inr h, h'⟩
  ·rintro (h | ⟨h | h, h'⟩)
   ·exact .inl (.inl h)
   ·exact .inl (.inr ⟨h, h'⟩)
   ·exact .inr ⟨h, h'⟩
structure NetI (p : List PM) (i : Nat) (N : NetV) : Prop where
 nul : N.nul = (List.range i).map (nul (md p))
 fst : N.fst = (List.range i).map fun j => ints (fst (md p) j)
 lst : N.lst = (List.range i).map fun j => ints (lst (md p) j)
 fol : FolP i (fun a b => ∃ j, j < i ∧ led (md p) j a b) N.fol
theorem rR {α : Type} {F : Nat → α} {d : α} {i k : Nat} (h : k < i) : rdOf d ((List.range i).map F) (k : Int) = F k := by
 unfold rdOf
 simp [h]
section
variable {p : List PM} (K : OkP p) {i : Nat} (hi : i < p.length) {N : NetV} (H : NetI p i N)
include K hi H
theorem NetI.kids3 : ∀ (vs us : List Nat) (s : KS), (nd (md p) i).kids = us ++ vs → s.nu = us.any (MT.nul (md p)) → s.fi = ints (us.flatMap (MT.fst (md p))) → s.la = ints (us.flatMap (MT.lst (md p))) →
  kidsF 3 N (ints vs) s = some ⟨(nd (md p) i).kids.any (MT.nul (md p)), ints ((nd (md p) i).kids.flatMap (MT.fst (md p))), ints ((nd (md p) i).kids.flatMap (MT.lst (md p))), s.fol⟩
 | [], us, s, hk, h1, h2, h3 => by
  rw [List.append_nil] at hk
  rw [hk, ← h1, ← h2, ← h3]
  rfl
 | k :: vs, us, s, hk, h1, h2, h3 => by
  have him : i < (md p).length := by rw [mL]; exact hi
  have hki : k < i := (K.tr.kid him (by rw [hk]; simp)).2
  have hk' : (nd (md p) i).kids = (us ++ [k]) ++ vs := by rw [hk]; simp
  have l1 := kids_len K.tr MT.fst (.inl rfl) him hk'
  have l2 := kids_len K.tr MT.lst (.inr rfl) him hk'
  rw [List.flatMap_append, List.length_append, List.flatMap_singleton] at l1 l2
  have e1 : rdL N.fst (k : Int) = ints (MT.fst (md p) k) := by rw [H.fst]; exact rR hki
  have e2 : rdL N.lst (k : Int) = ints (MT.lst (md p) k) := by rw [H.lst]; exact rR hki
  have e3 : rdOf false N.nul (k : Int) = MT.nul (md p) k := by rw [H.nul]; exact rR hki
  have hm := K.most
  have key := NetI.kids3 vs (us ++ [k]) ⟨s.nu || MT.nul (md p) k, s.fi ++ ints (MT.fst (md p) k), s.la ++ ints (MT.lst (md p) k), s.fol⟩ hk' (by rw [h1]; simp) (by rw [h2, List.flatMap_append, ints_app, List.flatMap_singleton]) (by rw [h3, List.flatMap_append, ints_app, List.flatMap_singleton])
  rw [← key]
  show (kidF 3 N s (k : Int)).bind (kidsF 3 N (ints vs)) = _
  have hg : (0 ≤ (k : Int) ∧ (k : Int) < N.nul.length ∧ (k : Int) < N.fst.length ∧ (k : Int) < N.lst.length) ∧ s.fi.length + (rdL N.fst (k : Int)).length < LIMK ∧ s.la.length + (rdL N.lst (k : Int)).length < LIMK := by
   rw [e1, e2, h2, h3, iLn, iLn, iLn, iLn, H.nul, H.fst, H.lst]
   simp only [List.length_map, List.length_range]
   unfold LIMK
   omega
  unfold kidF
  rw [if_pos hg, if_pos rfl, e1, e2, e3]
  rfl
theorem NetI.kids2 (P0 : Nat → Nat → Prop) : ∀ (vs us : List Nat) (s : KS), (nd (md p) i).kids = us ++ vs → s.nu = us.all (MT.nul (md p)) → s.fi = ints (pre (MT.nul (md p)) (MT.fst (md p)) us) → s.la = ints (suf (MT.nul (md p)) (MT.lst (md p)) [] us) →
  FolP (i + 1) (fun a b => P0 a b ∨ ∃ u k v, us = u ++ k :: v ∧ (a ∈ suf (MT.nul (md p)) (MT.lst (md p)) [] u ∧ b ∈ MT.fst (md p) k)) s.fol →
  ∃ fol, kidsF 2 N (ints vs) s = some ⟨(nd (md p) i).kids.all (MT.nul (md p)), ints (pre (MT.nul (md p)) (MT.fst (md p)) (nd (md p) i).kids), ints (suf (MT.nul (md p)) (MT.lst (md p)) [] (nd (md p) i).kids), fol⟩ ∧
   FolP (i + 1) (fun a b => P0 a b ∨ ∃ u k v, (nd (md p) i).kids = u ++ k :: v ∧ (a ∈ suf (MT.nul (md p)) (MT.lst (md p)) [] u ∧ b ∈ MT.fst (md p) k)) fol
 | [], us, s, hk, h1, h2, h3, h4 => by
  rw [List.append_nil] at hk
  rw [hk, ← h1, ← h2, ← h3]
  exact ⟨s.fol, rfl, h4⟩
 | k :: vs, us, s, hk, h1, h2, h3, h4 => by
  have him : i < (md p).length := by rw [mL]; exact hi
  have hki : k < i := (K.tr.kid him (by rw [hk]; simp)).2
  have hk' : (nd (md p) i).kids = (us ++ [k]) ++ vs := by rw [hk]; simp
  have l1 := kids_len K.tr MT.fst (.inl rfl) him hk'
  have l2 := kids_len K.tr MT.lst (.inr rfl) him hk'
  rw [List.flatMap_append, List.length_append, List.flatMap_singleton] at l1 l2
  have s1 := (pre_sub (N := MT.nul (md p)) (F := MT.fst (md p)) us).length_le
  have s2 := (suf_sub (N := MT.nul (md p)) (L := MT.lst (md p)) us []).length_le
  simp only [List.nil_append] at s2
  have e1 : rdL N.fst (k : Int) = ints (MT.fst (md p) k) := by rw [H.fst]; exact rR hki
  have e2 : rdL N.lst (k : Int) = ints (MT.lst (md p) k) := by rw [H.lst]; exact rR hki
  have e3 : rdOf false N.nul (k : Int) = MT.nul (md p) k := by rw [H.nul]; exact rR hki
  have hm := K.most
  have hin : ∀ a ∈ suf (MT.nul (md p)) (MT.lst (md p)) [] us, a < i + 1 := by
   intro a ha
   rcases mem_suf.1 ha with ⟨h, _⟩ | ⟨x, k', y, e, _, h⟩
   ·simp at h
   ·have hk2 := (K.tr.kid him (k := k') (by rw [hk, e]; simp)).2
    have := edge_in K.tr MT.lst (.inr rfl) k' (by omega) a h
    omega
  obtain ⟨fol, key, hf⟩ := NetI.kids2 P0 vs (us ++ [k]) ⟨s.nu && MT.nul (md p) k, if s.nu = true then s.fi ++ ints (MT.fst (md p) k) else s.fi, (if MT.nul (md p) k = true then s.la else []) ++ ints (MT.lst (md p) k), leadL s.fol s.la (ints (MT.fst (md p) k))⟩ hk' (by rw [h1]; simp)
   (by
    rw [pre_snoc, ints_app, h1, h2]
    cases us.all (MT.nul (md p)) <;> simp [ints])
   (by
    rw [suf_snoc, ints_app, h3]
    cases MT.nul (md p) k <;> simp [ints])
   (by
    rw [h3]
    refine (h4.lead hin).congr (fun a ha b => ?_)
    rw [snoc_split, or_assoc])
  refine ⟨fol, ?_, hf⟩
  rw [← key]
  show (kidF 2 N s (k : Int)).bind (kidsF 2 N (ints vs)) = _
  have hg : (0 ≤ (k : Int) ∧ (k : Int) < N.nul.length ∧ (k : Int) < N.fst.length ∧ (k : Int) < N.lst.length) ∧ s.fi.length + (rdL N.fst (k : Int)).length < LIMK ∧ s.la.length + (rdL N.lst (k : Int)).length < LIMK := by
   rw [e1, e2, h2, h3, iLn, iLn, iLn, iLn, H.nul, H.fst, H.lst]
   simp only [List.length_map, List.length_range]
   unfold LIMK
   omega
  have hg2 : (∀ a ∈ s.la, 0 ≤ a ∧ a < (s.fol.length : Int)) ∧ (∀ b ∈ rdL N.fst (k : Int), 0 ≤ b ∧ b < 4096) := by
   rw [h3, e1, h4.len]
   constructor
   ·intro x hx
    obtain ⟨a, rfl, ha⟩ := mI.1 hx
    have := hin a ha
    omega
   ·intro x hx
    obtain ⟨a, rfl, ha⟩ := mI.1 hx
    have := edge_in K.tr MT.fst (.inl rfl) k (by omega) a ha
    omega
  unfold kidF
  rw [if_pos hg, if_neg (by decide), if_pos hg2, e1, e2, e3]
  rfl
omit hi H in
theorem led_le {a b j : Nat} (hj : j < p.length) (h : led (md p) j a b) : a ≤ j ∧ b ≤ j := by
 have hjm : j < (md p).length := by rw [mL]; exact hj
 rcases h with ⟨c, us, k, vs, e, h1, h2⟩ | ⟨c, h1, h2⟩
 ·have hk := (K.tr.kid hjm (k := k) (by rw [e]; simp)).2
  have hb := edge_in K.tr MT.fst (.inl rfl) k (by omega) b h2
  rcases mem_suf.1 h1 with ⟨h, _⟩ | ⟨x, k', y, e', _, h⟩
  ·simp at h
  ·have hk2 := (K.tr.kid hjm (k := k') (by rw [e, e']; simp)).2
   have := edge_in K.tr MT.lst (.inr rfl) k' (by omega) a h
   omega
 ·have h3 := edge_in K.tr MT.fst (.inl rfl) j hjm b h2
  have h4 := edge_in K.tr MT.lst (.inr rfl) j hjm a h1
  omega
theorem NetI.node : ∃ N', nodeF i (at_ p i) N = some N' ∧ NetI p (i + 1) N' := by
 have him : i < (md p).length := by rw [mL]; exact hi
 have e0 := nd_md hi
 have hm := K.most
 have hstart : FolP (i + 1) (fun a b => ∃ j, j < i ∧ led (md p) j a b) (N.fol ++ [[]]) := by
  refine ⟨by rw [List.length_append, H.fol.len]; rfl, fun a ha x => ?_⟩
  by_cases c : a < i
  ·have : rdL (N.fol ++ [[]]) (a : Int) = rdL N.fol (a : Int) := by
    unfold rdL rdOf
    rw [List.getD_eq_getElem?_getD, List.getD_eq_getElem?_getD, List.getElem?_append_left (by rw [H.fol.len]; simpa using c)]
   rw [this, H.fol.mem a c]
  ·obtain rfl : a = i := by omega
   have : rdL (N.fol ++ [[]]) (a : Int) = [] := by
    unfold rdL rdOf
    rw [List.getD_eq_getElem?_getD, List.getElem?_append_right (by rw [H.fol.len]; simp), H.fol.len]
    simp
   rw [this]
   constructor
   ·intro h; simp at h
   ·rintro ⟨b, _, j, hj, h⟩
    have := (led_le K (by omega) h).1
    omega
 /- behind the kids, the loop and the end are alike -/
 have fin : ∀ (nu : Bool) (fi la : List Nat) (fol : List (List Int)) (P : Nat → Nat → Prop), kidsF (at_ p i).f0 N (at_ p i).f2 (startF i (at_ p i) N) = some ⟨nu, ints fi, ints la, fol⟩ →
   FolP (i + 1) P fol → (nu || optB (at_ p i)) = MT.nul (md p) i → fi = MT.fst (md p) i → la = MT.lst (md p) i → (∀ a b, (P a b ∨ (oftB (at_ p i) = true ∧ a ∈ MT.lst (md p) i ∧ b ∈ MT.fst (md p) i)) ↔ ∃ j, j < i + 1 ∧ led (md p) j a b) →
   ∃ N', nodeF i (at_ p i) N = some N' ∧ NetI p (i + 1) N' := by
  rintro nu fi la fol P hk hf hn rfl rfl hP
  have hend : ∃ fol', loopF (at_ p i) ⟨nu, ints (MT.fst (md p) i), ints (MT.lst (md p) i), fol⟩ = some fol' ∧ FolP (i + 1) (fun a b => ∃ j, j < i + 1 ∧ led (md p) j a b) fol' := by
   unfold loopF
   have hA : ∀ a ∈ MT.lst (md p) i, a < i + 1 := fun a ha => by
    have := edge_in K.tr MT.lst (.inr rfl) i him a ha
    omega
   have hB : ∀ a ∈ MT.fst (md p) i, a < i + 1 := fun a ha => by
    have := edge_in K.tr MT.fst (.inl rfl) i him a ha
    omega
   by_cases ho : oftB (at_ p i) = true
   ·rw [if_pos ho, if_pos ⟨fun x hx => by
     obtain ⟨a, rfl, ha⟩ := mI.1 hx
     have := hA a ha
     show 0 ≤ (a : Int) ∧ (a : Int) < (fol.length : Int)
     rw [hf.len]
     omega, fun x hx => by
     obtain ⟨a, rfl, ha⟩ := mI.1 hx
     have := hB a ha
     omega⟩]
    exact ⟨_, rfl, (hf.lead hA).congr (fun a _ b => by rw [← hP a b]; simp [ho])⟩
   ·rw [if_neg ho]
    exact ⟨_, rfl, hf.congr (fun a _ b => by rw [← hP a b]; simp [ho])⟩
  obtain ⟨fol', h1, h2⟩ := hend
  refine ⟨⟨N.nul ++ [nu || optB (at_ p i)], N.fst ++ [ints (MT.fst (md p) i)], N.lst ++ [ints (MT.lst (md p) i)], fol'⟩, ?_, ?_⟩
  ·unfold nodeF
   rw [hk]
   simp only [oB]
   rw [h1]
   rfl
  ·refine ⟨?_, ?_, ?_, h2⟩
   ·rw [hn, H.nul, List.range_succ, List.map_append]; rfl
   ·rw [H.fst, List.range_succ, List.map_append]; rfl
   ·rw [H.lst, List.range_succ, List.map_append]; rfl
 have hlast : ∀ a b, (∃ j, j < i + 1 ∧ led (md p) j a b) ↔ (∃ j, j < i ∧ led (md p) j a b) ∨ led (md p) i a b := by
  intro a b
  constructor
  ·rintro ⟨j, hj, h⟩
   by_cases c : j < i
   ·exact .inl ⟨j, c, h⟩
   ·obtain rfl : j = i := by omega
    exact .inr h
  ·rintro (⟨j, hj, h⟩ | h)
   ·exact ⟨j, by omega, h⟩
   ·exact ⟨i, by omega, h⟩
 have hkind : (nd (md p) i).kind = (at_ p i).f0 := by rw [e0]; rfl
 have hpos : (nd (md p) i).pos = posB (at_ p i) := by rw [e0]; rfl
 have hopt : (nd (md p) i).opt = optB (at_ p i) := by rw [e0]; rfl
 have hoft : (nd (md p) i).oft = oftB (at_ p i) := by rw [e0]; rfl
 rcases K.kinds hi with ⟨a, b⟩ | a | ⟨a, b⟩
 ·have hne2 : ¬ (at_ p i).f0 = 2 := by
   intro h
   unfold posB at a
   rw [h] at a
   revert a
   decide
  have hne3 : ¬ (at_ p i).f0 = 3 := by
   intro h
   unfold posB at a
   rw [h] at a
   revert a
   decide
  refine fin false [i] [i] (N.fol ++ [[]]) (fun a b => ∃ j, j < i ∧ led (md p) j a b) ?_ hstart ?_ ?_ ?_ ?_
  ·rw [b]
   show some (startF i (at_ p i) N) = _
   unfold startF
   rw [if_pos a, beq_eq_false_iff_ne.2 hne2]
   rfl
  ·rw [nul_eq K.tr.ahead him, hkind, if_neg hne2, if_neg hne3, hopt]
  ·rw [fst_eq K.tr.ahead him, hpos, if_pos a]
  ·rw [lst_eq K.tr.ahead him, hpos, if_pos a]
  ·intro x y
   rw [hlast]
   unfold led
   rw [hkind, hoft]
   simp only [hne2, false_and, false_or]
 ·have hnp : ¬ posB (at_ p i) = true := by
   unfold posB
   rw [a]
   decide
  have hne3 : ¬ (at_ p i).f0 = 3 := by omega
  obtain ⟨fol, hk, hf⟩ := NetI.kids2 K hi H (fun a b => ∃ j, j < i ∧ led (md p) j a b) (nd (md p) i).kids [] (startF i (at_ p i) N) rfl (by unfold startF; rw [a]; rfl) (by unfold startF; rw [if_neg hnp]; rfl) (by unfold startF; rw [if_neg hnp]; rfl)
   (hstart.congr (fun x _ y => by
    constructor
    ·exact .inl
    ·rintro (h | ⟨u, k, v, e, _⟩)
     ·exact h
     ·cases u <;> simp at e))
  refine fin _ _ _ fol _ (by rw [K.f2 hi, a]; exact hk) hf ?_ ?_ ?_ ?_
  ·rw [nul_eq K.tr.ahead him, hkind, if_pos a, hopt]
  ·rw [fst_eq K.tr.ahead him, hpos, if_neg hnp, hkind, if_neg hne3]
  ·rw [lst_eq K.tr.ahead him, hpos, if_neg hnp, hkind, if_neg hne3]
  ·intro x y
   rw [hlast]
   unfold led
   rw [hkind, hoft]
   simp only [a, true_and, or_assoc]
 ·have hnp : ¬ posB (at_ p i) = true := by
   unfold posB
   rw [a]
   decide
  have hne2 : ¬ (at_ p i).f0 = 2 := by omega
  have hk := NetI.kids3 K hi H (nd (md p) i).kids [] (startF i (at_ p i) N) rfl (by unfold startF; rw [a]; rfl) (by unfold startF; rw [if_neg hnp]; rfl) (by unfold startF; rw [if_neg hnp]; rfl)
  refine fin _ _ _ (N.fol ++ [[]]) (fun a b => ∃ j, j < i ∧ led (md p) j a b) (by rw [K.f2 hi, a]; exact hk) hstart ?_ ?_ ?_ ?_
  ·rw [nul_eq K.tr.ahead him, hkind, if_neg hne2, if_pos a, hopt]
  ·rw [fst_eq K.tr.ahead him, hpos, if_neg hnp, hkind, if_pos a]
  ·rw [lst_eq K.tr.ahead him, hpos, if_neg hnp, hkind, if_pos a]
  ·intro x y
   rw [hlast]
   unfold led
   rw [hkind, hoft]
   simp only [hne2, false_and, false_or]
end
theorem net_from {p : List PM} (K : OkP p) : ∀ (m i : Nat) (N : NetV), i + m = p.length → NetI p i N → ∃ N', netL (p.drop i) i N = some N' ∧ NetI p p.length N'
 | 0, i, N, h, H => by
  obtain rfl : i = p.length := by omega
  rw [List.drop_length]
  exact ⟨N, rfl, H⟩
 | m + 1, i, N, h, H => by
  have hi : i < p.length := by omega
  have hm := K.most
  rw [List.drop_eq_getElem_cons hi, ← at_lt hi]
  unfold netL
  obtain ⟨N1, h1, h2⟩ := NetI.node K hi H
  rw [if_pos (by rw [H.nul, H.fst, H.lst, H.fol.len]; simp only [List.length_map, List.length_range]; unfold LIMK; omega), h1]
  exact net_from K m (i + 1) N1 (by omega) h2
theorem net_tells {p : List PM} (h : okV p = true) : ∃ N, netOfF p = some N ∧ NetI p p.length N := by
 have := net_from (okP h) p.length 0 ⟨[], [], [], []⟩ (Nat.zero_add _) ⟨rfl, rfl, rfl, rfl, fun a ha => by omega⟩
 exact this
theorem put1_len (x : Int) : ∀ l : List Int, (put1 x l).length ≤ l.length + 1
 | [] => by simp [put1]
 | y :: l => by
  have := put1_len x l
  unfold put1
  split
  ·simp only [List.length_cons]; omega
  ·split
   ·simp only [List.length_cons]; omega
   ·simp only [List.length_cons]; omega
theorem spec_put (xs : List Int) (i : Nat) (hi : i < xs.length) (hx : xs.length ≤ 1048576) (acc : List Int) (ha : acc.length ≤ i) (R : List Int) (hR : Ev (fun k => spec_l8Sorted.l0 k xs (put1 xs[i] acc) ((i + 1 : Nat) : Int)) R) : ∀ (n j : Nat), j + n = acc.length → put1 xs[i] acc = acc.take j ++ put1 xs[i] (acc.drop j) → Ev (fun k => spec_l8Sorted.l1 k xs acc (i : Int) (j : Int)) R := by
 intro n
 induction n with
 | zero =>
  intro j hj hput
  rw [List.drop_of_length_le (by omega), List.take_of_length_le (by omega)] at hput
  simp only [put1] at hput
  rw [hput] at hR
  refine Ev.step (fun k => ?_) hR
  conv => lhs; unfold spec_l8Sorted.l1
  rw [if_neg (by omega)]
  simp only [oB, List.nil_append, List.length_nil]
  rw [if_pos (by omega), if_pos (by omega), Int.toNat_natCast, List.take_of_length_le (by omega), if_pos (by omega), if_pos (by omega), if_pos (by omega), if_pos (by omega), List.drop_of_length_le (by omega), if_pos (by simp; omega), List.append_nil, rdZ xs i hi, w1n hi (by omega)]
 | succ n ih =>
  intro j hj hput
  have hlt : j < acc.length := by omega
  have hd : acc.drop j = acc[j] :: acc.drop (j + 1) := List.drop_eq_getElem_cons hlt
  by_cases c1 : acc[j] < xs[i]
  ·have := ih (j + 1) (by omega) (by
    rw [hput, hd]
    conv => lhs; unfold put1
    rw [if_pos c1, ← List.take_append_getElem hlt, List.append_assoc]
    rfl)
   refine Ev.step (fun k => ?_) this
   conv => lhs; unfold spec_l8Sorted.l1
   rw [if_pos (by omega), if_pos (by omega), if_pos (by omega), if_pos (by omega), rdZ xs i hi, rdZ acc j hlt, if_pos c1, w1n hlt (by omega)]
  ·by_cases c2 : acc[j] = xs[i]
   ·have e : put1 xs[i] acc = acc := by
     rw [hput, hd]
     unfold put1
     rw [if_neg c1, if_pos c2, ← hd, List.take_append_drop]
    rw [e] at hR
    refine Ev.step (fun k => ?_) hR
    conv => lhs; unfold spec_l8Sorted.l1
    rw [if_pos (by omega), if_pos (by omega), if_pos (by omega), if_pos (by omega), rdZ xs i hi, rdZ acc j hlt, if_neg c1, if_pos c2, w1n hi (by omega)]
   ·have e : put1 xs[i] acc = acc.take j ++ [xs[i]] ++ acc.drop j := by
     rw [hput, hd]
     unfold put1
     rw [if_neg c1, if_neg c2]
     simp
    rw [e] at hR
    refine Ev.step (fun k => ?_) hR
    conv => lhs; unfold spec_l8Sorted.l1
    rw [if_pos (by omega), if_pos (by omega), if_pos (by omega), if_pos (by omega), rdZ xs i hi, rdZ acc j hlt, if_neg c1, if_neg c2]
    simp only [oB, List.nil_append, List.length_nil, Int.toNat_natCast]
    rw [if_pos (by omega), if_pos (by rw [List.length_take]; omega), if_pos (by rw [List.length_take]; omega), if_pos (by simp only [List.length_append, List.length_take, List.length_drop, List.length_singleton]; omega), w1n hi (by omega)]
theorem spec_sorted_l0 (xs : List Int) (hx : xs.length ≤ 1048576) : ∀ (n i : Nat) (acc : List Int), i + n = xs.length → acc.length ≤ i → Ev (fun k => spec_l8Sorted.l0 k xs acc (i : Int)) ((xs.drop i).foldl (fun a x => put1 x a) acc) := by
 intro n
 induction n with
 | zero =>
  intro i acc hi ha
  rw [List.drop_of_length_le (by omega), List.foldl_nil]
  refine Ev.step (f := fun _ => some acc) (fun k => ?_) (Ev.now _)
  conv => lhs; unfold spec_l8Sorted.l0
  rw [if_neg (by omega)]
 | succ n ih =>
  intro i acc hi ha
  have hlt : i < xs.length := by omega
  rw [List.drop_eq_getElem_cons hlt, List.foldl_cons]
  have h1 := put1_len xs[i] acc
  have := spec_put xs i hlt hx acc ha _ (ih (i + 1) _ (by omega) (by omega)) acc.length 0 (by omega) (by simp)
  refine Ev.step (fun k => ?_) this
  conv => lhs; unfold spec_l8Sorted.l0
  rw [if_pos (by omega)]
  rfl
theorem spec_sorted (xs : List Int) (hx : xs.length ≤ 1048576) : Ev (fun k => spec_l8Sorted.f k xs) (srt xs) := by
 have := spec_sorted_l0 xs hx xs.length 0 [] (by omega) (by simp)
 rw [List.drop_zero] at this
 exact this
theorem Ev.step2' {α : Type} {g f : Nat → Option α} {r : α} (h : ∀ k, g (k + 1 + 1) = f k) (k : Ev f r) : Ev g r := Ev.step (f := fun k => g (k + 1)) (fun _ => rfl) (Ev.step h k)
theorem rd_ints {l : List Nat} {j : Nat} (h : j < l.length) : rd (ints l) (j : Int) = (l[j] : Int) := by
 rw [rdZ (ints l) j (by rw [iLn]; exact h)]
 unfold ints
 simp
section
variable {p : List PM} (K : OkP p)
include K
theorem kS {i : Nat} (hi : i < p.length) : (nd (md p) i).kids.length ≤ i := by
 have him : i < (md p).length := by rw [mL]; exact hi
 have h := flat_len (F := fun _ => [0]) (K.tr.chain i him) (fun k hk => K.tr.le k (by omega)) (fun k hk => by
  have h1 := (K.tr.kid him hk).2
  have := K.tr.le k (by omega)
  show 1 ≤ _
  omega)
 have e : ∀ l : List Nat, (l.flatMap fun _ => [0]).length = l.length := by
  intro l
  induction l with
  | nil => rfl
  | cons x l ih => rw [List.flatMap_cons, List.length_append, ih]; show 1 + l.length = l.length + 1; omega
 rw [e] at h
 omega
theorem spec_null : ∀ i, i < p.length → Ev (fun k => spec_l8Null.f k p (i : Int)) (nul (md p) i) := by
 intro i
 induction i using Nat.strongRecOn with
 | _ i ih =>
 intro hi
 have him : i < (md p).length := by rw [mL]; exact hi
 have e : rd_T42 p (i : Int) = at_ p i := rfl
 have hk := K.f2 hi
 have e0 := nd_md hi
 have hkind : (nd (md p) i).kind = (at_ p i).f0 := by rw [e0]; rfl
 have hopt : (nd (md p) i).opt = optB (at_ p i) := by rw [e0]; rfl
 have hks := kS K hi
 have hm := K.most
 have hkid : ∀ k ∈ (nd (md p) i).kids, k < i := fun k hk => (K.tr.kid him hk).2
 rw [nul_eq K.tr.ahead him, hkind, hopt]
 have hall : ∀ (m j : Nat), j + m = (nd (md p) i).kids.length → Ev (fun k => spec_l8Null.l0 k p (j : Int) (at_ p i).f0 (at_ p i).f1 (at_ p i).f2 (at_ p i).f3) (((nd (md p) i).kids.drop j).all (nul (md p))) := by
  intro m
  induction m with
  | zero =>
   intro j hj
   rw [List.drop_of_length_le (by omega)]
   refine Ev.step (f := fun _ => some true) (fun k => ?_) (Ev.now _)
   conv => lhs; unfold spec_l8Null.l0
   rw [if_neg (by rw [hk, iLn]; omega)]
  | succ m ihm =>
   intro j hj
   have hlt : j < (nd (md p) i).kids.length := by omega
   have hjk := hkid _ (List.getElem_mem hlt)
   rw [List.drop_eq_getElem_cons hlt, List.all_cons]
   refine Ev.step (f := fun k => (spec_l8Null.f k p ((nd (md p) i).kids[j] : Int)).bind fun t => (if t = true then (spec_l8Null.l0 k p ((j + 1 : Nat) : Int) (at_ p i).f0 (at_ p i).f1 (at_ p i).f2 (at_ p i).f3) else (some false))) (fun k => ?_) (Ev.bind (ih _ hjk (by omega)) ?_)
   ·conv => lhs; unfold spec_l8Null.l0
    rw [if_pos (by rw [hk, iLn]; omega), if_pos (by omega), w1n hlt (by omega)]
    rw [show rd (at_ p i).f2 (j : Int) = ((nd (md p) i).kids[j] : Int) by rw [hk]; exact rd_ints hlt]
   ·cases nul (md p) (nd (md p) i).kids[j] with
    | true => simpa using ihm (j + 1) (by omega)
    | false => exact Ev.now _
 have hany : ∀ (m j : Nat), j + m = (nd (md p) i).kids.length → Ev (fun k => spec_l8Null.l1 k p (j : Int) (at_ p i).f0 (at_ p i).f1 (at_ p i).f2 (at_ p i).f3) (((nd (md p) i).kids.drop j).any (nul (md p))) := by
  intro m
  induction m with
  | zero =>
   intro j hj
   rw [List.drop_of_length_le (by omega)]
   refine Ev.step (f := fun _ => some false) (fun k => ?_) (Ev.now _)
   conv => lhs; unfold spec_l8Null.l1
   rw [if_neg (by rw [hk, iLn]; omega)]
  | succ m ihm =>
   intro j hj
   have hlt : j < (nd (md p) i).kids.length := by omega
   have hjk := hkid _ (List.getElem_mem hlt)
   rw [List.drop_eq_getElem_cons hlt, List.any_cons]
   refine Ev.step (f := fun k => (spec_l8Null.f k p ((nd (md p) i).kids[j] : Int)).bind fun t => (if t = true then (some true) else (spec_l8Null.l1 k p ((j + 1 : Nat) : Int) (at_ p i).f0 (at_ p i).f1 (at_ p i).f2 (at_ p i).f3))) (fun k => ?_) (Ev.bind (ih _ hjk (by omega)) ?_)
   ·conv => lhs; unfold spec_l8Null.l1
    rw [if_pos (by rw [hk, iLn]; omega), if_pos (by omega), w1n hlt (by omega)]
    rw [show rd (at_ p i).f2 (j : Int) = ((nd (md p) i).kids[j] : Int) by rw [hk]; exact rd_ints hlt]
   ·cases nul (md p) (nd (md p) i).kids[j] with
    | false => simpa using ihm (j + 1) (by omega)
    | true => exact Ev.now _
 have hyes : Ev (fun k => spec_l8Null.j0 k p true (at_ p i).f0 (at_ p i).f1 (at_ p i).f2 (at_ p i).f3) true := by
  refine Ev.step (f := fun _ => some true) (fun k => ?_) (Ev.now _)
  conv => lhs; unfold spec_l8Null.j0
  rw [if_pos rfl]
 by_cases c1 : (at_ p i).f3 = 1
 ·have ho : optB (at_ p i) = true := by unfold optB; rw [c1]; rfl
  rw [ho, Bool.or_true]
  refine Ev.step (fun k => ?_) hyes
  conv => lhs; unfold spec_l8Null.f
  rw [if_pos (by omega), if_pos (by omega), e, if_pos c1]
 ·by_cases c2 : (at_ p i).f3 = 2
  ·have ho : optB (at_ p i) = true := by unfold optB; rw [c2]; rfl
   rw [ho, Bool.or_true]
   refine Ev.step (fun k => ?_) hyes
   conv => lhs; unfold spec_l8Null.f
   rw [if_pos (by omega), if_pos (by omega), e, if_neg c1, beq_iff_eq.2 c2]
  ·have ho : optB (at_ p i) = false := by unfold optB; rw [beq_eq_false_iff_ne.2 c1, beq_eq_false_iff_ne.2 c2]; rfl
   rw [ho, Bool.or_false]
   refine Ev.step (f := fun k => spec_l8Null.j0 k p false (at_ p i).f0 (at_ p i).f1 (at_ p i).f2 (at_ p i).f3) (fun k => ?_) ?_
   ·conv => lhs; unfold spec_l8Null.f
    rw [if_pos (by omega), if_pos (by omega), e, if_neg c1, beq_eq_false_iff_ne.2 c2]
   ·by_cases k2 : (at_ p i).f0 = 2
    ·rw [if_pos k2]
     refine Ev.step (fun k => ?_) (hall _ 0 (Nat.zero_add _))
     conv => lhs; unfold spec_l8Null.j0
     rw [if_neg (by decide), if_pos k2]
     rfl
    ·rw [if_neg k2]
     by_cases k3 : (at_ p i).f0 = 3
     ·rw [if_pos k3]
      refine Ev.step (fun k => ?_) (hany _ 0 (Nat.zero_add _))
      conv => lhs; unfold spec_l8Null.j0
      rw [if_neg (by decide), if_neg k2, if_pos k3]
      rfl
     ·rw [if_neg k3]
      refine Ev.step (f := fun _ => some false) (fun k => ?_) (Ev.now _)
      conv => lhs; unfold spec_l8Null.j0
      rw [if_neg (by decide), if_neg k2, if_neg k3]
end
theorem rev_len (F : Nat → List Nat) : ∀ l : List Nat, (l.reverse.flatMap F).length = (l.flatMap F).length
 | [] => rfl
 | x :: l => by
  have h := rev_len F l
  simp only [List.reverse_cons, List.flatMap_append, List.length_append, List.flatMap_cons, List.flatMap_nil, List.append_nil, h]
  omega
theorem lstS_len {q : Md} {lo : Nat → Nat} (T : Tree q lo) : ∀ i, i < q.length → (lstS q i).length ≤ i + 1 - lo i := by
 intro i
 induction i using Nat.strongRecOn with
 | _ i ih =>
 intro hi
 have key := flat_len (F := lstS q) (T.chain i hi) (fun k hk => T.le k (by omega)) (fun k hk => ih k (T.kid hi hk).2 (by have := (T.kid hi hk).2; omega))
 have hle := T.le i hi
 rw [lstS_eq T.ahead hi]
 split
 ·simp; omega
 ·split
  ·rw [rev_len]; omega
  ·have := (pre_sub (N := nul q) (F := lstS q) (nd q i).kids.reverse).length_le
   rw [rev_len] at this
   omega
def edgS (q : Md) (last : Bool) (i : Nat) : List Nat := if last = true then lstS q i else fst q i
theorem edgS_len {q : Md} {lo : Nat → Nat} (T : Tree q lo) (last : Bool) (i : Nat) (hi : i < q.length) : (edgS q last i).length ≤ i + 1 - lo i := by
 unfold edgS
 split
 ·exact lstS_len T i hi
 ·exact edge_len T fst (.inl rfl) i hi
def goS (q : Md) (last : Bool) (kind : Int) (L : List Nat) : List Nat := if kind = 2 then pre (nul q) (edgS q last) L else L.flatMap (edgS q last)
theorem goS_cons (q : Md) (last : Bool) (kind : Int) (k : Nat) (L : List Nat) : goS q last kind (k :: L) = edgS q last k ++ (if kind = 2 ∧ ¬ nul q k = true then [] else goS q last kind L) := by
 unfold goS
 by_cases c : kind = 2
 ·simp only [if_pos c]
  rw [pre]
  by_cases n : nul q k = true
  ·rw [if_pos n, if_neg (fun h => h.2 n)]
  ·rw [if_neg n, if_pos ⟨c, n⟩]
 ·simp only [if_neg c]
  rw [List.flatMap_cons, if_neg (fun h => c h.1)]
section
variable {p : List PM} (K : OkP p)
include K
theorem edgS_eq (last : Bool) {i : Nat} (hi : i < p.length) : edgS (md p) last i = if posB (at_ p i) = true then [i] else goS (md p) last (at_ p i).f0 (if last = true then (nd (md p) i).kids.reverse else (nd (md p) i).kids) := by
 have him : i < (md p).length := by rw [mL]; exact hi
 have e0 := nd_md hi
 have hkind : (nd (md p) i).kind = (at_ p i).f0 := by rw [e0]; rfl
 have hpos : (nd (md p) i).pos = posB (at_ p i) := by rw [e0]; rfl
 have hg : ∀ L, goS (md p) last (at_ p i).f0 L = if (at_ p i).f0 = 2 then pre (nul (md p)) (edgS (md p) last) L else L.flatMap (edgS (md p) last) := fun _ => rfl
 by_cases c : posB (at_ p i) = true
 ·rw [if_pos c]
  unfold edgS
  split
  ·rw [lstS_eq K.tr.ahead him, hpos, if_pos c]
  ·rw [fst_eq K.tr.ahead him, hpos, if_pos c]
 ·rw [if_neg c, hg]
  have h23 : (at_ p i).f0 = 2 ∨ (at_ p i).f0 = 3 := by
   rcases K.kinds hi with ⟨a, b⟩ | a | ⟨a, b⟩
   ·exact absurd a c
   ·exact .inl a
   ·exact .inr a
  cases last with
  | true =>
   show lstS (md p) i = if _ then pre (nul (md p)) (lstS (md p)) _ else List.flatMap (lstS (md p)) _
   rw [lstS_eq K.tr.ahead him, hpos, if_neg c, hkind]
   rcases h23 with h | h
   ·rw [if_pos h, if_neg (by omega)]; rfl
   ·rw [if_pos h, if_neg (by omega)]; rfl
  | false =>
   show fst (md p) i = if _ then pre (nul (md p)) (fst (md p)) _ else List.flatMap (fst (md p)) _
   rw [fst_eq K.tr.ahead him, hpos, if_neg c, hkind]
   rcases h23 with h | h
   ·rw [if_pos h, if_neg (by omega)]; rfl
   ·rw [if_pos h, if_neg (by omega)]; rfl
theorem spec_edge (last : Bool) : ∀ i, i < p.length → Ev (fun k => spec_l8Edge.f k p (i : Int) last) (ints (edgS (md p) last i)) := by
 intro i
 induction i using Nat.strongRecOn with
 | _ i ih =>
 intro hi
 have him : i < (md p).length := by rw [mL]; exact hi
 have e : rd_T42 p (i : Int) = at_ p i := rfl
 have hk := K.f2 hi
 have hks := kS K hi
 have hm := K.most
 have hkid : ∀ k ∈ (nd (md p) i).kids, k < i := fun k hk => (K.tr.kid him hk).2
 obtain ⟨L, hL⟩ : ∃ L, (if last = true then (nd (md p) i).kids.reverse else (nd (md p) i).kids) = L := ⟨_, rfl⟩
 have hLl : L.length = (nd (md p) i).kids.length := by rw [← hL]; split <;> simp
 have hLm : ∀ k ∈ L, k < i := by
  intro k hk'
  rw [← hL] at hk'
  split at hk'
  ·exact hkid k (List.mem_reverse.1 hk')
  ·exact hkid k hk'
 have hfl : (L.flatMap (edgS (md p) last)).length ≤ i := by
  have h := flat_len (F := edgS (md p) last) (K.tr.chain i him) (fun k hk => K.tr.le k (by omega)) (fun k hk => edgS_len K.tr last k (by have := hkid k hk; omega))
  rw [← hL]
  split
  ·rw [rev_len]; omega
  ·omega
 have loop : ∀ (m j : Nat) (acc : List Int), j + m = L.length → acc.length + ((L.drop j).flatMap (edgS (md p) last)).length ≤ 40 → Ev (fun k => spec_l8Edge.l0 k p last acc (j : Int) (at_ p i).f0 (at_ p i).f1 (at_ p i).f2 (at_ p i).f3) (acc ++ ints (goS (md p) last (at_ p i).f0 (L.drop j))) := by
  intro m
  induction m with
  | zero =>
   intro j acc hj hl
   rw [List.drop_of_length_le (by omega)]
   have h0 : goS (md p) last (at_ p i).f0 [] = [] := by unfold goS; split <;> rfl
   rw [h0]
   refine Ev.step (f := fun _ => some acc) (fun k => ?_) ?_
   ·conv => lhs; unfold spec_l8Edge.l0
    rw [if_neg (by rw [hk, iLn]; omega)]
   ·rw [show acc ++ ints [] = acc from List.append_nil _]
    exact Ev.now _
  | succ m ihm =>
   intro j acc hj hl
   have hlt : j < L.length := by omega
   have hjk := hLm _ (List.getElem_mem hlt)
   rw [List.drop_eq_getElem_cons hlt] at hl ⊢
   rw [List.flatMap_cons, List.length_append] at hl
   rw [goS_cons, ints_app, ← List.append_assoc]
   obtain ⟨x10, hx0, hx1, hx2, hx3⟩ : ∃ x10 : Nat, (if last = true then wrap64 (wrap64 (((at_ p i).f2.length : Int) - 1) - (j : Int)) else (j : Int)) = (x10 : Int) ∧ x10 < (nd (md p) i).kids.length ∧ rd (at_ p i).f2 (x10 : Int) = (L[j] : Int) ∧ True := by
    cases last with
    | true =>
     refine ⟨(nd (md p) i).kids.length - 1 - j, ?_, by omega, ?_, trivial⟩
     ·rw [if_pos rfl, hk, iLn, w64 (n := ((nd (md p) i).kids.length : Int) - 1) (by omega) (by omega), w64 (by omega) (by omega)]
      omega
     ·rw [hk, rd_ints (by omega)]
      simp only [if_true] at hL
      subst hL
      rw [List.getElem_reverse]
    | false =>
     refine ⟨j, rfl, by omega, ?_, trivial⟩
     rw [hk, rd_ints (by omega)]
     simp only [Bool.false_eq_true, if_false] at hL
     subst hL
     rfl
   refine Ev.step2' (f := fun k => (spec_l8Edge.f k p (L[j] : Int) last).bind fun t191 => (if acc.length + t191.length < 17592186044416 then (if (at_ p i).f0 = 2 then ((spec_l8Null.f k p (L[j] : Int)).bind fun t198 => (if t198 = true then (spec_l8Edge.l0 k p last (acc ++ t191) ((j + 1 : Nat) : Int) (at_ p i).f0 (at_ p i).f1 (at_ p i).f2 (at_ p i).f3) else (some (acc ++ t191)))) else (spec_l8Edge.l0 k p last (acc ++ t191) ((j + 1 : Nat) : Int) (at_ p i).f0 (at_ p i).f1 (at_ p i).f2 (at_ p i).f3)) else none)) (fun k => ?_) (Ev.bind (ih _ hjk (by omega)) ?_)
   ·conv => lhs; unfold spec_l8Edge.l0
    rw [if_pos (by rw [hk, iLn]; omega)]
    have hj2 : (if last = true then (spec_l8Edge.j2 (k + 1) p last acc (j : Int) (wrap64 ((wrap64 (((at_ p i).f2.length : Int) - 1)) - (j : Int))) (at_ p i).f0 (at_ p i).f1 (at_ p i).f2 (at_ p i).f3) else (spec_l8Edge.j2 (k + 1) p last acc (j : Int) (j : Int) (at_ p i).f0 (at_ p i).f1 (at_ p i).f2 (at_ p i).f3)) = spec_l8Edge.j2 (k + 1) p last acc (j : Int) (x10 : Int) (at_ p i).f0 (at_ p i).f1 (at_ p i).f2 (at_ p i).f3 := by
     rw [← hx0]
     split <;> rfl
    rw [hj2]
    conv => lhs; unfold spec_l8Edge.j2
    rw [if_pos (by omega), if_pos (by rw [hk, iLn]; omega), hx2, w1n hlt (by omega)]
    rfl
   ·rw [iLn]
    have hacc : (acc ++ ints (edgS (md p) last L[j])).length = acc.length + (edgS (md p) last L[j]).length := by rw [List.length_append, iLn]
    have hgo := ihm (j + 1) (acc ++ ints (edgS (md p) last L[j])) (by omega) (by rw [hacc]; omega)
    by_cases c2 : (at_ p i).f0 = 2
    ·refine Ev.congr (f := fun k => (spec_l8Null.f k p (L[j] : Int)).bind fun t198 => (if t198 = true then (spec_l8Edge.l0 k p last (acc ++ ints (edgS (md p) last L[j])) ((j + 1 : Nat) : Int) (at_ p i).f0 (at_ p i).f1 (at_ p i).f2 (at_ p i).f3) else (some (acc ++ ints (edgS (md p) last L[j]))))) (fun k => ?_) (Ev.bind (spec_null K L[j] (by omega)) ?_)
     ·rw [if_pos (by omega), if_pos c2]
     ·by_cases n : nul (md p) L[j] = true
      ·rw [if_neg (fun h => h.2 n)]
       simpa only [if_pos n] using hgo
      ·rw [if_pos ⟨c2, n⟩]
       simp only [if_neg n]
       rw [show ints [] = [] from rfl, List.append_nil]
       exact Ev.now _
    ·rw [if_neg (fun h => c2 h.1)]
     refine Ev.congr (fun k => ?_) hgo
     rw [if_pos (by omega), if_neg c2]
 rw [edgS_eq K last hi, hL]
 by_cases c : posB (at_ p i) = true
 ·rw [if_pos c]
  have hnil : (at_ p i).f2 = [] := by
   rcases K.kinds hi with ⟨a, b⟩ | a | ⟨a, b⟩
   ·exact b
   ·unfold posB at c; rw [a] at c; exact absurd c (by decide)
   ·unfold posB at c; rw [a] at c; exact absurd c (by decide)
  have hne : ((at_ p i).f0 != 2) = true := by
   rw [bne_iff_ne]
   intro h
   unfold posB at c; rw [h] at c; exact absurd c (by decide)
  refine Ev.step (f := fun k => spec_l8Edge.j0 k p (i : Int) last true (at_ p i).f0 (at_ p i).f1 (at_ p i).f2 (at_ p i).f3) (fun k => ?_) (Ev.step (f := fun _ => some [(i : Int)]) (fun k => ?_) (Ev.now _))
  ·conv => lhs; unfold spec_l8Edge.f
   rw [if_pos (by omega), if_pos (by omega), e, if_pos (by rw [hnil]; rfl), hne]
  ·conv => lhs; unfold spec_l8Edge.j0
   rw [if_pos rfl]
 ·rw [if_neg c]
  have hgo := loop L.length 0 [] (Nat.zero_add _) (by rw [List.drop_zero]; show 0 + _ ≤ 40; omega)
  rw [List.drop_zero, List.nil_append] at hgo
  refine Ev.step (f := fun k => spec_l8Edge.j0 k p (i : Int) last false (at_ p i).f0 (at_ p i).f1 (at_ p i).f2 (at_ p i).f3) (fun k => ?_) (Ev.step (fun k => ?_) hgo)
  ·conv => lhs; unfold spec_l8Edge.f
   rw [if_pos (by omega), if_pos (by omega), e]
   by_cases hz : (((at_ p i).f2).length : Int) = 0
   ·have h2 : (at_ p i).f0 = 2 := by
     rcases K.kinds hi with ⟨a, b⟩ | a | ⟨a, b⟩
     ·exact absurd a c
     ·exact a
     ·omega
    rw [if_pos hz, h2]
    rfl
   ·rw [if_neg hz]
  ·conv => lhs; unfold spec_l8Edge.j0
   rw [if_neg (by decide)]
   rfl
end
end Go.Proofs.Ytajdfbgbkgabjaa.Pure
namespace Go.Proofs.Ytajdfbgbkgabjaa.L
open Go.RowKit YtajdfbgbkgabjaaW.PrintWords YtajdfbgbkgabjaaW.PrintLast YtajdfbgbkgabjaaW.PrintMore
set_option linter.unusedVariables false
set_option linter.unusedSimpArgs false
def last_of.T4 : Bool × List (List Nat × List Nat) := (true, [([], []), ([0], [0]), ([1], [1]), ([2], [2]), ([], []), ([4], [4]), ([3, 5], [3, 5]), ([6], [6]), ([7, 5], [7]), ([8, 8, 0, 1, 2, 3, 4, 5, 6, 7, 8], [8])])
def last_of.B4 : List Nat := [0, 1, 3, 7, 0, 16, 63, 127, 255, 511]
theorem last_of.tab4 : rtab .any (opsOf Try.f42 4) = last_of.T4 := by kernel_rfl
theorem last_of.bits4 : waitsOk last_of.T4.2 last_of.B4 = true := by kernel_rfl
end Go.Proofs.Ytajdfbgbkgabjaa.L
namespace Go.Proofs.Ytajdfbgbkgabjaa.Pure
open Go.RowKit Ytajdfbgbkgabjaa.L YtajdfbgbkgabjaaW.PrintWords YtajdfbgbkgabjaaW.PrintLast YtajdfbgbkgabjaaW.PrintMore
open MT
set_option linter.unusedVariables false
set_option linter.unusedSimpArgs false
theorem spec_has (l : List Nat) (a : Nat) (hl : l.length ≤ 1048576) : Ev (fun k => spec_l8Has.f k (ints l) (a : Int)) (decide (a ∈ l)) := by
 have loop : ∀ (m j : Nat), j + m = l.length → Ev (fun k => spec_l8Has.l0 k (ints l) (a : Int) (j : Int)) (decide (a ∈ l.drop j)) := by
  intro m
  induction m with
  | zero =>
   intro j hj
   rw [List.drop_of_length_le (by omega)]
   refine Ev.step (f := fun _ => some false) (fun k => ?_) (Ev.now _)
   conv => lhs; unfold spec_l8Has.l0
   rw [if_neg (by rw [iLn]; omega)]
  | succ m ih =>
   intro j hj
   have hlt : j < l.length := by omega
   rw [List.drop_eq_getElem_cons hlt]
   by_cases c : (l[j] : Int) = (a : Int)
   ·rw [decide_eq_true (List.mem_cons.2 (.inl (by omega)) : a ∈ l[j] :: l.drop (j + 1))]
    refine Ev.step (f := fun _ => some true) (fun k => ?_) (Ev.now _)
    conv => lhs; unfold spec_l8Has.l0
    rw [if_pos (by rw [iLn]; omega), if_pos (by omega), rd_ints hlt, if_pos c]
   ·rw [show decide (a ∈ l[j] :: l.drop (j + 1)) = decide (a ∈ l.drop (j + 1)) from decide_eq_decide.2 (by
     rw [List.mem_cons]
     constructor
     ·rintro (h | h)
      ·exact absurd (by omega) c
      ·exact h
     ·exact .inr)]
    refine Ev.step (fun k => ?_) (ih (j + 1) (by omega))
    conv => lhs; unfold spec_l8Has.l0
    rw [if_pos (by rw [iLn]; omega), if_pos (by omega), rd_ints hlt, if_neg c, w1n hlt (by omega)]
 have := loop l.length 0 (Nat.zero_add _)
 rw [List.drop_zero] at this
 exact this
section
variable {p : List PM} (K : OkP p)
include K
theorem e_false {i : Nat} (hi : i < p.length) : Ev (fun k => spec_l8Edge.f k p (i : Int) false) (ints (fst (md p) i)) := spec_edge K false i hi
theorem e_true {i : Nat} (hi : i < p.length) : Ev (fun k => spec_l8Edge.f k p (i : Int) true) (ints (lstS (md p) i)) := spec_edge K true i hi
theorem len_fst {i : Nat} (hi : i < p.length) : (fst (md p) i).length ≤ 40 := by
 have := edge_len K.tr fst (.inl rfl) i (by rw [mL]; exact hi)
 have := K.most
 omega
theorem len_lstS {i : Nat} (hi : i < p.length) : (lstS (md p) i).length ≤ 40 := by
 have := lstS_len K.tr i (by rw [mL]; exact hi)
 have := K.most
 omega
theorem len_pre {i : Nat} (hi : i < p.length) (j : Nat) : (pre (nul (md p)) (fst (md p)) ((nd (md p) i).kids.drop j)).length ≤ 40 := by
 have him : i < (md p).length := by rw [mL]; exact hi
 have h1 := (pre_sub (N := nul (md p)) (F := fst (md p)) ((nd (md p) i).kids.drop j)).length_le
 have h2 := flat_len (F := fst (md p)) (K.tr.chain i him) (fun k hk => K.tr.le k (by omega)) (fun k hk => edge_len K.tr fst (.inl rfl) k (by have := (K.tr.kid him hk).2; omega))
 have h3 := congrArg List.length (congrArg (List.flatMap (fst (md p))) (List.take_append_drop j (nd (md p) i).kids))
 rw [List.flatMap_append, List.length_append] at h3
 have := K.most
 omega
theorem len_aftr {i : Nat} (hi : i < p.length) (n : Nat) : ∀ (m j : Nat), j + m = (nd (md p) i).kids.length → (aftr (md p) n ((nd (md p) i).kids.drop j)).length ≤ 40 * m
 | 0, j, h => by rw [List.drop_of_length_le (by omega)]; simp [aftr]
 | m + 1, j, h => by
  rw [List.drop_eq_getElem_cons (by omega), aftr, List.length_append]
  have h1 := len_aftr hi n m (j + 1) (by omega)
  have h2 := len_pre K hi (j + 1)
  split
  ·omega
  ·simp only [List.length_nil]; omega
theorem spec_follow_l2 {i a : Nat} (hi : i < p.length) (j B : Nat) (x8 : Int) (hx8 : wrap64 (x8 + 1) = ((j : Nat) : Int)) (hB : B ≤ 1048576) (R : List Int → List Int) (hR : ∀ acc : List Int, acc.length ≤ B → Ev (fun k => spec_l8Follow.l1 k p (a : Int) acc (i : Int) (j : Int) (at_ p i).f0 (at_ p i).f1 (at_ p i).f2 (at_ p i).f3) (R acc)) :
  ∀ (m q : Nat) (acc : List Int), q + m = (nd (md p) i).kids.length → acc.length + (pre (nul (md p)) (fst (md p)) ((nd (md p) i).kids.drop q)).length ≤ B → Ev (fun k => spec_l8Follow.l2 k p (a : Int) acc (i : Int) x8 (q : Int) (at_ p i).f0 (at_ p i).f1 (at_ p i).f2 (at_ p i).f3) (R (acc ++ ints (pre (nul (md p)) (fst (md p)) ((nd (md p) i).kids.drop q)))) := by
 have hk := K.f2 hi
 have him : i < (md p).length := by rw [mL]; exact hi
 have hks := kS K hi
 have hm := K.most
 intro m
 induction m with
 | zero =>
  intro q acc hq hl
  rw [List.drop_of_length_le (by omega)] at hl ⊢
  rw [show acc ++ ints (pre (nul (md p)) (fst (md p)) []) = acc from List.append_nil _]
  refine Ev.step (fun k => ?_) (hR acc (by omega))
  conv => lhs; unfold spec_l8Follow.l2
  rw [if_neg (by rw [hk, iLn]; omega), hx8]
 | succ m ih =>
  intro q acc hq hl
  have hlt : q < (nd (md p) i).kids.length := by omega
  have hki : (nd (md p) i).kids[q] < i := (K.tr.kid him (List.getElem_mem hlt)).2
  rw [List.drop_eq_getElem_cons hlt] at hl ⊢
  rw [pre] at hl ⊢
  rw [List.length_append] at hl
  have hf := len_fst K (show (nd (md p) i).kids[q] < p.length by omega)
  have hacc : (acc ++ ints (fst (md p) (nd (md p) i).kids[q])).length = acc.length + (fst (md p) (nd (md p) i).kids[q]).length := by rw [List.length_append, iLn]
  refine Ev.step (f := fun k => (spec_l8Edge.f k p ((nd (md p) i).kids[q] : Int) false).bind fun t371 => (if acc.length + t371.length < 17592186044416 then ((some (acc ++ t371 : List Int)).bind fun y374 => ((spec_l8Null.f k p ((nd (md p) i).kids[q] : Int)).bind fun t378 => (if t378 = true then (spec_l8Follow.l2 k p (a : Int) y374 (i : Int) x8 ((q + 1 : Nat) : Int) (at_ p i).f0 (at_ p i).f1 (at_ p i).f2 (at_ p i).f3) else (spec_l8Follow.l1 k p (a : Int) y374 (i : Int) (j : Int) (at_ p i).f0 (at_ p i).f1 (at_ p i).f2 (at_ p i).f3)))) else (none))) (fun k => ?_) (Ev.bind (e_false K (show (nd (md p) i).kids[q] < p.length by omega)) ?_)
  ·conv => lhs; unfold spec_l8Follow.l2
   rw [if_pos (by rw [hk, iLn]; omega), if_pos (by omega), hx8, w1n hlt (by omega)]
   rw [show rd (at_ p i).f2 (q : Int) = ((nd (md p) i).kids[q] : Int) by rw [hk]; exact rd_ints hlt]
  ·rw [iLn]
   have hgo : Ev (fun k => (spec_l8Null.f k p ((nd (md p) i).kids[q] : Int)).bind fun t378 => (if t378 = true then (spec_l8Follow.l2 k p (a : Int) (acc ++ ints (fst (md p) (nd (md p) i).kids[q])) (i : Int) x8 ((q + 1 : Nat) : Int) (at_ p i).f0 (at_ p i).f1 (at_ p i).f2 (at_ p i).f3) else (spec_l8Follow.l1 k p (a : Int) (acc ++ ints (fst (md p) (nd (md p) i).kids[q])) (i : Int) (j : Int) (at_ p i).f0 (at_ p i).f1 (at_ p i).f2 (at_ p i).f3))) (R (acc ++ ints (fst (md p) (nd (md p) i).kids[q] ++ if nul (md p) (nd (md p) i).kids[q] = true then pre (nul (md p)) (fst (md p)) ((nd (md p) i).kids.drop (q + 1)) else []))) := by
    refine Ev.bind (spec_null K (nd (md p) i).kids[q] (by omega)) ?_
    by_cases n : nul (md p) (nd (md p) i).kids[q] = true
    ·simp only [if_pos n] at hl ⊢
     rw [ints_app, ← List.append_assoc]
     exact ih (q + 1) _ (by omega) (by rw [hacc]; omega)
    ·simp only [if_neg n, List.append_nil]
     exact hR _ (by rw [hacc]; omega)
   refine Ev.congr (fun k => ?_) hgo
   rw [if_pos (by omega)]
   rfl
theorem spec_follow_l1 {i a : Nat} (hi : i < p.length) (R : List Int → List Int) (hR : ∀ acc : List Int, acc.length ≤ 1640 * (i + 1) → Ev (fun k => spec_l8Follow.l0 k p (a : Int) acc ((i + 1 : Nat) : Int)) (R acc)) :
  ∀ (m j : Nat) (acc : List Int), j + m = (nd (md p) i).kids.length → acc.length + (aftr (md p) a ((nd (md p) i).kids.drop j)).length ≤ 1640 * (i + 1) → Ev (fun k => spec_l8Follow.l1 k p (a : Int) acc (i : Int) (j : Int) (at_ p i).f0 (at_ p i).f1 (at_ p i).f2 (at_ p i).f3) (R (acc ++ ints (aftr (md p) a ((nd (md p) i).kids.drop j)))) := by
 have hk := K.f2 hi
 have him : i < (md p).length := by rw [mL]; exact hi
 have hks := kS K hi
 have hm := K.most
 intro m
 induction m with
 | zero =>
  intro j acc hj hl
  rw [List.drop_of_length_le (by omega)] at hl ⊢
  rw [show acc ++ ints (aftr (md p) a []) = acc from List.append_nil _]
  refine Ev.step (fun k => ?_) (hR acc (by omega))
  conv => lhs; unfold spec_l8Follow.l1
  rw [if_neg (by rw [hk, iLn]; omega), w1n hi (by omega)]
 | succ m ih =>
  intro j acc hj hl
  have hlt : j < (nd (md p) i).kids.length := by omega
  have hki : (nd (md p) i).kids[j] < i := (K.tr.kid him (List.getElem_mem hlt)).2
  rw [List.drop_eq_getElem_cons hlt] at hl ⊢
  rw [aftr] at hl ⊢
  rw [List.length_append] at hl
  refine Ev.step (f := fun k => (spec_l8Edge.f k p ((nd (md p) i).kids[j] : Int) true).bind fun t366 => ((spec_l8Has.f k t366 (a : Int)).bind fun t369 => (if t369 = true then (spec_l8Follow.l2 k p (a : Int) acc (i : Int) (j : Int) ((j + 1 : Nat) : Int) (at_ p i).f0 (at_ p i).f1 (at_ p i).f2 (at_ p i).f3) else (spec_l8Follow.l1 k p (a : Int) acc (i : Int) ((j + 1 : Nat) : Int) (at_ p i).f0 (at_ p i).f1 (at_ p i).f2 (at_ p i).f3)))) (fun k => ?_) (Ev.bind (e_true K (show (nd (md p) i).kids[j] < p.length by omega)) (Ev.bind (spec_has _ a (by have := len_lstS K (show (nd (md p) i).kids[j] < p.length by omega); omega)) ?_))
  ·conv => lhs; unfold spec_l8Follow.l1
   rw [if_pos (by rw [hk, iLn]; omega), if_pos (by omega), w1n hlt (by omega)]
   rw [show rd (at_ p i).f2 (j : Int) = ((nd (md p) i).kids[j] : Int) by rw [hk]; exact rd_ints hlt]
  ·by_cases n : a ∈ lstS (md p) (nd (md p) i).kids[j]
   ·rw [if_pos n] at hl ⊢
    rw [decide_eq_true n, ints_app, ← List.append_assoc]
    simp only [if_true]
    refine spec_follow_l2 K hi (j + 1) (1640 * (i + 1) - (aftr (md p) a ((nd (md p) i).kids.drop (j + 1))).length) (j : Int) (w1n hlt (by omega)) (by omega) (fun acc => R (acc ++ ints (aftr (md p) a ((nd (md p) i).kids.drop (j + 1))))) (fun acc' hl' => ih (j + 1) acc' (by omega) (by omega)) m (j + 1) acc (by omega) (by omega)
   ·rw [if_neg n] at hl ⊢
    rw [decide_eq_false n, List.nil_append]
    simpa using ih (j + 1) acc (by omega) (by simpa using hl)
theorem oft_three {i : Nat} (hi : i < p.length) : oftB (at_ p i) = decide ((at_ p i).f3 ≥ 2) := by
 have h := K.ok i hi
 unfold okN at h
 simp only [Bool.and_eq_true, decide_eq_true_eq] at h
 unfold oftB
 by_cases c : (at_ p i).f3 ≥ 2
 ·rw [decide_eq_true c]
  by_cases c2 : (at_ p i).f3 = 2
  ·rw [c2]; rfl
  ·rw [show (at_ p i).f3 = 3 by omega]; rfl
 ·rw [decide_eq_false c, beq_eq_false_iff_ne.2 (by omega), beq_eq_false_iff_ne.2 (by omega)]; rfl
theorem spec_follow (a : Nat) : Ev (fun k => spec_l8Follow.f k p (a : Int)) (srt (ints (folS (md p) a))) := by
 have hm := K.most
 have loop : ∀ (m i : Nat) (acc : List Int), i + m = p.length → acc.length ≤ 1640 * i → Ev (fun k => spec_l8Follow.l0 k p (a : Int) acc (i : Int)) (srt (acc ++ ints ((List.range' i m).flatMap (adds (md p) a)))) := by
  intro m
  induction m with
  | zero =>
   intro i acc hi hl
   rw [List.range'_zero, show acc ++ ints (List.flatMap (adds (md p) a) []) = acc from List.append_nil _]
   refine Ev.step (f := fun k => (spec_l8Sorted.f k acc).bind fun t350 => some t350) (fun k => ?_) (Ev.bind (spec_sorted acc (by omega)) (Ev.now _))
   conv => lhs; unfold spec_l8Follow.l0
   rw [if_neg (by omega)]
  | succ m ih =>
   intro i acc hi hl
   have hil : i < p.length := by omega
   have hil' : i < (md p).length := by rw [mL]; exact hil
   have e : rd_T42 p (i : Int) = at_ p i := rfl
   have e0 := nd_md hil
   have hkind : (nd (md p) i).kind = (at_ p i).f0 := by rw [e0]; rfl
   have hoft : (nd (md p) i).oft = oftB (at_ p i) := by rw [e0]; rfl
   have hfl := len_fst K hil
   rw [List.range'_succ, List.flatMap_cons, ints_app, ← List.append_assoc]
   have hal := len_aftr K hil a (nd (md p) i).kids.length 0 (Nat.zero_add _)
   rw [List.drop_zero] at hal
   have hks := kS K hil
   have hj2 : ∀ acc2 : List Int, acc2.length ≤ 1640 * i + 40 → Ev (fun k => spec_l8Follow.j2 k p (a : Int) acc2 (i : Int) (at_ p i).f0 (at_ p i).f1 (at_ p i).f2 (at_ p i).f3) (srt ((acc2 ++ ints (if (nd (md p) i).kind = 2 then aftr (md p) a (nd (md p) i).kids else [])) ++ ints ((List.range' (i + 1) m).flatMap (adds (md p) a)))) := by
    intro acc2 hl2
    rw [hkind]
    by_cases k2 : (at_ p i).f0 = 2
    ·rw [if_pos k2]
     have h1 := spec_follow_l1 K (a := a) hil (fun acc => srt (acc ++ ints ((List.range' (i + 1) m).flatMap (adds (md p) a)))) (fun acc' hl' => ih (i + 1) acc' (by omega) hl') (nd (md p) i).kids.length 0 acc2 (Nat.zero_add _) (by rw [List.drop_zero]; omega)
     rw [List.drop_zero] at h1
     refine Ev.step (fun k => ?_) h1
     conv => lhs; unfold spec_l8Follow.j2
     rw [if_pos k2]
     rfl
    ·rw [if_neg k2, show acc2 ++ ints [] = acc2 from List.append_nil _]
     refine Ev.step (fun k => ?_) (ih (i + 1) acc2 (by omega) (by omega))
     conv => lhs; unfold spec_l8Follow.j2
     rw [if_neg k2, w1n hil (by omega)]
   unfold adds
   rw [ints_app, ← List.append_assoc, hoft, oft_three K hil]
   have hno : Ev (fun k => spec_l8Follow.j1 k p (a : Int) acc (i : Int) false (at_ p i).f0 (at_ p i).f1 (at_ p i).f2 (at_ p i).f3) (srt ((acc ++ ints (if (nd (md p) i).kind = 2 then aftr (md p) a (nd (md p) i).kids else [])) ++ ints ((List.range' (i + 1) m).flatMap (adds (md p) a)))) := by
    refine Ev.step (fun k => ?_) (hj2 acc (by omega))
    conv => lhs; unfold spec_l8Follow.j1
    rw [if_neg (by decide)]
   by_cases c3 : (at_ p i).f3 ≥ 2
   ·refine Ev.step (f := fun k => (spec_l8Edge.f k p (i : Int) true).bind fun t355 => ((spec_l8Has.f k t355 (a : Int)).bind fun t358 => (spec_l8Follow.j1 k p (a : Int) acc (i : Int) t358 (at_ p i).f0 (at_ p i).f1 (at_ p i).f2 (at_ p i).f3))) (fun k => ?_) (Ev.bind (e_true K hil) (Ev.bind (spec_has _ a (by have := len_lstS K hil; omega)) ?_))
    ·conv => lhs; unfold spec_l8Follow.l0
     rw [if_pos (by omega), if_pos (by omega), e, if_pos c3]
    ·by_cases n : a ∈ lstS (md p) i
     ·rw [decide_eq_true n, if_pos ⟨decide_eq_true c3, n⟩]
      refine Ev.step (f := fun k => (spec_l8Edge.f k p (i : Int) false).bind fun t359 => (if acc.length + t359.length < 17592186044416 then (spec_l8Follow.j2 k p (a : Int) (acc ++ t359) (i : Int) (at_ p i).f0 (at_ p i).f1 (at_ p i).f2 (at_ p i).f3) else (none))) (fun k => ?_) (Ev.bind (e_false K hil) ?_)
      ·conv => lhs; unfold spec_l8Follow.j1
       rw [if_pos rfl]
      ·refine Ev.congr (fun k => ?_) (hj2 (acc ++ ints (fst (md p) i)) (by rw [List.length_append, iLn]; omega))
       rw [if_pos (by rw [iLn]; omega)]
     ·rw [decide_eq_false n, if_neg (fun h => n h.2), show acc ++ ints [] = acc from List.append_nil _]
      exact hno
   ·rw [if_neg (fun h => c3 (of_decide_eq_true h.1)), show acc ++ ints [] = acc from List.append_nil _]
    refine Ev.step (fun k => ?_) hno
    conv => lhs; unfold spec_l8Follow.l0
    rw [if_pos (by omega), if_pos (by omega), e, if_neg c3]
 have := loop p.length 0 [] (Nat.zero_add _) (by simp)
 rw [← List.range_eq_range'] at this
 unfold folS
 rw [mL]
 exact this
end
theorem ris_len : ∀ (n : Nat) (l : List Int), Ris l → (∀ x ∈ l, 0 ≤ x ∧ x < (n : Int)) → l.length ≤ n := by
 have key : ∀ (l : List Int) (lo hi : Int), Ris l → (∀ x ∈ l, lo ≤ x ∧ x < hi) → lo ≤ hi → (l.length : Int) ≤ hi - lo := by
  intro l
  induction l with
  | nil => intro lo hi _ _ h; simp; omega
  | cons x l ih =>
   intro lo hi hr hb h
   have hx := hb x (by simp)
   unfold Ris at hr
   rw [List.pairwise_cons] at hr
   have := ih (x + 1) hi hr.2 (fun y hy => ⟨by have := hr.1 y hy; omega, (hb y (by simp [hy])).2⟩) (by omega)
   simp only [List.length_cons]
   omega
 intro n l hr hb
 have := key l 0 n hr hb (by omega)
 omega
section
variable {p : List PM} (K : OkP p)
include K
theorem next_first {N : NetV} (HN : NetI p p.length N) : nextF N p.length (-1) = srt (ints (fst (md p) (p.length - 1))) := by
 have ho := K.one
 have hr : p.length - 1 < p.length := by omega
 have hnd := edge_nodup K.tr fst (.inl rfl) (p.length - 1) (by rw [mL]; exact hr)
 have hrd : rdL N.fst ((p.length : Int) - 1) = ints (fst (md p) (p.length - 1)) := by
  rw [show (p.length : Int) - 1 = ((p.length - 1 : Nat) : Int) by omega, HN.fst]
  exact rR hr
 unfold nextF
 rw [if_pos (by decide), hrd]
 exact isort_srt (ints_nodup hnd) (fun _ => Iff.rfl)
theorem next_fol {N : NetV} (HN : NetI p p.length N) {n : Nat} (hn : n < p.length) : nextF N p.length (n : Int) = srt (ints (folS (md p) n)) := by
 unfold nextF
 rw [if_neg (by omega)]
 refine srt_congr (fun x => ?_)
 rw [HN.fol.mem n hn x, mI]
 constructor
 ·rintro ⟨b, e, hb⟩
  refine ⟨b, e, (mem_folS K.tr.ahead).2 ?_⟩
  obtain ⟨j, hj, hb⟩ := hb
  exact ⟨j, by rw [mL]; exact hj, hb⟩
 ·rintro ⟨b, e, hb⟩
  obtain ⟨j, hj, hb⟩ := (mem_folS K.tr.ahead).1 hb
  exact ⟨b, e, j, by rw [mL] at hj; exact hj, hb⟩
theorem fst_in : ∀ a ∈ srt (ints (fst (md p) (p.length - 1))), 0 ≤ a ∧ a < (p.length : Int) := by
 intro x hx
 have ho := K.one
 obtain ⟨b, e, hb⟩ := mI.1 (mem_srt.1 hx)
 have := edge_in K.tr fst (.inl rfl) (p.length - 1) (by rw [mL]; omega) b hb
 omega
theorem fol_in (n : Nat) : ∀ a ∈ srt (ints (folS (md p) n)), 0 ≤ a ∧ a < (p.length : Int) := by
 intro x hx
 obtain ⟨b, e, hb⟩ := mI.1 (mem_srt.1 hx)
 obtain ⟨j, hj, hb⟩ := (mem_folS K.tr.ahead).1 hb
 rw [mL] at hj
 have := (led_le K hj hb).2
 omega
theorem srt_small {l : List Int} (h : ∀ a ∈ srt l, 0 ≤ a ∧ a < (p.length : Int)) : (srt l).length ≤ 40 := Nat.le_trans (ris_len p.length _ (up_srt _) h) K.most
end
end Go.Proofs.Ytajdfbgbkgabjaa.Pure
namespace Go.Proofs.Ytajdfbgbkgabjaa.Pure
set_option linter.unusedVariables false
set_option linter.unusedSimpArgs false
namespace MT
variable {α : Type} {N : Nat → Prop} {F L D : Nat → Nat → Prop} {R : Nat → Nat → Nat → Prop} {t : Nat → α → Prop}
def Lnk (R : Nat → Nat → Prop) : List Nat → Prop
 | [] => True
 | [_] => True
 | a :: b :: l => R a b ∧ Lnk R (b :: l)
theorem Lnk.imp {R R' : Nat → Nat → Prop} (h : ∀ a b, R a b → R' a b) : ∀ {l : List Nat}, Lnk R l → Lnk R' l
 | [], _ => trivial
 | [_], _ => trivial
 | a :: b :: l, hl => ⟨h a b hl.1, Lnk.imp h hl.2⟩
theorem Lnk.app {R : Nat → Nat → Prop} : ∀ {l : List Nat} {a b : Nat} {m : List Nat}, Lnk R (l ++ [a]) → R a b → Lnk R (b :: m) → Lnk R (l ++ a :: b :: m)
 | [], a, b, m, _, h, hm => ⟨h, hm⟩
 | [x], a, b, m, hl, h, hm => ⟨hl.1, h, hm⟩
 | x :: y :: l, a, b, m, hl, h, hm => ⟨hl.1, Lnk.app (l := y :: l) hl.2 h hm⟩
def Fit (t : Nat → α → Prop) : List Nat → List α → Prop
 | [], [] => True
 | c :: cs, x :: w => t c x ∧ Fit t cs w
 | _, _ => False
theorem Fit.app {t : Nat → α → Prop} : ∀ {c c' : List Nat} {w w' : List α}, Fit t c w → Fit t c' w' → Fit t (c ++ c') (w ++ w')
 | [], _, [], _, _, h => h
 | _ :: _, _, _ :: _, _, h, h' => ⟨h.1, Fit.app h.2 h'⟩
 | [], _, _ :: _, _, h, _ => h.elim
 | _ :: _, _, [], _, h, _ => h.elim
theorem Fit.cut {t : Nat → α → Prop} : ∀ {c c' : List Nat} {w : List α}, Fit t (c ++ c') w → ∃ u v, w = u ++ v ∧ Fit t c u ∧ Fit t c' v
 | [], _, w, h => ⟨[], w, rfl, trivial, h⟩
 | x :: c, c', y :: w, h => by
  obtain ⟨u, v, e, h1, h2⟩ := Fit.cut (c := c) h.2
  exact ⟨y :: u, v, by rw [e]; rfl, ⟨h.1, h1⟩, h2⟩
 | _ :: _, _, [], h => h.elim
def PL (t : Nat → α → Prop) (N : Prop) (F L : Nat → Prop) (R : Nat → Nat → Prop) (w : List α) : Prop :=
 (w = [] ∧ N) ∨ ∃ c m z, F c ∧ L z ∧ (∃ cs, cs = m ++ [z] ∧ cs.head? = some c ∧ Lnk R cs ∧ Fit t cs w)
theorem last_cut : ∀ (l : List Nat) (z b : Nat) (n : List Nat), (l ++ z :: b :: n).getLast? = (b :: n).getLast?
 | [], z, b, n => by simp
 | [x], z, b, n => by simp
 | x :: y :: l, z, b, n => by
  have := last_cut (y :: l) z b n
  rw [← this]
  simp
def Cat (G : Nat → List α → Prop) : List Nat → List α → Prop
 | [], w => w = []
 | k :: ks, w => ∃ u v, w = u ++ v ∧ G k u ∧ Cat G ks v
inductive Plus (G : List α → Prop) : List α → Prop
 | one {w : List α} : G w → Plus G w
 | more {u v : List α} : G u → Plus G v → Plus G (u ++ v)
theorem PL.congr {t : Nat → α → Prop} {N N' : Prop} {F F' L L' : Nat → Prop} {R R' : Nat → Nat → Prop} {w : List α} (hN : N ↔ N') (hF : ∀ a, F a ↔ F' a) (hL : ∀ a, L a ↔ L' a) (hR : ∀ a b, R a b ↔ R' a b) : PL t N F L R w ↔ PL t N' F' L' R' w := by
 obtain rfl : N = N' := propext hN
 obtain rfl : F = F' := funext fun a => propext (hF a)
 obtain rfl : L = L' := funext fun a => propext (hL a)
 obtain rfl : R = R' := funext fun a => funext fun b => propext (hR a b)
 exact Iff.rfl
section
variable {t : Nat → α → Prop} {N : Nat → Prop} {F L D : Nat → Nat → Prop} {R : Nat → Nat → Nat → Prop}
def SF (N : Nat → Prop) (F : Nat → Nat → Prop) (ks : List Nat) (a : Nat) : Prop := ∃ us k vs, ks = us ++ k :: vs ∧ (∀ u ∈ us, N u) ∧ F k a
def SL (N : Nat → Prop) (L : Nat → Nat → Prop) (ks : List Nat) (a : Nat) : Prop := ∃ us k vs, ks = us ++ k :: vs ∧ (∀ v ∈ vs, N v) ∧ L k a
def SR (N : Nat → Prop) (F L : Nat → Nat → Prop) (R : Nat → Nat → Nat → Prop) (ks : List Nat) (a b : Nat) : Prop :=
 (∃ k ∈ ks, R k a b) ∨ ∃ us k mid k' vs, ks = us ++ k :: (mid ++ k' :: vs) ∧ (∀ u ∈ mid, N u) ∧ L k a ∧ F k' b
theorem SF.cons {k : Nat} {ks : List Nat} {a : Nat} (h : SF N F (k :: ks) a) : F k a ∨ (N k ∧ SF N F ks a) := by
 obtain ⟨us, k', vs, e, hu, ha⟩ := h
 cases us with
 | nil =>
  simp only [List.nil_append, List.cons.injEq] at e
  exact .inl (e.1 ▸ ha)
 | cons u us =>
  simp only [List.cons_append, List.cons.injEq] at e
  obtain ⟨rfl, rfl⟩ := e
  exact .inr ⟨hu _ (by simp), us, k', vs, rfl, fun x hx => hu x (by simp [hx]), ha⟩
theorem SL.cons {k : Nat} {ks : List Nat} {a : Nat} (h : SL N L (k :: ks) a) : (L k a ∧ ∀ u ∈ ks, N u) ∨ SL N L ks a := by
 obtain ⟨us, k', vs, e, hu, ha⟩ := h
 cases us with
 | nil =>
  simp only [List.nil_append, List.cons.injEq] at e
  obtain ⟨rfl, rfl⟩ := e
  exact .inl ⟨ha, hu⟩
 | cons u us =>
  simp only [List.cons_append, List.cons.injEq] at e
  obtain ⟨rfl, rfl⟩ := e
  exact .inr ⟨us, k', vs, rfl, hu, ha⟩
theorem SR.cons {k : Nat} {ks : List Nat} {a b : Nat} (h : SR N F L R (k :: ks) a b) : R k a b ∨ (L k a ∧ SF N F ks b) ∨ SR N F L R ks a b := by
 rcases h with ⟨k', hk, h⟩ | ⟨us, k1, mid, k2, vs, e, hm, ha, hb⟩
 ·rcases List.mem_cons.1 hk with rfl | hk
  ·exact .inl h
  ·exact .inr (.inr (.inl ⟨k', hk, h⟩))
 ·cases us with
  | nil =>
   simp only [List.nil_append, List.cons.injEq] at e
   obtain ⟨rfl, rfl⟩ := e
   exact .inr (.inl ⟨ha, mid, k2, vs, rfl, hm, hb⟩)
  | cons u us =>
   simp only [List.cons_append, List.cons.injEq] at e
   obtain ⟨rfl, rfl⟩ := e
   exact .inr (.inr (.inr ⟨us, k1, mid, k2, vs, rfl, hm, ha, hb⟩))
theorem SF.up {k : Nat} {ks : List Nat} {a : Nat} (hN : N k) (h : SF N F ks a) : SF N F (k :: ks) a := by
 obtain ⟨us, k', vs, e, hu, ha⟩ := h
 refine ⟨k :: us, k', vs, by rw [e]; rfl, fun u hu' => ?_, ha⟩
 rcases List.mem_cons.1 hu' with rfl | h'
 ·exact hN
 ·exact hu u h'
theorem SL.up {k : Nat} {ks : List Nat} {a : Nat} (h : SL N L ks a) : SL N L (k :: ks) a := by
 obtain ⟨us, k', vs, e, hu, ha⟩ := h
 exact ⟨k :: us, k', vs, by rw [e]; rfl, hu, ha⟩
theorem SR.up {k : Nat} {ks : List Nat} {a b : Nat} (h : SR N F L R ks a b) : SR N F L R (k :: ks) a b := by
 rcases h with ⟨k', hk, h⟩ | ⟨us, k1, mid, k2, vs, e, hm, ha, hb⟩
 ·exact .inl ⟨k', by simp [hk], h⟩
 ·exact .inr ⟨k :: us, k1, mid, k2, vs, by rw [e]; rfl, hm, ha, hb⟩
structure Apart (N : Nat → Prop) (F L D : Nat → Nat → Prop) (R : Nat → Nat → Nat → Prop) (ks : List Nat) : Prop where
 f : ∀ k ∈ ks, ∀ a, F k a → D k a
 l : ∀ k ∈ ks, ∀ a, L k a → D k a
 r : ∀ k ∈ ks, ∀ a b, R k a b → D k a ∧ D k b
 d : ks.Pairwise (fun k k' => ∀ a, D k a → ¬ D k' a)
def SD (D : Nat → Nat → Prop) (ks : List Nat) (a : Nat) : Prop := ∃ k ∈ ks, D k a
theorem Apart.tail {k : Nat} {ks : List Nat} (h : Apart N F L D R (k :: ks)) : Apart N F L D R ks :=
 ⟨fun k' hk => h.f k' (by simp [hk]), fun k' hk => h.l k' (by simp [hk]), fun k' hk => h.r k' (by simp [hk]), (List.pairwise_cons.1 h.d).2⟩
theorem Apart.sf {ks : List Nat} (h : Apart N F L D R ks) {a : Nat} (ha : SF N F ks a) : SD D ks a := by
 obtain ⟨us, k, vs, e, _, ha⟩ := ha
 exact ⟨k, by rw [e]; simp, h.f k (by rw [e]; simp) a ha⟩
theorem Apart.sl {ks : List Nat} (h : Apart N F L D R ks) {a : Nat} (ha : SL N L ks a) : SD D ks a := by
 obtain ⟨us, k, vs, e, _, ha⟩ := ha
 exact ⟨k, by rw [e]; simp, h.l k (by rw [e]; simp) a ha⟩
theorem Apart.sr {ks : List Nat} (h : Apart N F L D R ks) {a b : Nat} (hr : SR N F L R ks a b) : SD D ks a ∧ SD D ks b := by
 rcases hr with ⟨k, hk, hr⟩ | ⟨us, k1, mid, k2, vs, e, _, ha, hb⟩
 ·exact ⟨⟨k, hk, (h.r k hk a b hr).1⟩, ⟨k, hk, (h.r k hk a b hr).2⟩⟩
 ·exact ⟨⟨k1, by rw [e]; simp, h.l k1 (by rw [e]; simp) a ha⟩, ⟨k2, by rw [e]; simp, h.f k2 (by rw [e]; simp) b hb⟩⟩
theorem Apart.no {k : Nat} {ks : List Nat} (h : Apart N F L D R (k :: ks)) {a : Nat} (h1 : D k a) (h2 : SD D ks a) : False := by
 obtain ⟨k', hk, h2⟩ := h2
 exact (List.pairwise_cons.1 h.d).1 k' hk a h1 h2
theorem Apart.behind {k : Nat} {ks : List Nat} (h : Apart N F L D R (k :: ks)) : ∀ {l : List Nat} {a : Nat}, SD D ks a → Lnk (SR N F L R (k :: ks)) (a :: l) → Lnk (SR N F L R ks) (a :: l) ∧ ∀ z ∈ a :: l, SD D ks z
 | [], a, ha, _ => ⟨trivial, by simpa using ha⟩
 | b :: l, a, ha, hl => by
  have hr : SR N F L R ks a b := by
   rcases SR.cons hl.1 with h1 | ⟨h1, _⟩ | h1
   ·exact (h.no (h.r k (by simp) a b h1).1 ha).elim
   ·exact (h.no (h.l k (by simp) a h1) ha).elim
   ·exact h1
  obtain ⟨h1, h2⟩ := Apart.behind h (h.tail.sr hr).2 hl.2
  exact ⟨⟨hr, h1⟩, fun z hz => by
   rcases List.mem_cons.1 hz with rfl | hz
   ·exact ha
   ·exact h2 z hz⟩
theorem Apart.split {k : Nat} {ks : List Nat} (h : Apart N F L D R (k :: ks)) : ∀ {l : List Nat} {a : Nat}, D k a → Lnk (SR N F L R (k :: ks)) (a :: l) →
  (Lnk (R k) (a :: l) ∧ ∀ z ∈ a :: l, D k z) ∨ ∃ m z b n, a :: l = m ++ z :: b :: n ∧ Lnk (R k) (m ++ [z]) ∧ L k z ∧ SF N F ks b ∧ Lnk (SR N F L R ks) (b :: n) ∧ ∀ x ∈ b :: n, SD D ks x
 | [], a, ha, _ => .inl ⟨trivial, by simpa using ha⟩
 | b :: l, a, ha, hl => by
  rcases SR.cons hl.1 with h1 | ⟨h1, h2⟩ | h1
  ·have hb := (h.r k (by simp) a b h1).2
   rcases Apart.split h hb hl.2 with ⟨h3, h4⟩ | ⟨m, z, b', n, e, h3, h4, h5, h6, h7⟩
   ·refine .inl ⟨⟨h1, h3⟩, fun z hz => ?_⟩
    rcases List.mem_cons.1 hz with rfl | hz
    ·exact ha
    ·exact h4 z hz
   ·refine .inr ⟨a :: m, z, b', n, by rw [e]; rfl, ?_, h4, h5, h6, h7⟩
    cases m with
    | nil =>
     simp only [List.nil_append, List.cons.injEq] at e
     exact ⟨e.1 ▸ h1, trivial⟩
    | cons y m =>
     simp only [List.cons_append, List.cons.injEq] at e
     exact ⟨e.1 ▸ h1, h3⟩
  ·obtain ⟨h3, h4⟩ := Apart.behind h (h.tail.sf h2) hl.2
   exact .inr ⟨[], a, b, l, rfl, trivial, h1, h2, h3, h4⟩
  ·exact (h.no ha (h.tail.sr h1).1).elim
theorem cat_paths : ∀ {ks : List Nat}, Apart N F L D R ks → ∀ w : List α, PL t (∀ u ∈ ks, N u) (SF N F ks) (SL N L ks) (SR N F L R ks) w ↔ Cat (fun k => PL t (N k) (F k) (L k) (R k)) ks w
 | [], h, w => by
  constructor
  ·rintro (⟨e, _⟩ | ⟨c, m, z, ⟨us, k, vs, e, _⟩, _⟩)
   ·exact e
   ·simp at e
  ·intro e
   exact .inl ⟨e, by simp⟩
 | k :: ks, h, w => by
  have ih := fun v => cat_paths h.tail v
  constructor
  ·rintro (⟨rfl, hN⟩ | ⟨c, m, z, hc, hz, cs, rfl, hh, hl, hw⟩)
   ·exact ⟨[], [], rfl, .inl ⟨rfl, hN k (by simp)⟩, (ih []).1 (.inl ⟨rfl, fun u hu => hN u (by simp [hu])⟩)⟩
   ·obtain ⟨l, hcl⟩ : ∃ l, m ++ [z] = c :: l := by
     cases hm : m ++ [z] with
     | nil => simp at hm
     | cons x l =>
      rw [hm] at hh
      simp at hh
      exact ⟨l, by rw [hh]⟩
    rcases SF.cons hc with h1 | ⟨h1, h2⟩
    ·rw [hcl] at hl
     rcases Apart.split h (h.f k (by simp) c h1) hl with ⟨h3, h4⟩ | ⟨m', z', b, n, e, h3, h4, h5, h6, h7⟩
     ·have hzk : D k z := h4 z (by rw [← hcl]; simp)
      rcases SL.cons hz with ⟨h5, h6⟩ | h5
      ·exact ⟨w, [], by simp, .inr ⟨c, m, z, h1, h5, m ++ [z], rfl, hh, by rw [hcl]; exact h3, hw⟩, (ih []).1 (.inl ⟨rfl, h6⟩)⟩
      ·exact (h.no hzk (h.tail.sl h5)).elim
     ·rw [hcl, e] at hw
      have hw' : Fit t ((m' ++ [z']) ++ (b :: n)) w := by simpa using hw
      obtain ⟨u, v, rfl, hu, hv⟩ := Fit.cut hw'
      have hh' : (m' ++ [z']).head? = some c := by
       have := congrArg List.head? e
       cases m' <;> simpa using this.symm
      have hz2 : ∃ m2, b :: n = m2 ++ [z] := by
       have h8 : (m ++ [z]).getLast? = some z := by simp
       rw [hcl, e, last_cut] at h8
       exact List.getLast?_eq_some_iff.1 h8
      obtain ⟨m2, hm2⟩ := hz2
      have hzd := h7 z (by rw [hm2]; simp)
      have hz' : SL N L ks z := by
       rcases SL.cons hz with ⟨h8, _⟩ | h8
       ·exact (h.no (h.l k (by simp) z h8) hzd).elim
       ·exact h8
      exact ⟨u, v, rfl, .inr ⟨c, m', z', h1, h4, m' ++ [z'], rfl, hh', h3, hu⟩, (ih v).1 (.inr ⟨b, m2, z, h5, hz', m2 ++ [z], rfl, by rw [← hm2]; rfl, by rw [← hm2]; exact h6, by rw [← hm2]; exact hv⟩)⟩
    ·rw [hcl] at hl
     obtain ⟨h3, h4⟩ := Apart.behind h (h.tail.sf h2) hl
     have hzd := h4 z (by rw [← hcl]; simp)
     have hz' : SL N L ks z := by
      rcases SL.cons hz with ⟨h8, _⟩ | h8
      ·exact (h.no (h.l k (by simp) z h8) hzd).elim
      ·exact h8
     exact ⟨[], w, rfl, .inl ⟨rfl, h1⟩, (ih w).1 (.inr ⟨c, m, z, h2, hz', m ++ [z], rfl, hh, by rw [hcl]; exact h3, hw⟩)⟩
  ·rintro ⟨u, v, rfl, hu, hv⟩
   have hv := (ih v).2 hv
   rcases hu with ⟨rfl, hN⟩ | ⟨c, m, z, hc, hz, cs, rfl, hh, hl, hw⟩
   ·rcases hv with ⟨rfl, hM⟩ | ⟨c', m', z', hc', hz', cs', rfl, hh', hl', hw'⟩
    ·refine .inl ⟨rfl, fun u hu => ?_⟩
     rcases List.mem_cons.1 hu with rfl | hu
     ·exact hN
     ·exact hM u hu
    ·exact .inr ⟨c', m', z', SF.up hN hc', SL.up hz', _, rfl, hh', hl'.imp (fun _ _ => SR.up), hw'⟩
   ·have hcF : SF N F (k :: ks) c := ⟨[], k, ks, rfl, by simp, hc⟩
    have hlR : Lnk (SR N F L R (k :: ks)) (m ++ [z]) := hl.imp (fun a b hab => .inl ⟨k, by simp, hab⟩)
    rcases hv with ⟨rfl, hM⟩ | ⟨c', m', z', hc', hz', cs', rfl, hh', hl', hw'⟩
    ·exact .inr ⟨c, m, z, hcF, ⟨[], k, ks, rfl, hM, hz⟩, _, rfl, hh, hlR, by rw [List.append_nil]; exact hw⟩
    ·obtain ⟨l', hcl'⟩ : ∃ l, m' ++ [z'] = c' :: l := by
      cases hm : m' ++ [z'] with
      | nil => simp at hm
      | cons x l =>
       rw [hm] at hh'
       simp at hh'
       exact ⟨l, by rw [hh']⟩
     have hlR' : Lnk (SR N F L R (k :: ks)) (c' :: l') := by
      rw [← hcl']
      exact hl'.imp (fun _ _ => SR.up)
     have hzc : SR N F L R (k :: ks) z c' := by
      obtain ⟨us, k2, vs, e, hu, hb⟩ := hc'
      exact .inr ⟨[], k, us, k2, vs, by rw [e]; rfl, hu, hz, hb⟩
     refine .inr ⟨c, m ++ z :: m', z', hcF, SL.up hz', _, rfl, ?_, ?_, ?_⟩
     ·cases m with
      | nil => simpa using hh
      | cons x m => simpa using hh
     ·have := Lnk.app hlR hzc hlR'
      rw [← hcl'] at this
      simpa using this
     ·have := Fit.app hw hw'
      simpa using this
theorem or_paths {ks : List Nat} (h : Apart N F L D R ks) (w : List α) : PL t (∃ u ∈ ks, N u) (fun a => ∃ k ∈ ks, F k a) (fun a => ∃ k ∈ ks, L k a) (fun a b => ∃ k ∈ ks, R k a b) w ↔ ∃ k ∈ ks, PL t (N k) (F k) (L k) (R k) w := by
 have one : ∀ k ∈ ks, ∀ k' ∈ ks, ∀ a, D k a → D k' a → k = k' := by
  have hp := h.d
  clear h
  induction ks with
  | nil => simp
  | cons x ks ih =>
   rw [List.pairwise_cons] at hp
   intro k hk k' hk' a h1 h2
   rcases List.mem_cons.1 hk with e | h3
   ·rcases List.mem_cons.1 hk' with e' | h4
    ·rw [e, e']
    ·exact (hp.1 k' h4 a (e ▸ h1) h2).elim
   ·rcases List.mem_cons.1 hk' with e' | h4
    ·exact (hp.1 k h3 a (e' ▸ h2) h1).elim
    ·exact ih hp.2 k h3 k' h4 a h1 h2
 have stay : ∀ k ∈ ks, ∀ {l : List Nat} {a : Nat}, D k a → Lnk (fun a b => ∃ k ∈ ks, R k a b) (a :: l) → Lnk (R k) (a :: l) ∧ ∀ z ∈ a :: l, D k z := by
  intro k hk l
  induction l with
  | nil => exact fun {a} ha _ => ⟨trivial, by simpa using ha⟩
  | cons b l ih =>
   intro a ha hl
   obtain ⟨k', hk', hr⟩ := hl.1
   obtain rfl := one k hk k' hk' a ha (h.r k' hk' a b hr).1
   obtain ⟨h1, h2⟩ := ih (h.r k hk a b hr).2 hl.2
   exact ⟨⟨hr, h1⟩, fun z hz => by
    rcases List.mem_cons.1 hz with rfl | hz
    ·exact ha
    ·exact h2 z hz⟩
 constructor
 ·rintro (⟨rfl, k, hk, hN⟩ | ⟨c, m, z, ⟨k, hk, hc⟩, ⟨k', hk', hz⟩, cs, rfl, hh, hl, hw⟩)
  ·exact ⟨k, hk, .inl ⟨rfl, hN⟩⟩
  ·obtain ⟨l, hcl⟩ : ∃ l, m ++ [z] = c :: l := by
    cases hm : m ++ [z] with
    | nil => simp at hm
    | cons x l =>
     rw [hm] at hh
     simp at hh
     exact ⟨l, by rw [hh]⟩
   rw [hcl] at hl
   obtain ⟨h1, h2⟩ := stay k hk (h.f k hk c hc) hl
   obtain rfl := one k hk k' hk' z (h2 z (by rw [← hcl]; simp)) (h.l k' hk' z hz)
   exact ⟨k, hk, .inr ⟨c, m, z, hc, hz, _, rfl, hh, by rw [hcl]; exact h1, hw⟩⟩
 ·rintro ⟨k, hk, ⟨rfl, hN⟩ | ⟨c, m, z, hc, hz, cs, rfl, hh, hl, hw⟩⟩
  ·exact .inl ⟨rfl, k, hk, hN⟩
  ·exact .inr ⟨c, m, z, ⟨k, hk, hc⟩, ⟨k, hk, hz⟩, _, rfl, hh, hl.imp (fun a b hab => ⟨k, hk, hab⟩), hw⟩
end
theorem loop_paths {t : Nat → α → Prop} {N : Prop} {F L : Nat → Prop} {R : Nat → Nat → Prop} (w : List α) : PL t N F L (fun a b => R a b ∨ (L a ∧ F b)) w ↔ Plus (PL t N F L R) w := by
 have cutp : ∀ (l : List Nat) (a : Nat), Lnk (fun a b => R a b ∨ (L a ∧ F b)) (a :: l) → Lnk R (a :: l) ∨ ∃ m z b n, a :: l = m ++ z :: b :: n ∧ Lnk R (m ++ [z]) ∧ L z ∧ F b ∧ Lnk (fun a b => R a b ∨ (L a ∧ F b)) (b :: n) := by
  intro l
  induction l with
  | nil => exact fun a _ => .inl trivial
  | cons b l ih =>
   intro a hl
   rcases hl.1 with h1 | ⟨h1, h2⟩
   ·rcases ih b hl.2 with h3 | ⟨m, z, b', n, e, h3, h4, h5, h6⟩
    ·exact .inl ⟨h1, h3⟩
    ·refine .inr ⟨a :: m, z, b', n, by rw [e]; rfl, ?_, h4, h5, h6⟩
     cases m with
     | nil =>
      simp only [List.nil_append, List.cons.injEq] at e
      exact ⟨e.1 ▸ h1, trivial⟩
     | cons y m =>
      simp only [List.cons_append, List.cons.injEq] at e
      exact ⟨e.1 ▸ h1, h3⟩
   ·exact .inr ⟨[], a, b, l, rfl, trivial, h1, h2, hl.2⟩
 constructor
 ·rintro (⟨rfl, hN⟩ | ⟨c, m, z, hc, hz, cs, rfl, hh, hl, hw⟩)
  ·exact .one (.inl ⟨rfl, hN⟩)
  ·have key : ∀ (d : Nat) (c : Nat) (l : List Nat) (z : Nat) (w : List α), l.length ≤ d → F c → L z → (c :: l).getLast? = some z → Lnk (fun a b => R a b ∨ (L a ∧ F b)) (c :: l) → Fit t (c :: l) w → Plus (PL t N F L R) w := by
    intro d
    induction d with
    | zero =>
     intro c l z w hd hc hz hlast hl hw
     cases l with
     | cons x l => simp at hd
     | nil =>
      simp at hlast
      subst hlast
      exact .one (.inr ⟨c, [], c, hc, hz, [c], rfl, rfl, trivial, hw⟩)
    | succ d ih =>
     intro c l z w hd hc hz hlast hl hw
     obtain ⟨m0, hm0⟩ := List.getLast?_eq_some_iff.1 hlast
     rcases cutp l c hl with h3 | ⟨m, y, b, n, e, h3, h4, h5, h6⟩
     ·exact .one (.inr ⟨c, m0, z, hc, hz, _, rfl, by rw [← hm0]; rfl, by rw [← hm0]; exact h3, by rw [← hm0]; exact hw⟩)
     ·have hw' : Fit t ((m ++ [y]) ++ (b :: n)) w := by rw [e] at hw; simpa using hw
      obtain ⟨u, v, rfl, hu, hv⟩ := Fit.cut hw'
      have hh' : (m ++ [y]).head? = some c := by
       have := congrArg List.head? e
       cases m <;> simpa using this.symm
      have hlast' : (b :: n).getLast? = some z := by
       rw [e, last_cut] at hlast
       exact hlast
      have hlen : n.length ≤ d := by
       have := congrArg List.length e
       simp at this
       omega
      exact .more (.inr ⟨c, m, y, hc, h4, _, rfl, hh', h3, hu⟩) (ih b n z v hlen h5 hz hlast' h6 hv)
   cases hm : m ++ [z] with
   | nil => simp at hm
   | cons x l =>
    have hx : x = c := by rw [hm] at hh; simpa using hh
    subst hx
    rw [hm] at hl hw
    exact key l.length x l z w (Nat.le_refl _) hc hz (by rw [← hm]; simp) hl hw
 ·intro h
  induction h with
  | one h =>
   rcases h with h | ⟨c, m, z, hc, hz, cs, rfl, hh, hl, hw⟩
   ·exact .inl h
   ·exact .inr ⟨c, m, z, hc, hz, _, rfl, hh, hl.imp (fun _ _ => .inl), hw⟩
  | more hu _ hv =>
   rcases hu with ⟨rfl, hN⟩ | ⟨c, m, z, hc, hz, cs, rfl, hh, hl, hw⟩
   ·exact hv
   ·rcases hv with ⟨rfl, hN⟩ | ⟨c', m', z', hc', hz', cs', rfl, hh', hl', hw'⟩
    ·exact .inr ⟨c, m, z, hc, hz, _, rfl, hh, hl.imp (fun _ _ => .inl), by rw [List.append_nil]; exact hw⟩
    ·obtain ⟨l', hcl'⟩ : ∃ l, m' ++ [z'] = c' :: l := by
      cases hm : m' ++ [z'] with
      | nil => simp at hm
      | cons x l =>
       rw [hm] at hh'
       simp at hh'
       exact ⟨l, by rw [hh']⟩
     rw [hcl'] at hl'
     refine .inr ⟨c, m ++ z :: m', z', hc, hz', _, rfl, ?_, ?_, ?_⟩
     ·cases m with
      | nil => simpa using hh
      | cons x m => simpa using hh
     ·have := Lnk.app (hl.imp (fun _ _ => Or.inl)) (.inr ⟨hz, hc'⟩) hl'
      rw [← hcl'] at this
      simpa using this
     ·have := Fit.app hw hw'
      simpa using this
end MT
namespace MT
theorem Chain.cover {lo : Nat → Nat} : ∀ {ks : List Nat} {e b : Nat}, Chain lo e ks b → ∀ j, b ≤ j → j < e → ∃ k ∈ ks, lo k ≤ j ∧ j ≤ k
 | [], e, b, h, j, h1, h2 => by have : b = e := h; omega
 | k :: ks, e, b, h, j, h1, h2 => by
  obtain ⟨m, hc, hm, hb⟩ := h
  by_cases c : j ≤ k
  ·exact ⟨k, by simp, by omega, c⟩
  ·obtain ⟨k', hk, h3⟩ := Chain.cover hc j (by omega) h2
   exact ⟨k', by simp [hk], h3⟩
def tk (p : Md) (c : Nat) (nm : ByteArray) : Prop := (nd p c).kind = 4 ∨ (nd p c).name = nm
def RL (p : Md) (lo : Nat → Nat) (i a b : Nat) : Prop := ∃ j, lo i ≤ j ∧ j ≤ i ∧ led p j a b
def GL (p : Md) (lo : Nat → Nat) (i : Nat) (w : List ByteArray) : Prop := PL (tk p) (nul p i = true) (fun a => a ∈ fst p i) (fun a => a ∈ lst p i) (RL p lo i) w
def nul1 (p : Md) (i : Nat) : Prop := (if (nd p i).kind = 2 then (nd p i).kids.all (nul p) else if (nd p i).kind = 3 then (nd p i).kids.any (nul p) else false) = true
def R1 (p : Md) (lo : Nat → Nat) (i a b : Nat) : Prop :=
 (∃ k ∈ (nd p i).kids, RL p lo k a b) ∨ ((nd p i).kind = 2 ∧ ∃ us k vs, (nd p i).kids = us ++ k :: vs ∧ a ∈ suf (nul p) (lst p) [] us ∧ b ∈ fst p k)
def G1 (p : Md) (lo : Nat → Nat) (i : Nat) (w : List ByteArray) : Prop := PL (tk p) (nul1 p i) (fun a => a ∈ fst p i) (fun a => a ∈ lst p i) (R1 p lo i) w
section
variable {p : Md} {lo : Nat → Nat} (T : Tree p lo)
include T
theorem Tree.inner : ∀ i, i < p.length → ∀ j, lo i ≤ j → j ≤ i → lo i ≤ lo j := by
 intro i
 induction i using Nat.strongRecOn with
 | _ i ih =>
 intro hi j h1 h2
 by_cases e : j = i
 ·subst e; exact Nat.le_refl _
 ·obtain ⟨k, hk, h3, h4⟩ := Chain.cover (T.chain i hi) j h1 (by omega)
  have := T.kid hi hk
  have := ih k this.2 (by omega) j h3 h4
  omega
theorem led_in {j a b : Nat} (hj : j < p.length) (h : led p j a b) : (lo j ≤ a ∧ a ≤ j) ∧ (lo j ≤ b ∧ b ≤ j) := by
 rcases h with ⟨_, us, k, vs, e, ha, hb⟩ | ⟨_, ha, hb⟩
 ·have hk : k ∈ (nd p j).kids := by rw [e]; simp
  have h1 := T.kid hj hk
  have h2 := edge_in T fst (.inl rfl) k (by omega) b hb
  rcases mem_suf.1 ha with ⟨h, _⟩ | ⟨us', k', vs', e', _, ha'⟩
  ·simp at h
  ·have hk' : k' ∈ (nd p j).kids := by rw [e, e']; simp
   have h3 := T.kid hj hk'
   have h4 := edge_in T lst (.inr rfl) k' (by omega) a ha'
   omega
 ·have h2 := edge_in T fst (.inl rfl) j hj b hb
  have h4 := edge_in T lst (.inr rfl) j hj a ha
  omega
theorem RL_in {i a b : Nat} (hi : i < p.length) (h : RL p lo i a b) : (lo i ≤ a ∧ a ≤ i) ∧ (lo i ≤ b ∧ b ≤ i) := by
 obtain ⟨j, h1, h2, h3⟩ := h
 have h4 := led_in T (j := j) (by omega) h3
 have h5 := T.inner i hi j h1 h2
 omega
theorem RL_R1 {i a b : Nat} (hi : i < p.length) : RL p lo i a b ↔ R1 p lo i a b ∨ ((nd p i).oft = true ∧ a ∈ lst p i ∧ b ∈ fst p i) := by
 constructor
 ·rintro ⟨j, h1, h2, h3⟩
  by_cases e : j = i
  ·subst e
   rcases h3 with h3 | h3
   ·exact .inl (.inr h3)
   ·exact .inr h3
  ·obtain ⟨k, hk, h4, h5⟩ := Chain.cover (T.chain i hi) j h1 (by omega)
   exact .inl (.inl ⟨k, hk, j, h4, h5, h3⟩)
 ·rintro ((⟨k, hk, j, h1, h2, h3⟩ | h) | h)
  ·have := T.kid hi hk
   exact ⟨j, by omega, by omega, h3⟩
  ·exact ⟨i, T.le i hi, Nat.le_refl _, .inl h⟩
  ·exact ⟨i, T.le i hi, Nat.le_refl _, .inr h⟩
theorem kids_apart {i : Nat} (hi : i < p.length) : Apart (fun k => nul p k = true) (fun k a => a ∈ fst p k) (fun k a => a ∈ lst p k) (fun k a => lo k ≤ a ∧ a ≤ k) (RL p lo) (nd p i).kids := by
 refine ⟨fun k hk a ha => ?_, fun k hk a ha => ?_, fun k hk a b h => ?_, ?_⟩
 ·have := edge_in T fst (.inl rfl) k (by have := T.kid hi hk; omega) a ha
  exact ⟨this.1, this.2.1⟩
 ·have := edge_in T lst (.inr rfl) k (by have := T.kid hi hk; omega) a ha
  exact ⟨this.1, this.2.1⟩
 ·exact RL_in T (by have := T.kid hi hk; omega) h
 ·exact (T.apart hi).imp (fun h a h1 h2 => by omega)
theorem GL_eq {i : Nat} (hi : i < p.length) (w : List ByteArray) : GL p lo i w ↔ ((nd p i).opt = true ∧ w = []) ∨ (if (nd p i).oft = true then Plus (G1 p lo i) w else G1 p lo i w) := by
 have hN : nul p i = true ↔ nul1 p i ∨ (nd p i).opt = true := by
  rw [nul_eq T.ahead hi, Bool.or_eq_true]
  exact Iff.rfl
 have split : ∀ (R : Nat → Nat → Prop), PL (tk p) (nul1 p i ∨ (nd p i).opt = true) (fun a => a ∈ fst p i) (fun a => a ∈ lst p i) R w ↔ ((nd p i).opt = true ∧ w = []) ∨ PL (tk p) (nul1 p i) (fun a => a ∈ fst p i) (fun a => a ∈ lst p i) R w := by
  intro R
  constructor
  ·rintro (⟨rfl, h | h⟩ | h)
   ·exact .inr (.inl ⟨rfl, h⟩)
   ·exact .inl ⟨h, rfl⟩
   ·exact .inr (.inr h)
  ·rintro (⟨h, rfl⟩ | ⟨rfl, h⟩ | h)
   ·exact .inl ⟨rfl, .inr h⟩
   ·exact .inl ⟨rfl, .inl h⟩
   ·exact .inr h
 have h1 : GL p lo i w ↔ PL (tk p) (nul1 p i ∨ (nd p i).opt = true) (fun a => a ∈ fst p i) (fun a => a ∈ lst p i) (fun a b => R1 p lo i a b ∨ ((nd p i).oft = true ∧ a ∈ lst p i ∧ b ∈ fst p i)) w :=
  PL.congr hN (fun _ => Iff.rfl) (fun _ => Iff.rfl) (fun a b => RL_R1 T hi)
 rw [h1, split]
 refine or_congr Iff.rfl ?_
 split
 ·rename_i c
  have : PL (tk p) (nul1 p i) (fun a => a ∈ fst p i) (fun a => a ∈ lst p i) (fun a b => R1 p lo i a b ∨ ((nd p i).oft = true ∧ a ∈ lst p i ∧ b ∈ fst p i)) w ↔ PL (tk p) (nul1 p i) (fun a => a ∈ fst p i) (fun a => a ∈ lst p i) (fun a b => R1 p lo i a b ∨ (a ∈ lst p i ∧ b ∈ fst p i)) w :=
   PL.congr Iff.rfl (fun _ => Iff.rfl) (fun _ => Iff.rfl) (fun a b => or_congr Iff.rfl ⟨fun h => h.2, fun h => ⟨c, h⟩⟩)
  rw [this]
  exact loop_paths w
 ·rename_i c
  exact PL.congr Iff.rfl (fun _ => Iff.rfl) (fun _ => Iff.rfl) (fun a b => ⟨fun h => h.elim id (fun h => absurd h.1 c), .inl⟩)
theorem G1_pos {i : Nat} (hi : i < p.length) (hp : (nd p i).pos = true) (w : List ByteArray) : G1 p lo i w ↔ ∃ nm, w = [nm] ∧ tk p i nm := by
 have hk : (nd p i).kind ≠ 2 ∧ (nd p i).kind ≠ 3 := by
  unfold Nd.pos at hp
  simp only [Bool.or_eq_true, beq_iff_eq] at hp
  omega
 have hkids : (nd p i).kids = [] := by
  rcases T.kinds i hi with ⟨_, h⟩ | h | h
  ·exact h
  ·exact absurd h hk.1
  ·exact absurd h.1 hk.2
 have hf : fst p i = [i] := by rw [fst_eq T.ahead hi, if_pos hp]
 have hl : lst p i = [i] := by rw [lst_eq T.ahead hi, if_pos hp]
 have hr : ∀ a b, ¬ R1 p lo i a b := by
  rintro a b (⟨k, h, _⟩ | ⟨h, _⟩)
  ·rw [hkids] at h; simp at h
  ·exact hk.1 h
 have hn : ¬ nul1 p i := by
  unfold nul1
  rw [if_neg hk.1, if_neg hk.2]
  simp
 constructor
 ·rintro (⟨_, h⟩ | ⟨c, m, z, hc, hz, cs, rfl, hh, hlk, hw⟩)
  ·exact absurd h hn
  ·rw [hf, List.mem_singleton] at hc
   subst hc
   cases m with
   | nil =>
    simp at hh
    subst hh
    cases w with
    | nil => exact hw.elim
    | cons x w =>
     cases w with
     | nil => exact ⟨x, rfl, hw.1⟩
     | cons y w => exact hw.2.elim
   | cons x m =>
    cases m with
    | nil => exact absurd hlk.1 (hr _ _)
    | cons y m => exact absurd hlk.1 (hr _ _)
 ·rintro ⟨nm, rfl, h⟩
  exact .inr ⟨i, [], i, by rw [hf]; simp, by rw [hl]; simp, [i], rfl, rfl, trivial, h, trivial⟩
theorem G1_or {i : Nat} (hi : i < p.length) (hk : (nd p i).kind = 3) (w : List ByteArray) : G1 p lo i w ↔ ∃ k ∈ (nd p i).kids, GL p lo k w := by
 have hp : ¬ (nd p i).pos = true := by unfold Nd.pos; simp [hk]
 refine Iff.trans ?_ (or_paths (kids_apart T hi) w)
 refine PL.congr ?_ (fun a => ?_) (fun a => ?_) (fun a b => ?_)
 ·unfold nul1
  rw [if_neg (by omega), if_pos hk, List.any_eq_true]
 ·rw [fst_eq T.ahead hi, if_neg hp, if_pos hk, List.mem_flatMap]
 ·rw [lst_eq T.ahead hi, if_neg hp, if_pos hk, List.mem_flatMap]
 ·unfold R1
  constructor
  ·rintro (h | ⟨h, _⟩)
   ·exact h
   ·omega
  ·exact .inl
theorem G1_seq {i : Nat} (hi : i < p.length) (hk : (nd p i).kind = 2) (w : List ByteArray) : G1 p lo i w ↔ Cat (GL p lo) (nd p i).kids w := by
 have hp : ¬ (nd p i).pos = true := by unfold Nd.pos; simp [hk]
 refine Iff.trans ?_ (cat_paths (kids_apart T hi) w)
 refine PL.congr ?_ (fun a => ?_) (fun a => ?_) (fun a b => ?_)
 ·unfold nul1
  rw [if_pos hk, List.all_eq_true]
 ·rw [fst_eq T.ahead hi, if_neg hp, if_neg (by omega), mem_pre]
  exact Iff.rfl
 ·rw [lst_eq T.ahead hi, if_neg hp, if_neg (by omega), mem_suf]
  constructor
  ·rintro (⟨h, _⟩ | h)
   ·simp at h
   ·exact h
  ·exact .inr
 ·unfold R1 SR
  constructor
  ·rintro (h | ⟨_, us, k, vs, e, ha, hb⟩)
   ·exact .inl h
   ·rcases mem_suf.1 ha with ⟨h, _⟩ | ⟨us', k', vs', e', hv, ha'⟩
    ·simp at h
    ·exact .inr ⟨us', k', vs', k, vs, by rw [e, e']; simp, hv, ha', hb⟩
  ·rintro (h | ⟨us, k, mid, k', vs, e, hm, ha, hb⟩)
   ·exact .inl h
   ·exact .inr ⟨hk, us ++ k :: mid, k', vs, by rw [e]; simp, mem_suf.2 (.inr ⟨us, k, mid, rfl, hm, ha⟩), hb⟩
end
end MT
end Go.Proofs.Ytajdfbgbkgabjaa.Pure
namespace Go.Proofs.Ytajdfbgbkgabjaa.Pure
open Go.RowKit Ytajdfbgbkgabjaa.L YtajdfbgbkgabjaaW.PrintWords YtajdfbgbkgabjaaW.PrintLast YtajdfbgbkgabjaaW.PrintMore
open MT
set_option linter.unusedVariables false
set_option linter.unusedSimpArgs false
theorem lnk_snoc {R : Nat → Nat → Prop} : ∀ {l : List Nat} {a b : Nat}, Lnk R (l ++ [a, b]) ↔ Lnk R (l ++ [a]) ∧ R a b
 | [], a, b => by simp [Lnk]
 | [x], a, b => by simp [Lnk, and_assoc]
 | x :: y :: l, a, b => by
  have := lnk_snoc (R := R) (l := y :: l) (a := a) (b := b)
  show (R x y ∧ Lnk R (y :: l ++ [a, b])) ↔ (R x y ∧ Lnk R (y :: l ++ [a])) ∧ R a b
  rw [this, and_assoc]
theorem fit_snoc {t : Nat → ByteArray → Prop} : ∀ {c : List Nat} {z : Nat} {w : List ByteArray} {x : ByteArray}, Fit t (c ++ [z]) (w ++ [x]) ↔ Fit t c w ∧ t z x
 | [], z, [], x => by simp [Fit]
 | [], z, y :: w, x => by
  constructor
  ·rintro ⟨_, h⟩
   cases w <;> exact h.elim
  ·rintro ⟨h, _⟩; exact h.elim
 | d :: c, z, [], x => by
  constructor
  ·rintro ⟨_, h⟩
   cases c <;> exact h.elim
  ·rintro ⟨h, _⟩; exact h.elim
 | d :: c, z, y :: w, x => by
  show (t d y ∧ Fit t (c ++ [z]) (w ++ [x])) ↔ (t d y ∧ Fit t c w) ∧ t z x
  rw [fit_snoc, and_assoc]
theorem fit_nil {t : Nat → ByteArray → Prop} {c : List Nat} : Fit t c [] ↔ c = [] := by
 cases c with
 | nil => simp [Fit]
 | cons x c => simp [Fit]
def Rch (q : Md) (w : List ByteArray) (z : Nat) : Prop := ∃ m c, (m ++ [z]).head? = some c ∧ c ∈ fst q (q.length - 1) ∧ Lnk (fol q) (m ++ [z]) ∧ Fit (tk q) (m ++ [z]) w
theorem rch_nil {q : Md} {z : Nat} : ¬ Rch q [] z := by
 rintro ⟨m, c, _, _, _, h⟩
 rw [fit_nil] at h
 cases m <;> cases h
theorem rch_snoc {q : Md} {w : List ByteArray} {nm : ByteArray} {z : Nat} : Rch q (w ++ [nm]) z ↔ tk q z nm ∧ ((w = [] ∧ z ∈ fst q (q.length - 1)) ∨ ∃ y, Rch q w y ∧ fol q y z) := by
 constructor
 ·rintro ⟨m, c, h1, h2, h3, h4⟩
  obtain ⟨h5, h6⟩ := fit_snoc.1 h4
  refine ⟨h6, ?_⟩
  rcases List.eq_nil_or_concat m with rfl | ⟨m', y, rfl⟩
  ·left
   refine ⟨?_, ?_⟩
   ·cases w with
    | nil => rfl
    | cons x w => exact h5.elim
   ·have : z = c := by simpa using h1
    rw [this]; exact h2
  ·right
   rw [List.concat_eq_append] at h1 h3 h5
   rw [List.append_assoc] at h3
   obtain ⟨h7, h8⟩ := lnk_snoc.1 h3
   refine ⟨y, ⟨m', c, ?_, h2, h7, h5⟩, h8⟩
   rw [← h1]
   cases m' <;> rfl
 ·rintro ⟨h1, ⟨rfl, h2⟩ | ⟨y, ⟨m, c, h2, h3, h4, h5⟩, h6⟩⟩
  ·exact ⟨[], z, rfl, h2, trivial, ⟨h1, trivial⟩⟩
  ·refine ⟨m ++ [y], c, ?_, h3, ?_, fit_snoc.2 ⟨h5, h1⟩⟩
   ·rw [← h2]
    cases m <;> rfl
   ·rw [List.append_assoc]
    exact lnk_snoc.2 ⟨h4, h6⟩
theorem mem_addK {p : List PM} {nm : ByteArray} {x : Int} : ∀ {row out : List Int}, x ∈ row.foldl (addK p nm) out ↔ x ∈ out ∨ (x ∈ row ∧ takesB p x nm = true)
 | [], out => by simp
 | k :: row, out => by
  rw [List.foldl_cons, mem_addK, List.mem_cons]
  unfold addK
  by_cases c : (takesB p k nm && !decide (k ∈ out)) = true
  ·rw [if_pos c, List.mem_append, List.mem_singleton]
   simp only [Bool.and_eq_true, Bool.not_eq_true', decide_eq_false_iff_not] at c
   constructor
   ·rintro ((h | rfl) | h)
    ·exact .inl h
    ·exact .inr ⟨.inl rfl, c.1⟩
    ·exact .inr ⟨.inr h.1, h.2⟩
   ·rintro (h | ⟨rfl | h, h2⟩)
    ·exact .inl (.inl h)
    ·exact .inl (.inr rfl)
    ·exact .inr ⟨h, h2⟩
  ·rw [if_neg c]
   simp only [Bool.and_eq_true, Bool.not_eq_true', decide_eq_false_iff_not, not_and, Decidable.not_not] at c
   constructor
   ·rintro (h | h)
    ·exact .inl h
    ·exact .inr ⟨.inr h.1, h.2⟩
   ·rintro (h | ⟨rfl | h, h2⟩)
    ·exact .inl h
    ·exact .inl (c h2)
    ·exact .inr ⟨h, h2⟩
theorem nd_addK {p : List PM} {nm : ByteArray} : ∀ {row out : List Int}, out.Nodup → (row.foldl (addK p nm) out).Nodup
 | [], out, h => h
 | k :: row, out, h => by
  rw [List.foldl_cons]
  refine nd_addK ?_
  unfold addK
  by_cases c : (takesB p k nm && !decide (k ∈ out)) = true
  ·rw [if_pos c]
   simp only [Bool.and_eq_true, Bool.not_eq_true', decide_eq_false_iff_not] at c
   refine List.nodup_append.2 ⟨h, by simp, ?_⟩
   intro a ha b hb e
   have : b = k := by simpa using hb
   subst this
   subst e
   exact c.2 ha
  ·rw [if_neg c]; exact h
theorem mem_rows {p : List PM} {N : NetV} {n : Nat} {nm : ByteArray} {x : Int} : ∀ {at_ out : List Int}, x ∈ at_.foldl (stepRow p N n nm) out ↔ x ∈ out ∨ ∃ q ∈ at_, x ∈ nextF N n q ∧ takesB p x nm = true
 | [], out => by simp
 | k :: at_, out => by
  rw [List.foldl_cons, mem_rows]
  unfold stepRow
  rw [mem_addK]
  constructor
  ·rintro ((h | h) | ⟨q, hq, h⟩)
   ·exact .inl h
   ·exact .inr ⟨k, by simp, h⟩
   ·exact .inr ⟨q, by simp [hq], h⟩
  ·rintro (h | ⟨q, hq, h⟩)
   ·exact .inl (.inl h)
   ·rcases List.mem_cons.1 hq with rfl | hq
    ·exact .inl (.inr h)
    ·exact .inr ⟨q, hq, h⟩
theorem nd_rows {p : List PM} {N : NetV} {n : Nat} {nm : ByteArray} : ∀ {at_ out : List Int}, out.Nodup → (at_.foldl (stepRow p N n nm) out).Nodup
 | [], out, h => h
 | k :: at_, out, h => by
  rw [List.foldl_cons]
  exact nd_rows (nd_addK h)
structure AtI (p : List PM) (w : List ByteArray) (at_ : List Int) : Prop where
 mem : ∀ x, x ∈ at_ ↔ (w = [] ∧ x = -1) ∨ ∃ z : Nat, x = (z : Int) ∧ Rch (md p) w z
 few : at_.length ≤ 41
section
variable {p : List PM} (K : OkP p) {N : NetV} (HN : NetI p p.length N)
include K HN
omit K HN in
theorem takes_tk {z : Nat} (hz : z < p.length) (nm : ByteArray) : takesB p (z : Int) nm = true ↔ tk (md p) z nm := by
 have e : rd_T42 p (z : Int) = at_ p z := rfl
 unfold takesB tk
 rw [nd_md hz, e, Bool.or_eq_true, beq_iff_eq, beq_iff_eq]
 show (at_ p z).f0 = 4 ∨ (at_ p z).f1.toList = nm.toList ↔ (at_ p z).f0 = 4 ∨ (at_ p z).f1 = nm
 constructor
 ·rintro (h | h)
  ·exact .inl h
  ·right
   rw [Lib.toList_data, Lib.toList_data] at h
   exact ba_ext h
 ·rintro (h | h)
  ·exact .inl h
  ·exact .inr (by rw [h])
omit HN in
theorem rch_lt {w : List ByteArray} {z : Nat} (h : Rch (md p) w z) : z < p.length := by
 obtain ⟨m, c, h1, h2, h3, h4⟩ := h
 have ho := K.one
 rcases List.eq_nil_or_concat m with rfl | ⟨m', y, rfl⟩
 ·have : z = c := by simpa using h1
  rw [this]
  rw [mL] at h2
  have := edge_in K.tr fst (.inl rfl) (p.length - 1) (by rw [mL]; omega) c h2
  omega
 ·rw [List.concat_eq_append, List.append_assoc] at h3
  obtain ⟨j, hj, hl⟩ := (lnk_snoc.1 h3).2
  rw [mL] at hj
  have := (led_le K hj hl).2
  omega
theorem next_mem {w : List ByteArray} {at_ : List Int} (H : AtI p w at_) {q : Int} (hq : q ∈ at_) : q < (N.fol.length : Int) ∧ inB p.length (nextF N p.length q) ∧ (nextF N p.length q).length ≤ 40 := by
 have ho := K.one
 rcases (H.mem q).1 hq with ⟨_, rfl⟩ | ⟨z, rfl, hz⟩
 ·rw [next_first K HN, HN.fol.len]
  exact ⟨by omega, fst_in K, srt_small K (fst_in K)⟩
 ·have hl := rch_lt K hz
  rw [next_fol K HN hl, HN.fol.len]
  exact ⟨by omega, fol_in K z, srt_small K (fol_in K z)⟩
omit K HN in
theorem sum_few : ∀ {l : List Int}, (∀ q ∈ l, (nextF N p.length q).length ≤ 40) → sumN N p.length l ≤ 40 * l.length
 | [], _ => Nat.le_refl _
 | q :: l, h => by
  have h1 := h q (by simp)
  have h2 := sum_few (l := l) (fun y hy => h y (by simp [hy]))
  show (nextF N p.length q).length + sumN N p.length l ≤ 40 * (l.length + 1)
  omega
theorem at_step {w : List ByteArray} {at_ : List Int} (H : AtI p w at_) (nm : ByteArray) : stepOk N p.length at_ ∧ AtI p (w ++ [nm]) (stepF p N p.length nm at_) := by
 have hm := K.most
 have hs := sum_few (l := at_) (fun q hq => (next_mem K HN H hq).2.2)
 have hmem : ∀ x, x ∈ stepF p N p.length nm at_ ↔ ∃ z : Nat, x = (z : Int) ∧ Rch (md p) (w ++ [nm]) z := by
  intro x
  unfold stepF
  rw [mem_isort, mem_rows]
  constructor
  ·rintro (h | ⟨q, hq, h1, h2⟩)
   ·simp at h
   ·have hb := ((next_mem K HN H hq).2.1).at_ x h1
    obtain ⟨z, rfl⟩ : ∃ z : Nat, x = (z : Int) := ⟨x.toNat, by omega⟩
    refine ⟨z, rfl, rch_snoc.2 ⟨(takes_tk (by omega) nm).1 h2, ?_⟩⟩
    rcases (H.mem q).1 hq with ⟨hw, rfl⟩ | ⟨y, rfl, hy⟩
    ·left
     rw [next_first K HN] at h1
     obtain ⟨b, e, hb⟩ := mI.1 (mem_srt.1 h1)
     refine ⟨hw, ?_⟩
     rw [mL, show z = b by omega]
     exact hb
    ·right
     rw [next_fol K HN (rch_lt K hy)] at h1
     obtain ⟨b, e, hb⟩ := mI.1 (mem_srt.1 h1)
     refine ⟨y, hy, ?_⟩
     rw [show z = b by omega]
     exact (mem_folS K.tr.ahead).1 hb
  ·rintro ⟨z, rfl, hz⟩
   right
   have hzl := rch_lt K hz
   obtain ⟨h1, ⟨hw, h2⟩ | ⟨y, hy, h2⟩⟩ := rch_snoc.1 hz
   ·refine ⟨-1, (H.mem (-1)).2 (.inl ⟨hw, rfl⟩), ?_, (takes_tk hzl nm).2 h1⟩
    rw [next_first K HN]
    rw [mL] at h2
    exact mem_srt.2 (mI.2 ⟨z, rfl, h2⟩)
   ·refine ⟨(y : Int), (H.mem _).2 (.inr ⟨y, rfl, hy⟩), ?_, (takes_tk hzl nm).2 h1⟩
    rw [next_fol K HN (rch_lt K hy)]
    exact mem_srt.2 (mI.2 ⟨z, rfl, (mem_folS K.tr.ahead).2 h2⟩)
 refine ⟨⟨fun q hq => ⟨(next_mem K HN H hq).1, (next_mem K HN H hq).2.1⟩, by have := H.few; unfold LIMK; omega⟩, ⟨fun x => ?_, ?_⟩⟩
 ·rw [hmem x]
  constructor
  ·exact .inr
  ·rintro (⟨h, _⟩ | h)
   ·cases w <;> cases h
   ·exact h
 ·have hnd : (at_.foldl (stepRow p N p.length nm) []).Nodup := nd_rows List.nodup_nil
  unfold stepF
  rw [isort_length]
  have e := isort_srt hnd (l := at_.foldl (stepRow p N p.length nm) []) (fun _ => Iff.rfl)
  have hb : ∀ a ∈ srt (at_.foldl (stepRow p N p.length nm) []), 0 ≤ a ∧ a < (p.length : Int) := by
   intro a ha
   rw [← e] at ha
   obtain ⟨z, rfl, hz⟩ := (hmem a).1 ha
   have := rch_lt K hz
   omega
  have hl := srt_small K hb
  rw [← e, isort_length] at hl
  omega
theorem run_all : ∀ (names w : List ByteArray) (at_ : List Int), AtI p w at_ → ∃ fin, runO p N p.length names at_ = some fin ∧ AtI p (w ++ names) fin
 | [], w, at_, H => ⟨at_, rfl, by rw [List.append_nil]; exact H⟩
 | nm :: names, w, at_, H => by
  obtain ⟨h1, h2⟩ := at_step K HN H nm
  obtain ⟨fin, h3, h4⟩ := run_all names (w ++ [nm]) _ h2
  refine ⟨fin, ?_, by rw [List.append_assoc] at h4; exact h4⟩
  unfold runO
  rw [if_pos h1]
  exact h3
theorem may_path {w : List ByteArray} {fin : List Int} (H : AtI p w fin) : mayF N p.length fin = true ↔ GL (md p) (loT p) (p.length - 1) w := by
 have ho := K.one
 have hr : p.length - 1 < p.length := by omega
 have hnul : rdOf false N.nul ((p.length : Int) - 1) = nul (md p) (p.length - 1) := by
  rw [show (p.length : Int) - 1 = ((p.length - 1 : Nat) : Int) by omega, HN.nul]
  exact rR hr
 have hlst : rdL N.lst ((p.length : Int) - 1) = ints (lst (md p) (p.length - 1)) := by
  rw [show (p.length : Int) - 1 = ((p.length - 1 : Nat) : Int) by omega, HN.lst]
  exact rR hr
 have hlo : loT p (p.length - 1) = 0 := by unfold loT; rw [K.root]; rfl
 have hRL : ∀ a b, RL (md p) (loT p) (p.length - 1) a b ↔ fol (md p) a b := by
  intro a b
  unfold RL fol
  rw [hlo, mL]
  constructor
  ·rintro ⟨j, _, h1, h2⟩; exact ⟨j, by omega, h2⟩
  ·rintro ⟨j, h1, h2⟩; exact ⟨j, Nat.zero_le _, by omega, h2⟩
 have hGL : GL (md p) (loT p) (p.length - 1) w ↔ (w = [] ∧ nul (md p) (p.length - 1) = true) ∨ ∃ z, Rch (md p) w z ∧ z ∈ lst (md p) (p.length - 1) := by
  unfold GL
  rw [PL.congr (N' := nul (md p) (p.length - 1) = true) (F' := fun a => a ∈ fst (md p) (p.length - 1)) (L' := fun a => a ∈ lst (md p) (p.length - 1)) (R' := fol (md p)) Iff.rfl (fun _ => Iff.rfl) (fun _ => Iff.rfl) hRL]
  unfold PL Rch
  rw [mL]
  constructor
  ·rintro (h | ⟨c, m, z, h1, h2, cs, rfl, h3, h4, h5⟩)
   ·exact .inl h
   ·exact .inr ⟨z, ⟨m, c, h3, h1, h4, h5⟩, h2⟩
  ·rintro (h | ⟨z, ⟨m, c, h3, h1, h4, h5⟩, h2⟩)
   ·exact .inl h
   ·exact .inr ⟨c, m, z, h1, h2, _, rfl, h3, h4, h5⟩
 rw [hGL]
 unfold mayF
 rw [List.any_eq_true]
 constructor
 ·rintro ⟨q, hq, h⟩
  unfold endB at h
  rcases (H.mem q).1 hq with ⟨hw, rfl⟩ | ⟨z, rfl, hz⟩
  ·rw [if_pos (by decide), hnul] at h
   exact .inl ⟨hw, h⟩
  ·rw [if_neg (by omega), hlst] at h
   exact .inr ⟨z, hz, nat_ints.1 (of_decide_eq_true h)⟩
 ·rintro (⟨hw, h⟩ | ⟨z, hz, h⟩)
  ·refine ⟨-1, (H.mem _).2 (.inl ⟨hw, rfl⟩), ?_⟩
   unfold endB
   rw [if_pos (by decide), hnul]
   exact h
  ·refine ⟨(z : Int), (H.mem _).2 (.inr ⟨z, rfl, hz⟩), ?_⟩
   unfold endB
   rw [if_neg (by omega), hlst]
   exact decide_eq_true (nat_ints.2 h)
end
open Classical in
noncomputable def accV (p : List PM) (w : List ByteArray) : Bool := okV p && (decide (w.length ≤ 200) && decide (GL (md p) (loT p) (p.length - 1) w))
open Classical in
theorem impl_accepts (p : List PM) (hs : smallM p) (w : List ByteArray) : Ev (fun k => impl_Accepts.f k p w) (accV p w) := by
 have h2 := impl_ok p hs
 unfold accV
 cases h : okV p with
 | false =>
  rw [h] at h2
  rw [Bool.false_and]
  exact Ev.bind h2 (Ev.now _)
 | true =>
  rw [h] at h2
  rw [Bool.true_and]
  have K := okP h
  have ho := K.one
  obtain ⟨N, hN, HN⟩ := net_tells h
  refine Ev.bind h2 ?_
  simp only [if_true]
  by_cases hl : w.length ≤ 200
  ·rw [if_pos hl, decide_eq_true hl, Bool.true_and, hN]
   simp only [oB]
   rw [if_pos ⟨by omega, by rw [HN.fst]; simp, fun l hl => by
    rw [HN.fst] at hl
    obtain ⟨j, hj, rfl⟩ := List.mem_map.1 hl
    have := len_fst K (List.mem_range.1 hj)
    rw [iLn]
    unfold LIMK
    omega, by rw [HN.nul]; simp, by rw [HN.lst]; simp⟩]
   obtain ⟨fin, h3, h4⟩ := run_all K HN w [] [-1] ⟨fun x => by
    rw [List.mem_singleton]
    constructor
    ·intro h; exact .inl ⟨rfl, h⟩
    ·rintro (⟨_, h⟩ | ⟨z, _, h⟩)
     ·exact h
     ·exact absurd h rch_nil, by simp⟩
   rw [h3]
   have h5 := may_path K HN h4
   rw [List.nil_append] at h5
   have : mayF N p.length fin = decide (GL (md p) (loT p) (p.length - 1) w) := Bool.eq_iff_iff.2 (by rw [h5, decide_eq_true_eq])
   show Ev (fun _ => some (mayF N p.length fin)) _
   rw [this]
   exact Ev.now _
  ·rw [if_neg hl, decide_eq_false hl, Bool.false_and]
   exact Ev.now _
end Go.Proofs.Ytajdfbgbkgabjaa.Pure
namespace Go.Proofs.Ytajdfbgbkgabjaa.Pure
open Go.RowKit Ytajdfbgbkgabjaa.L YtajdfbgbkgabjaaW.PrintWords YtajdfbgbkgabjaaW.PrintLast YtajdfbgbkgabjaaW.PrintMore
set_option linter.unusedVariables false
set_option linter.unusedSimpArgs false
namespace MT
def anyN : ByteArray := ⟨#[97, 110, 121]⟩
def lessL (a y : List ByteArray) : List ByteArray := if y.length < a.length then y else a
def minL : List (List ByteArray) → List ByteArray
 | [] => []
 | x :: l => l.foldl lessL x
def samp (p : Md) (i : Nat) : List ByteArray :=
 if (nd p i).opt = true then [] else if (nd p i).kind = 1 then [(nd p i).name] else if (nd p i).kind = 4 then [anyN] else if (nd p i).kind = 2 then (nd p i).kids.flatMap (fun k => if _h : k < i then samp p k else []) else minL ((nd p i).kids.map (fun k => if _h : k < i then samp p k else []))
termination_by i
theorem fm_congr {β : Type} {F F' : Nat → List β} : ∀ {ks : List Nat}, (∀ k ∈ ks, F k = F' k) → ks.flatMap F = ks.flatMap F'
 | [], _ => rfl
 | k :: ks, h => by rw [List.flatMap_cons, List.flatMap_cons, h k (by simp), fm_congr (fun k' hk => h k' (by simp [hk]))]
theorem samp_eq {p : Md} (A : Ahead p) {i : Nat} (hi : i < p.length) : samp p i = if (nd p i).opt = true then [] else if (nd p i).kind = 1 then [(nd p i).name] else if (nd p i).kind = 4 then [anyN] else if (nd p i).kind = 2 then (nd p i).kids.flatMap (samp p) else minL ((nd p i).kids.map (samp p)) := by
 conv => lhs; rw [samp]
 rw [fm_congr (F' := samp p) (fun k hk => by rw [dif_pos (A i hi k hk)]), List.map_congr_left (g := samp p) (fun k hk => by rw [dif_pos (A i hi k hk)])]
theorem lessL_le (a y : List ByteArray) : (lessL a y).length ≤ a.length ∧ (lessL a y).length ≤ y.length := by
 unfold lessL
 split
 ·omega
 ·omega
theorem fold_le : ∀ (l : List (List ByteArray)) (a : List ByteArray), (l.foldl lessL a).length ≤ a.length ∧ ∀ x ∈ l, (l.foldl lessL a).length ≤ x.length
 | [], a => ⟨Nat.le_refl _, by simp⟩
 | y :: l, a => by
  obtain ⟨h1, h2⟩ := fold_le l (lessL a y)
  have h3 := lessL_le a y
  rw [List.foldl_cons]
  refine ⟨by omega, fun x hx => ?_⟩
  rcases List.mem_cons.1 hx with rfl | hx
  ·omega
  ·exact h2 x hx
theorem fold_mem : ∀ (l : List (List ByteArray)) (a : List ByteArray), l.foldl lessL a = a ∨ l.foldl lessL a ∈ l
 | [], a => .inl rfl
 | y :: l, a => by
  rw [List.foldl_cons]
  rcases fold_mem l (lessL a y) with h | h
  ·rw [h]
   unfold lessL
   split
   ·exact .inr (by simp)
   ·exact .inl rfl
  ·exact .inr (by simp [h])
theorem minL_le {l : List (List ByteArray)} {x : List ByteArray} (hx : x ∈ l) : (minL l).length ≤ x.length := by
 cases l with
 | nil => cases hx
 | cons y l =>
  obtain ⟨h1, h2⟩ := fold_le l y
  rcases List.mem_cons.1 hx with rfl | hx
  ·exact h1
  ·exact h2 x hx
theorem minL_mem {l : List (List ByteArray)} (h : l ≠ []) : minL l ∈ l := by
 cases l with
 | nil => exact absurd rfl h
 | cons y l =>
  rcases fold_mem l y with h | h
  ·show l.foldl lessL y ∈ y :: l
   rw [h]; simp
  ·exact List.mem_cons_of_mem _ h
theorem cat_flat {G : Nat → List ByteArray → Prop} {F : Nat → List ByteArray} : ∀ {ks : List Nat}, (∀ k ∈ ks, G k (F k)) → Cat G ks (ks.flatMap F)
 | [], _ => rfl
 | k :: ks, h => ⟨F k, ks.flatMap F, List.flatMap_cons, h k (by simp), cat_flat (fun k' hk => h k' (by simp [hk]))⟩
theorem cat_min {G : Nat → List ByteArray → Prop} {F : Nat → List ByteArray} : ∀ {ks : List Nat} {w : List ByteArray}, (∀ k ∈ ks, ∀ u, G k u → (F k).length ≤ u.length) → Cat G ks w → (ks.flatMap F).length ≤ w.length
 | [], w, _, _ => Nat.zero_le _
 | k :: ks, w, h, hc => by
  obtain ⟨u, v, rfl, h1, h2⟩ := hc
  have a := h k (by simp) u h1
  have b := cat_min (fun k' hk => h k' (by simp [hk])) h2
  rw [List.flatMap_cons, List.length_append, List.length_append]
  omega
theorem plus_min {G : List ByteArray → Prop} {w : List ByteArray} (h : Plus G w) : ∃ u, G u ∧ u.length ≤ w.length := by
 cases h with
 | one h => exact ⟨w, h, Nat.le_refl _⟩
 | more h _ => exact ⟨_, h, by rw [List.length_append]; omega⟩
section
variable {p : Md} {lo : Nat → Nat} (T : Tree p lo)
include T
theorem samp_len : ∀ i, i < p.length → (samp p i).length ≤ i + 1 - lo i := by
 intro i
 induction i using Nat.strongRecOn with
 | _ i ih =>
 intro hi
 have hfl : ∀ ks : List Nat, (ks.flatMap fun k => List.range (samp p k).length).length = (ks.flatMap (samp p)).length := by
  intro ks
  induction ks with
  | nil => rfl
  | cons k ks ihk => rw [List.flatMap_cons, List.flatMap_cons, List.length_append, List.length_append, ihk, List.length_range]
 have key := flat_len (F := fun k => List.range (samp p k).length) (T.chain i hi) (fun k hk => T.le k (by omega)) (fun k hk => by
  rw [List.length_range]
  exact ih k (T.kid hi hk).2 (by have := (T.kid hi hk).2; omega))
 rw [hfl] at key
 have hle := T.le i hi
 rw [samp_eq T.ahead hi]
 split
 ·simp
 ·split
  ·simp; omega
  ·split
   ·simp; omega
   ·split
    ·omega
    ·rcases hk : (nd p i).kids with _ | ⟨k, ks⟩
     ·simp [minL]
     ·have h1 := minL_le (l := (k :: ks).map (samp p)) (x := samp p k) (by simp)
      have h2 := ih k (T.kid hi (by rw [hk]; simp)).2 (by have := (T.kid hi (k := k) (by rw [hk]; simp)).2; omega)
      have h3 := T.kid hi (k := k) (by rw [hk]; simp)
      omega
theorem samp_in : ∀ i, i < p.length → GL p lo i (samp p i) := by
 intro i
 induction i using Nat.strongRecOn with
 | _ i ih =>
 intro hi
 have ihk : ∀ k ∈ (nd p i).kids, GL p lo k (samp p k) := fun k hk => ih k (T.kid hi hk).2 (by have := (T.kid hi hk).2; omega)
 rw [GL_eq T hi, samp_eq T.ahead hi]
 by_cases ho : (nd p i).opt = true
 ·rw [if_pos ho]; exact .inl ⟨ho, rfl⟩
 ·rw [if_neg ho]
  right
  suffices h : G1 p lo i (if (nd p i).kind = 1 then [(nd p i).name] else if (nd p i).kind = 4 then [anyN] else if (nd p i).kind = 2 then (nd p i).kids.flatMap (samp p) else minL ((nd p i).kids.map (samp p))) by
   split
   ·exact .one h
   ·exact h
  rcases T.kinds i hi with ⟨hp, _⟩ | h2 | ⟨h3, hl⟩
  ·rw [G1_pos T hi hp]
   unfold Nd.pos at hp
   by_cases h1 : (nd p i).kind = 1
   ·rw [if_pos h1]; exact ⟨_, rfl, .inr rfl⟩
   ·have h4 : (nd p i).kind = 4 := by simpa [h1] using hp
    rw [if_neg h1, if_pos h4]; exact ⟨_, rfl, .inl h4⟩
  ·rw [if_neg (by omega), if_neg (by omega), if_pos h2, G1_seq T hi h2]
   exact cat_flat ihk
  ·rw [if_neg (by omega), if_neg (by omega), if_neg (by omega), G1_or T hi h3]
   have hm := minL_mem (l := (nd p i).kids.map (samp p)) (by
    intro e
    rw [List.map_eq_nil_iff] at e
    rw [e] at hl
    simp at hl)
   obtain ⟨k, hk, e⟩ := List.mem_map.1 hm
   exact ⟨k, hk, by rw [← e]; exact ihk k hk⟩
theorem samp_min : ∀ i, i < p.length → ∀ w, GL p lo i w → (samp p i).length ≤ w.length := by
 intro i
 induction i using Nat.strongRecOn with
 | _ i ih =>
 intro hi w hw
 have ihk : ∀ k ∈ (nd p i).kids, ∀ u, GL p lo k u → (samp p k).length ≤ u.length := fun k hk => ih k (T.kid hi hk).2 (by have := (T.kid hi hk).2; omega)
 rw [GL_eq T hi] at hw
 rw [samp_eq T.ahead hi]
 by_cases ho : (nd p i).opt = true
 ·rw [if_pos ho]; exact Nat.zero_le _
 ·rw [if_neg ho]
  obtain ⟨u, hu, hul⟩ : ∃ u, G1 p lo i u ∧ u.length ≤ w.length := by
   rcases hw with ⟨h, _⟩ | h
   ·exact absurd h ho
   ·split at h
    ·exact plus_min h
    ·exact ⟨w, h, Nat.le_refl _⟩
  refine Nat.le_trans ?_ hul
  rcases T.kinds i hi with ⟨hp, _⟩ | h2 | ⟨h3, hl⟩
  ·rw [G1_pos T hi hp] at hu
   obtain ⟨nm, rfl, _⟩ := hu
   unfold Nd.pos at hp
   by_cases h1 : (nd p i).kind = 1
   ·rw [if_pos h1]; simp
   ·have h4 : (nd p i).kind = 4 := by simpa [h1] using hp
    rw [if_neg h1, if_pos h4]; simp
  ·rw [if_neg (by omega), if_neg (by omega), if_pos h2]
   rw [G1_seq T hi h2] at hu
   exact cat_min ihk hu
  ·rw [if_neg (by omega), if_neg (by omega), if_neg (by omega)]
   rw [G1_or T hi h3] at hu
   obtain ⟨k, hk, hu⟩ := hu
   exact Nat.le_trans (minL_le (List.mem_map.2 ⟨k, hk, rfl⟩)) (ihk k hk u hu)
end
theorem GL_nil {p : Md} {lo : Nat → Nat} {i : Nat} : GL p lo i [] ↔ nul p i = true := by
 unfold GL PL
 constructor
 ·rintro (⟨_, h⟩ | ⟨c, m, z, _, _, cs, rfl, _, _, h⟩)
  ·exact h
  ·rw [fit_nil] at h
   cases m <;> cases h
 ·intro h; exact .inl ⟨rfl, h⟩
end MT
theorem first_total (c : Int) : ∃ m, spec_l1First.f c = some m := by
 unfold spec_l1First.f
 repeat' (first | exact ⟨_, rfl⟩ | split)
theorem more_total (c : Int) : ∃ m, spec_l1More.f c = some m := by
 obtain ⟨m, h⟩ := first_total c
 unfold spec_l1More.f
 rw [h]
 simp only [oB]
 split
 ·exact ⟨_, rfl⟩
 ·have : ∃ d, spec_l1Digit.f c = some d := by
   unfold spec_l1Digit.f
   split <;> exact ⟨_, rfl⟩
  obtain ⟨d, hd⟩ := this
  rw [hd]
  simp only [oB]
  split
  ·exact ⟨_, rfl⟩
  ·split <;> exact ⟨_, rfl⟩
theorem isN_lt {s : ByteArray} {a : Nat} {b : Bool} {c : Int} (h : isN s a b c = true) : a < s.size ∧ b = false := by
 unfold isN at h
 simp only [Bool.and_eq_true, Bool.not_eq_true', decide_eq_true_eq] at h
 exact ⟨h.2.1, h.1⟩
theorem occ_le (s : ByteArray) (a : Nat) (b : Bool) (h : a ≤ s.size) : a ≤ (occN s a b).2 ∧ (occN s a b).2 ≤ s.size := by
 unfold occN
 by_cases c1 : isN s a b 63 = true
 ·rw [if_pos c1]; have := isN_lt c1; exact ⟨by show a ≤ a + 1; omega, by show a + 1 ≤ _; omega⟩
 ·rw [if_neg c1]
  by_cases c2 : isN s a b 42 = true
  ·rw [if_pos c2]; have := isN_lt c2; exact ⟨by show a ≤ a + 1; omega, by show a + 1 ≤ _; omega⟩
  ·rw [if_neg c2]
   by_cases c3 : isN s a b 43 = true
   ·rw [if_pos c3]; have := isN_lt c3; exact ⟨by show a ≤ a + 1; omega, by show a + 1 ≤ _; omega⟩
   ·rw [if_neg c3]; exact ⟨Nat.le_refl _, h⟩
theorem scan_ev (s : ByteArray) : ∀ (m a : Nat), a + m = s.size → ∃ e, Ev (fun k => itS k s a) e ∧ a ≤ e ∧ e ≤ s.size := by
 intro m
 induction m with
 | zero =>
  intro a ha
  refine ⟨a, Ev.step (f := fun _ => some a) (fun k => ?_) (Ev.now _), Nat.le_refl _, by omega⟩
  show (if a < s.size then _ else _) = _
  rw [if_neg (by omega)]
 | succ m ih =>
  intro a ha
  obtain ⟨e, h1, h2, h3⟩ := ih (a + 1) (by omega)
  obtain ⟨b, hb⟩ := more_total (bt s (a : Int))
  cases b with
  | true =>
   refine ⟨e, Ev.step (fun k => ?_) h1, by omega, h3⟩
   show (if a < s.size then _ else _) = _
   rw [if_pos (by omega), hb]
   rfl
  | false =>
   refine ⟨a, Ev.step (f := fun _ => some a) (fun k => ?_) (Ev.now _), Nat.le_refl _, by omega⟩
   show (if a < s.size then _ else _) = _
   rw [if_pos (by omega), hb]
   rfl
def smallN (x : SPm) : Prop := x.f1.data.toList.length ≤ 20000 ∧ x.f2.length ≤ 1000
structure RdOk (s : ByteArray) (a : Nat) (out : List SPm) (r : Int × Nat × Bool × List SPm) : Prop where
 lo : a ≤ r.2.1
 hi : r.2.1 ≤ s.size
 big : r.2.2.2.length ≤ 41 + (s.size - a)
 fine : r.2.2.1 = false → r.2.2.2.length ≤ 40
 more : out.length < r.2.2.2.length
 small : ∀ x ∈ r.2.2.2, smallN x
theorem tail_ev {s : ByteArray} {a0 a : Nat} {bad : Bool} {out0 out : List SPm} {kind : Int} {name : ByteArray} {kids : List Int} (hs : s.size ≤ 20000) (h0 : a0 ≤ a) (ha : a ≤ s.size) (ho : out.length ≤ 40 + (s.size - a0)) (hm : out0.length ≤ out.length) (hsm : ∀ x ∈ out, smallN x) (hn : name.data.toList.length ≤ 20000) (hk : kids.length ≤ 1000) :
  ∃ r, itT s a bad out kind name kids = some r ∧ RdOk s a0 out0 r := by
 have h := occ_le s a bad ha
 refine ⟨_, by unfold itT; rw [if_pos (show out.length < 1000000 by omega)], ⟨by show a0 ≤ (occN s a bad).2; omega, h.2, by show (out ++ [_]).length ≤ _; rw [List.length_append, List.length_singleton]; omega, ?_, by show out0.length < (out ++ [_]).length; rw [List.length_append, List.length_singleton]; omega, ?_⟩⟩
 ·intro h
  have h' : (bad || decide (40 < out.length + 1)) = false := h
  rw [Bool.or_eq_false_iff, decide_eq_false_iff_not] at h'
  show (out ++ [_]).length ≤ 40
  rw [List.length_append, List.length_singleton]
  omega
 ·intro x hx
  rcases List.mem_append.1 hx with h | h
  ·exact hsm x h
  ·rw [List.mem_singleton.1 h]
   exact ⟨hn, hk⟩
theorem itA_ok {s : ByteArray} {a : Nat} {kind : Int} {kids : List Int} (ha : a ≤ s.size) : a ≤ (itA s a kind kids).1 ∧ (itA s a kind kids).1 ≤ s.size := by
 unfold itA
 split
 ·split
  ·have := isN_lt (by assumption)
   split
   ·exact ⟨by show a ≤ a + 1; omega, by show a + 1 ≤ _; omega⟩
   ·split <;> exact ⟨by show a ≤ a + 1; omega, by show a + 1 ≤ _; omega⟩
  ·split
   ·exact ⟨Nat.le_refl _, ha⟩
   ·split
    ·have := isN_lt (by assumption)
     exact ⟨by show a ≤ a + 1; omega, by show a + 1 ≤ _; omega⟩
    ·exact ⟨Nat.le_refl _, ha⟩
 ·exact ⟨Nat.le_refl _, ha⟩
theorem ext_size (s : ByteArray) (a e : Nat) (h : e ≤ s.size) : (s.extract a e).data.toList.length ≤ s.size := by
 rw [Lib.extract_data]
 have : s.data.toList.length = s.size := by rw [Array.length_toList]; rfl
 simp only [List.length_take, List.length_drop]
 omega
theorem item_ev (s : ByteArray) (hs : s.size ≤ 20000) : ∀ (m a : Nat), s.size - a ≤ m → a ≤ s.size → ∀ (bad : Bool) (out : List SPm) (deep : Int), out.length ≤ 40 → (∀ x ∈ out, smallN x) → ∃ r, Ev (fun k => itF k s a bad out deep) r ∧ RdOk s a out r := by
 intro m
 induction m using Nat.strongRecOn with
 | _ m IH =>
 intro a hm ha bad out deep ho hsm
 have hemp : ((⟨#[]⟩ : ByteArray)).data.toList.length ≤ 20000 := by decide
 cases h40 : isN s a bad 40 with
 | true =>
  have hlt := isN_lt h40
  -- the loop over kids
  have loop : ∀ (q a2 : Nat) (bad2 : Bool) (out2 : List SPm) (kind : Int) (kids : List Int), (bad2 = false → 41 - out2.length ≤ q ∧ out2.length ≤ 40) → a + 1 ≤ a2 → a2 ≤ s.size → out2.length ≤ 40 + (s.size - a) → out.length ≤ out2.length → (∀ x ∈ out2, smallN x) → kids.length + out.length ≤ out2.length → kids.length ≤ 200 →
    ∃ y : Nat × Bool × List SPm × Int × List Int, Ev (fun k => itL k s a2 bad2 out2 deep kind kids) y ∧ a ≤ y.1 ∧ y.1 ≤ s.size ∧ y.2.2.1.length ≤ 40 + (s.size - a) ∧ out.length ≤ y.2.2.1.length ∧ (∀ x ∈ y.2.2.1, smallN x) ∧ y.2.2.2.2.length ≤ 300 := by
   intro q
   induction q with
   | zero =>
    intro a2 bad2 out2 kind kids hb h1 h2 h3 h4 h5 h6 h7
    cases bad2 with
    | false => have := hb rfl; omega
    | true =>
     refine ⟨(a2, true, out2, kind, kids), Ev.step (f := fun _ => some (a2, true, out2, kind, kids)) (fun k => ?_) (Ev.now _), by show a ≤ a2; omega, h2, h3, h4, h5, by show kids.length ≤ 300; omega⟩
     conv => lhs; rw [itL]
     rw [if_pos rfl]
   | succ q ih =>
    intro a2 bad2 out2 kind kids hb h1 h2 h3 h4 h5 h6 h7
    cases bad2 with
    | true =>
     refine ⟨(a2, true, out2, kind, kids), Ev.step (f := fun _ => some (a2, true, out2, kind, kids)) (fun k => ?_) (Ev.now _), by show a ≤ a2; omega, h2, h3, h4, h5, by show kids.length ≤ 300; omega⟩
     conv => lhs; rw [itL]
     rw [if_pos rfl]
    | false =>
     have hb' := hb rfl
     cases h41 : isN s a2 false 41 with
     | true =>
      have := isN_lt h41
      refine ⟨(a2 + 1, false, out2, kind, kids), Ev.step (f := fun _ => some (a2 + 1, false, out2, kind, kids)) (fun k => ?_) (Ev.now _), by show a ≤ a2 + 1; omega, by show a2 + 1 ≤ _; omega, h3, h4, h5, by show kids.length ≤ 300; omega⟩
      conv => lhs; rw [itL]
      rw [if_neg (by decide), if_pos h41]
     | false =>
      have hA := itA_ok (kind := kind) (kids := kids) h2
      obtain ⟨r, hr, R⟩ := IH (s.size - (itA s a2 kind kids).1) (by omega) (itA s a2 kind kids).1 (Nat.le_refl _) hA.2 (itA s a2 kind kids).2.1 out2 (wrap64 (deep + 1)) hb'.2 h5
      have hlo := R.lo
      have hhi := R.hi
      have hbg := R.big
      have hmo := R.more
      have hkl : (kids ++ [r.1]).length = kids.length + 1 := by rw [List.length_append, List.length_singleton]
      have q1 : a + 1 ≤ r.2.1 := by omega
      have q2 : r.2.2.2.length ≤ 40 + (s.size - a) := by omega
      have q3 : out.length ≤ r.2.2.2.length := by omega
      have q4 : (kids ++ [r.1]).length + out.length ≤ r.2.2.2.length := by omega
      have q5 : (kids ++ [r.1]).length ≤ 200 := by omega
      have q6 : r.2.2.1 = false → 41 - r.2.2.2.length ≤ q ∧ r.2.2.2.length ≤ 40 := fun e => ⟨by have := R.fine e; omega, R.fine e⟩
      obtain ⟨y, hy, hy2⟩ := ih r.2.1 r.2.2.1 r.2.2.2 (itA s a2 kind kids).2.2 (kids ++ [r.1]) q6 q1 hhi q2 q3 R.small q4 q5
      refine ⟨y, Ev.step (f := fun k => (itF k s (itA s a2 kind kids).1 (itA s a2 kind kids).2.1 out2 (wrap64 (deep + 1))).bind fun r => if kids.length < 1000000 then itL k s r.2.1 r.2.2.1 r.2.2.2 deep (itA s a2 kind kids).2.2 (kids ++ [r.1]) else none) (fun k => ?_) (Ev.bind hr ?_), hy2⟩
      ·conv => lhs; rw [itL]
       rw [if_neg (by decide), if_neg (by rw [h41]; decide)]
      ·simp only [if_pos (show kids.length < 1000000 by omega)]
       exact hy
  obtain ⟨y, hy, y1, y2, y3, y4, y5, y6⟩ := loop 41 (a + 1) (bad || decide (deep > 10)) out 2 [] (fun _ => ⟨by omega, ho⟩) (by omega) (by omega) (by omega) (Nat.le_refl _) hsm (by simp) (by simp)
  obtain ⟨r, hr, R⟩ := tail_ev (a0 := a) (out0 := out) (bad := y.2.1) (kind := y.2.2.2.1) (name := (⟨#[]⟩ : ByteArray)) (kids := y.2.2.2.2) hs y1 y2 y3 y4 y5 hemp (by omega)
  refine ⟨r, Ev.step (f := fun k => (itL k s (a + 1) (bad || decide (deep > 10)) out deep 2 []).bind fun x => itT s x.1 x.2.1 x.2.2.1 x.2.2.2.1 (⟨#[]⟩ : ByteArray) x.2.2.2.2) (fun k => ?_) (Ev.bind hy ?_), R⟩
  ·conv => lhs; rw [itF]
   rw [if_pos h40]
  ·rw [hr]
   exact Ev.now _
 | false =>
  cases h35 : isN s a bad 35 with
  | true =>
   have hlt := isN_lt h35
   obtain ⟨r, hr, R⟩ := tail_ev (a0 := a) (a := a + 1) (bad := bad) (out0 := out) (out := out) (kind := 4) (name := (⟨#[]⟩ : ByteArray)) (kids := []) hs (by omega) (by omega) (by omega) (Nat.le_refl _) hsm hemp (by simp)
   refine ⟨r, Ev.step (f := fun _ => some r) (fun k => ?_) (Ev.now _), R⟩
   conv => lhs; rw [itF]
   rw [if_neg (by rw [h40]; decide), if_pos h35, hr]
  | false =>
   obtain ⟨e, he, e1, e2⟩ := scan_ev s (s.size - a) a (by omega)
   have hn := spec_name (s.extract a e)
   have hsz := ext_size s a e e2
   obtain ⟨r, hr, R⟩ := tail_ev (a0 := a) (a := e) (bad := if nameB (s.extract a e).data.toList = true then bad else true) (out0 := out) (out := out) (kind := 1) (name := s.extract a e) (kids := []) hs e1 e2 (by omega) (Nat.le_refl _) hsm (by omega) (by simp)
   refine ⟨r, Ev.step (f := fun k => (itS k s a).bind fun e => if a ≤ e ∧ e ≤ s.size then ((spec_NameOk.f k (s.extract a e)).bind fun ok => itT s e (if ok = true then bad else true) out 1 (s.extract a e) []) else none) (fun k => ?_) (Ev.bind he ?_), R⟩
   ·conv => lhs; rw [itF]
    rw [if_neg (by rw [h40]; decide), if_neg (by rw [h35]; decide)]
   ·simp only [if_pos (show a ≤ e ∧ e ≤ s.size from ⟨e1, e2⟩)]
    refine Ev.bind hn ?_
    rw [hr]
    exact Ev.now _
theorem read_ev (s : ByteArray) : ∃ R : List PM × Bool, Ev (fun k => spec_ReadModel.f k s) R ∧ R.1.length ≤ 40 ∧ ∀ x ∈ R.1, smallN x := by
 have hno : ∃ R : List PM × Bool, Ev (fun _ : Nat => some (([] : List PM), false)) R ∧ R.1.length ≤ 40 ∧ ∀ x ∈ R.1, smallN x := ⟨([], false), Ev.now _, by simp, by simp⟩
 unfold spec_ReadModel.f
 by_cases c1 : s.toList = ([] : List UInt8)
 ·simp only [if_pos c1]; exact hno
 ·simp only [if_neg c1]
  by_cases c2 : bt s 0 = 40
  ·simp only [if_pos c2]
   by_cases c3 : s.size ≤ 20000
   ·simp only [if_pos c3]
    obtain ⟨r, hr, R⟩ := item_ev s c3 s.size 0 (by omega) (by omega) false [] 1 (by simp) (by simp)
    obtain ⟨r1, r2, r3, r4⟩ := r
    cases r3 with
    | true => exact ⟨([], false), Ev.bind hr (Ev.now _), by simp, by simp⟩
    | false =>
     by_cases c4 : r2 < s.size
     ·refine ⟨([], false), Ev.bind hr ?_, by simp, by simp⟩
      simp only [Bool.false_eq_true, if_false, if_pos c4]
      exact Ev.now _
     ·have hok := spec_ok r4 (fun x hx => by have := R.small x hx; unfold smallN at this; omega)
      have h40 := R.fine rfl
      cases hv : okV r4 with
      | true =>
       rw [hv] at hok
       refine ⟨(r4, true), Ev.bind hr ?_, h40, R.small⟩
       simp only [Bool.false_eq_true, if_false, if_neg c4]
       refine Ev.bind hok ?_
       simp only [if_true]
       exact Ev.now _
      | false =>
       rw [hv] at hok
       refine ⟨([], false), Ev.bind hr ?_, by simp, by simp⟩
       simp only [Bool.false_eq_true, if_false, if_neg c4]
       refine Ev.bind hok ?_
       simp only [Bool.false_eq_true, if_false]
       exact Ev.now _
   ·simp only [if_neg c3]; exact hno
  ·simp only [if_neg c2]; exact hno
end Go.Proofs.Ytajdfbgbkgabjaa.Pure
