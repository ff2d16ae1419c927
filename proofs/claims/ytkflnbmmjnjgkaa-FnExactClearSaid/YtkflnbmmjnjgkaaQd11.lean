/- Words and contracts for the row RowFnExactClear: what the Go functions answer that it calls; printed by programs of the kit and of this session, and merged. -/
import Derived.Test.YtkflnbmmjnjgkaaQd10
import Derived.ChangeArms
import Derived.ChangeSlices
import Derived.DataElems
import Derived.Lib.Hide
import Derived.Outline
namespace Go.Proofs.Ytkflnbmmjnjgkaa.Pure
open Go.RowKit Go.Proofs.Ytkflnbmmjnjgkaa.L Go.Proofs.YtkflnbmmjnjgkaaW.PrintWords Go.Proofs.YtkflnbmmjnjgkaaW.PrintLast Go.Proofs.YtkflnbmmjnjgkaaW.PrintMore
open MT
set_option linter.unusedVariables false
set_option linter.unusedSimpArgs false

theorem spec_has (l : List Nat) (a : Nat) (hl : l.length ≤ 1048576) : Ev (fun k => spec_l8Has.f k (ints l) (a : Int)) (decide (a ∈ l)) := by
  have loop : ∀ (m j : Nat), j + m = l.length → Ev (fun k => spec_l8Has.l0 k (ints l) (a : Int) (j : Int)) (decide (a ∈ l.drop j)) := by
    intro m
    induction m with
    | zero =>
      intro j hj
      rw [List.drop_of_length_le (by omega)]
      refine Ev.step (f := fun _ => some false) (fun k => ?_) (Ev.now _)
      conv => lhs; unfold spec_l8Has.l0
      rw [if_neg (by rw [ints_len]; omega)]
    | succ m ih =>
      intro j hj
      have hlt : j < l.length := by omega
      rw [List.drop_eq_getElem_cons hlt]
      by_cases c : (l[j] : Int) = (a : Int)
      · rw [decide_eq_true (List.mem_cons.2 (.inl (by omega)) : a ∈ l[j] :: l.drop (j + 1))]
        refine Ev.step (f := fun _ => some true) (fun k => ?_) (Ev.now _)
        conv => lhs; unfold spec_l8Has.l0
        rw [if_pos (by rw [ints_len]; omega), if_pos (by omega), rd_ints hlt, if_pos c]
      · rw [show decide (a ∈ l[j] :: l.drop (j + 1)) = decide (a ∈ l.drop (j + 1)) from decide_eq_decide.2 (by
          rw [List.mem_cons]
          constructor
          · rintro (h | h)
            · exact absurd (by omega) c
            · exact h
          · exact .inr)]
        refine Ev.step (fun k => ?_) (ih (j + 1) (by omega))
        conv => lhs; unfold spec_l8Has.l0
        rw [if_pos (by rw [ints_len]; omega), if_pos (by omega), rd_ints hlt, if_neg c, w1n hlt (by omega)]
  have := loop l.length 0 (Nat.zero_add _)
  rw [List.drop_zero] at this
  exact this
section
variable {p : List PM} (K : OkP p)
include K
theorem e_false {i : Nat} (hi : i < p.length) : Ev (fun k => spec_l8Edge.f k p (i : Int) false) (ints (fst (md p) i)) := spec_edge K false i hi
theorem e_true {i : Nat} (hi : i < p.length) : Ev (fun k => spec_l8Edge.f k p (i : Int) true) (ints (lstS (md p) i)) := spec_edge K true i hi
theorem len_fst {i : Nat} (hi : i < p.length) : (fst (md p) i).length ≤ 40 := by
  have := edge_len K.tr fst (.inl rfl) i (by rw [md_len]; exact hi)
  have := K.most
  omega
theorem len_lstS {i : Nat} (hi : i < p.length) : (lstS (md p) i).length ≤ 40 := by
  have := lstS_len K.tr i (by rw [md_len]; exact hi)
  have := K.most
  omega
theorem len_pre {i : Nat} (hi : i < p.length) (j : Nat) : (pre (nul (md p)) (fst (md p)) ((nd (md p) i).kids.drop j)).length ≤ 40 := by
  have him : i < (md p).length := by rw [md_len]; exact hi
  have h1 := (pre_sub (N := nul (md p)) (F := fst (md p)) ((nd (md p) i).kids.drop j)).length_le
  have h2 := flat_len (F := fst (md p)) (K.tr.chain i him) (fun k hk => K.tr.le k (by omega)) (fun k hk => edge_len K.tr fst (.inl rfl) k (by have := (K.tr.kid him hk).2; omega))
  have h3 := congrArg List.length (congrArg (List.flatMap (fst (md p))) (List.take_append_drop j (nd (md p) i).kids))
  rw [List.flatMap_append, List.length_append] at h3
  have := K.most
  omega
theorem len_aftr {i : Nat} (hi : i < p.length) (n : Nat) : ∀ (m j : Nat), j + m = (nd (md p) i).kids.length → (aftr (md p) n ((nd (md p) i).kids.drop j)).length ≤ 40 * m
  | 0, j, h => by rw [List.drop_of_length_le (by omega)]; simp [aftr]
  | m + 1, j, h => by
    rw [List.drop_eq_getElem_cons (by omega), aftr, List.length_append]
    have h1 := len_aftr hi n m (j + 1) (by omega)
    have h2 := len_pre K hi (j + 1)
    split
    · omega
    · simp only [List.length_nil]; omega
theorem spec_follow_l2 {i a : Nat} (hi : i < p.length) (j B : Nat) (x8 : Int) (hx8 : wrap64 (x8 + 1) = ((j : Nat) : Int)) (hB : B ≤ 1048576) (R : List Int → List Int) (hR : ∀ acc : List Int, acc.length ≤ B → Ev (fun k => spec_l8Follow.l1 k p (a : Int) acc (i : Int) (j : Int) (at_ p i).f0 (at_ p i).f1 (at_ p i).f2 (at_ p i).f3) (R acc)) :
    ∀ (m q : Nat) (acc : List Int), q + m = (nd (md p) i).kids.length → acc.length + (pre (nul (md p)) (fst (md p)) ((nd (md p) i).kids.drop q)).length ≤ B → Ev (fun k => spec_l8Follow.l2 k p (a : Int) acc (i : Int) x8 (q : Int) (at_ p i).f0 (at_ p i).f1 (at_ p i).f2 (at_ p i).f3) (R (acc ++ ints (pre (nul (md p)) (fst (md p)) ((nd (md p) i).kids.drop q)))) := by
  have hk := K.f2 hi
  have him : i < (md p).length := by rw [md_len]; exact hi
  have hks := kids_small K hi
  have hm := K.most
  intro m
  induction m with
  | zero =>
    intro q acc hq hl
    rw [List.drop_of_length_le (by omega)] at hl ⊢
    rw [show acc ++ ints (pre (nul (md p)) (fst (md p)) []) = acc from List.append_nil _]
    refine Ev.step (fun k => ?_) (hR acc (by omega))
    conv => lhs; unfold spec_l8Follow.l2
    rw [if_neg (by rw [hk, ints_len]; omega), hx8]
  | succ m ih =>
    intro q acc hq hl
    have hlt : q < (nd (md p) i).kids.length := by omega
    have hki : (nd (md p) i).kids[q] < i := (K.tr.kid him (List.getElem_mem hlt)).2
    rw [List.drop_eq_getElem_cons hlt] at hl ⊢
    rw [pre] at hl ⊢
    rw [List.length_append] at hl
    have hf := len_fst K (show (nd (md p) i).kids[q] < p.length by omega)
    have hacc : (acc ++ ints (fst (md p) (nd (md p) i).kids[q])).length = acc.length + (fst (md p) (nd (md p) i).kids[q]).length := by rw [List.length_append, ints_len]
    refine Ev.step (f := fun k => (spec_l8Edge.f k p ((nd (md p) i).kids[q] : Int) false).bind fun t371 => (if acc.length + t371.length < 17592186044416 then ((some (acc ++ t371 : List Int)).bind fun y374 => ((spec_l8Null.f k p ((nd (md p) i).kids[q] : Int)).bind fun t378 => (if t378 = true then (spec_l8Follow.l2 k p (a : Int) y374 (i : Int) x8 ((q + 1 : Nat) : Int) (at_ p i).f0 (at_ p i).f1 (at_ p i).f2 (at_ p i).f3) else (spec_l8Follow.l1 k p (a : Int) y374 (i : Int) (j : Int) (at_ p i).f0 (at_ p i).f1 (at_ p i).f2 (at_ p i).f3)))) else (none))) (fun k => ?_) (Ev.bind (e_false K (show (nd (md p) i).kids[q] < p.length by omega)) ?_)
    · conv => lhs; unfold spec_l8Follow.l2
      rw [if_pos (by rw [hk, ints_len]; omega), if_pos (by omega), hx8, w1n hlt (by omega)]
      rw [show rd (at_ p i).f2 (q : Int) = ((nd (md p) i).kids[q] : Int) by rw [hk]; exact rd_ints hlt]
    · rw [ints_len]
      have hgo : Ev (fun k => (spec_l8Null.f k p ((nd (md p) i).kids[q] : Int)).bind fun t378 => (if t378 = true then (spec_l8Follow.l2 k p (a : Int) (acc ++ ints (fst (md p) (nd (md p) i).kids[q])) (i : Int) x8 ((q + 1 : Nat) : Int) (at_ p i).f0 (at_ p i).f1 (at_ p i).f2 (at_ p i).f3) else (spec_l8Follow.l1 k p (a : Int) (acc ++ ints (fst (md p) (nd (md p) i).kids[q])) (i : Int) (j : Int) (at_ p i).f0 (at_ p i).f1 (at_ p i).f2 (at_ p i).f3))) (R (acc ++ ints (fst (md p) (nd (md p) i).kids[q] ++ if nul (md p) (nd (md p) i).kids[q] = true then pre (nul (md p)) (fst (md p)) ((nd (md p) i).kids.drop (q + 1)) else []))) := by
        refine Ev.bind (spec_null K (nd (md p) i).kids[q] (by omega)) ?_
        by_cases n : nul (md p) (nd (md p) i).kids[q] = true
        · simp only [if_pos n] at hl ⊢
          rw [ints_app, ← List.append_assoc]
          exact ih (q + 1) _ (by omega) (by rw [hacc]; omega)
        · simp only [if_neg n, List.append_nil]
          exact hR _ (by rw [hacc]; omega)
      refine Ev.congr (fun k => ?_) hgo
      rw [if_pos (by omega)]
      rfl
theorem spec_follow_l1 {i a : Nat} (hi : i < p.length) (R : List Int → List Int) (hR : ∀ acc : List Int, acc.length ≤ 1640 * (i + 1) → Ev (fun k => spec_l8Follow.l0 k p (a : Int) acc ((i + 1 : Nat) : Int)) (R acc)) :
    ∀ (m j : Nat) (acc : List Int), j + m = (nd (md p) i).kids.length → acc.length + (aftr (md p) a ((nd (md p) i).kids.drop j)).length ≤ 1640 * (i + 1) → Ev (fun k => spec_l8Follow.l1 k p (a : Int) acc (i : Int) (j : Int) (at_ p i).f0 (at_ p i).f1 (at_ p i).f2 (at_ p i).f3) (R (acc ++ ints (aftr (md p) a ((nd (md p) i).kids.drop j)))) := by
  have hk := K.f2 hi
  have him : i < (md p).length := by rw [md_len]; exact hi
  have hks := kids_small K hi
  have hm := K.most
  intro m
  induction m with
  | zero =>
    intro j acc hj hl
    rw [List.drop_of_length_le (by omega)] at hl ⊢
    rw [show acc ++ ints (aftr (md p) a []) = acc from List.append_nil _]
    refine Ev.step (fun k => ?_) (hR acc (by omega))
    conv => lhs; unfold spec_l8Follow.l1
    rw [if_neg (by rw [hk, ints_len]; omega), w1n hi (by omega)]
  | succ m ih =>
    intro j acc hj hl
    have hlt : j < (nd (md p) i).kids.length := by omega
    have hki : (nd (md p) i).kids[j] < i := (K.tr.kid him (List.getElem_mem hlt)).2
    rw [List.drop_eq_getElem_cons hlt] at hl ⊢
    rw [aftr] at hl ⊢
    rw [List.length_append] at hl
    refine Ev.step (f := fun k => (spec_l8Edge.f k p ((nd (md p) i).kids[j] : Int) true).bind fun t366 => ((spec_l8Has.f k t366 (a : Int)).bind fun t369 => (if t369 = true then (spec_l8Follow.l2 k p (a : Int) acc (i : Int) (j : Int) ((j + 1 : Nat) : Int) (at_ p i).f0 (at_ p i).f1 (at_ p i).f2 (at_ p i).f3) else (spec_l8Follow.l1 k p (a : Int) acc (i : Int) ((j + 1 : Nat) : Int) (at_ p i).f0 (at_ p i).f1 (at_ p i).f2 (at_ p i).f3)))) (fun k => ?_) (Ev.bind (e_true K (show (nd (md p) i).kids[j] < p.length by omega)) (Ev.bind (spec_has _ a (by have := len_lstS K (show (nd (md p) i).kids[j] < p.length by omega); omega)) ?_))
    · conv => lhs; unfold spec_l8Follow.l1
      rw [if_pos (by rw [hk, ints_len]; omega), if_pos (by omega), w1n hlt (by omega)]
      rw [show rd (at_ p i).f2 (j : Int) = ((nd (md p) i).kids[j] : Int) by rw [hk]; exact rd_ints hlt]
    · by_cases n : a ∈ lstS (md p) (nd (md p) i).kids[j]
      · rw [if_pos n] at hl ⊢
        rw [decide_eq_true n, ints_app, ← List.append_assoc]
        simp only [if_true]
        refine spec_follow_l2 K hi (j + 1) (1640 * (i + 1) - (aftr (md p) a ((nd (md p) i).kids.drop (j + 1))).length) (j : Int) (w1n hlt (by omega)) (by omega) (fun acc => R (acc ++ ints (aftr (md p) a ((nd (md p) i).kids.drop (j + 1))))) (fun acc' hl' => ih (j + 1) acc' (by omega) (by omega)) m (j + 1) acc (by omega) (by omega)
      · rw [if_neg n] at hl ⊢
        rw [decide_eq_false n, List.nil_append]
        simpa using ih (j + 1) acc (by omega) (by simpa using hl)
theorem oft_three {i : Nat} (hi : i < p.length) : oftB (at_ p i) = decide ((at_ p i).f3 ≥ 2) := by
  have h := K.ok i hi
  unfold okN at h
  simp only [Bool.and_eq_true, decide_eq_true_eq] at h
  unfold oftB
  by_cases c : (at_ p i).f3 ≥ 2
  · rw [decide_eq_true c]
    by_cases c2 : (at_ p i).f3 = 2
    · rw [c2]; rfl
    · rw [show (at_ p i).f3 = 3 by omega]; rfl
  · rw [decide_eq_false c, beq_eq_false_iff_ne.2 (by omega), beq_eq_false_iff_ne.2 (by omega)]; rfl
theorem spec_follow (a : Nat) : Ev (fun k => spec_l8Follow.f k p (a : Int)) (srt (ints (folS (md p) a))) := by
  have hm := K.most
  have loop : ∀ (m i : Nat) (acc : List Int), i + m = p.length → acc.length ≤ 1640 * i → Ev (fun k => spec_l8Follow.l0 k p (a : Int) acc (i : Int)) (srt (acc ++ ints ((List.range' i m).flatMap (adds (md p) a)))) := by
    intro m
    induction m with
    | zero =>
      intro i acc hi hl
      rw [List.range'_zero, show acc ++ ints (List.flatMap (adds (md p) a) []) = acc from List.append_nil _]
      refine Ev.step (f := fun k => (spec_l8Sorted.f k acc).bind fun t350 => some t350) (fun k => ?_) (Ev.bind (spec_sorted acc (by omega)) (Ev.now _))
      conv => lhs; unfold spec_l8Follow.l0
      rw [if_neg (by omega)]
    | succ m ih =>
      intro i acc hi hl
      have hil : i < p.length := by omega
      have hil' : i < (md p).length := by rw [md_len]; exact hil
      have e : rd_T49 p (i : Int) = at_ p i := rfl
      have e0 := nd_md hil
      have hkind : (nd (md p) i).kind = (at_ p i).f0 := by rw [e0]; rfl
      have hoft : (nd (md p) i).oft = oftB (at_ p i) := by rw [e0]; rfl
      have hfl := len_fst K hil
      rw [List.range'_succ, List.flatMap_cons, ints_app, ← List.append_assoc]
      have hal := len_aftr K hil a (nd (md p) i).kids.length 0 (Nat.zero_add _)
      rw [List.drop_zero] at hal
      have hks := kids_small K hil
      have hj2 : ∀ acc2 : List Int, acc2.length ≤ 1640 * i + 40 → Ev (fun k => spec_l8Follow.j2 k p (a : Int) acc2 (i : Int) (at_ p i).f0 (at_ p i).f1 (at_ p i).f2 (at_ p i).f3) (srt ((acc2 ++ ints (if (nd (md p) i).kind = 2 then aftr (md p) a (nd (md p) i).kids else [])) ++ ints ((List.range' (i + 1) m).flatMap (adds (md p) a)))) := by
        intro acc2 hl2
        rw [hkind]
        by_cases k2 : (at_ p i).f0 = 2
        · rw [if_pos k2]
          have h1 := spec_follow_l1 K (a := a) hil (fun acc => srt (acc ++ ints ((List.range' (i + 1) m).flatMap (adds (md p) a)))) (fun acc' hl' => ih (i + 1) acc' (by omega) hl') (nd (md p) i).kids.length 0 acc2 (Nat.zero_add _) (by rw [List.drop_zero]; omega)
          rw [List.drop_zero] at h1
          refine Ev.step (fun k => ?_) h1
          conv => lhs; unfold spec_l8Follow.j2
          rw [if_pos k2]
          rfl
        · rw [if_neg k2, show acc2 ++ ints [] = acc2 from List.append_nil _]
          refine Ev.step (fun k => ?_) (ih (i + 1) acc2 (by omega) (by omega))
          conv => lhs; unfold spec_l8Follow.j2
          rw [if_neg k2, w1n hil (by omega)]
      unfold adds
      rw [ints_app, ← List.append_assoc, hoft, oft_three K hil]
      have hno : Ev (fun k => spec_l8Follow.j1 k p (a : Int) acc (i : Int) false (at_ p i).f0 (at_ p i).f1 (at_ p i).f2 (at_ p i).f3) (srt ((acc ++ ints (if (nd (md p) i).kind = 2 then aftr (md p) a (nd (md p) i).kids else [])) ++ ints ((List.range' (i + 1) m).flatMap (adds (md p) a)))) := by
        refine Ev.step (fun k => ?_) (hj2 acc (by omega))
        conv => lhs; unfold spec_l8Follow.j1
        rw [if_neg (by decide)]
      by_cases c3 : (at_ p i).f3 ≥ 2
      · refine Ev.step (f := fun k => (spec_l8Edge.f k p (i : Int) true).bind fun t355 => ((spec_l8Has.f k t355 (a : Int)).bind fun t358 => (spec_l8Follow.j1 k p (a : Int) acc (i : Int) t358 (at_ p i).f0 (at_ p i).f1 (at_ p i).f2 (at_ p i).f3))) (fun k => ?_) (Ev.bind (e_true K hil) (Ev.bind (spec_has _ a (by have := len_lstS K hil; omega)) ?_))
        · conv => lhs; unfold spec_l8Follow.l0
          rw [if_pos (by omega), if_pos (by omega), e, if_pos c3]
        · by_cases n : a ∈ lstS (md p) i
          · rw [decide_eq_true n, if_pos ⟨decide_eq_true c3, n⟩]
            refine Ev.step (f := fun k => (spec_l8Edge.f k p (i : Int) false).bind fun t359 => (if acc.length + t359.length < 17592186044416 then (spec_l8Follow.j2 k p (a : Int) (acc ++ t359) (i : Int) (at_ p i).f0 (at_ p i).f1 (at_ p i).f2 (at_ p i).f3) else (none))) (fun k => ?_) (Ev.bind (e_false K hil) ?_)
            · conv => lhs; unfold spec_l8Follow.j1
              rw [if_pos rfl]
            · refine Ev.congr (fun k => ?_) (hj2 (acc ++ ints (fst (md p) i)) (by rw [List.length_append, ints_len]; omega))
              rw [if_pos (by rw [ints_len]; omega)]
          · rw [decide_eq_false n, if_neg (fun h => n h.2), show acc ++ ints [] = acc from List.append_nil _]
            exact hno
      · rw [if_neg (fun h => c3 (of_decide_eq_true h.1)), show acc ++ ints [] = acc from List.append_nil _]
        refine Ev.step (fun k => ?_) hno
        conv => lhs; unfold spec_l8Follow.l0
        rw [if_pos (by omega), if_pos (by omega), e, if_neg c3]
  have := loop p.length 0 [] (Nat.zero_add _) (by simp)
  rw [← List.range_eq_range'] at this
  unfold folS
  rw [md_len]
  exact this
theorem spec_pos (a : Int) : spec_l8Pos.f p a = some (decide (0 ≤ a ∧ a < p.length) && posB (at_ p a.toNat)) := by
  have hm := K.most
  have h1 := K.one
  unfold spec_l8Pos.f
  rw [lin_ok, w64 (by omega) (by omega)]
  simp only [Option.bind_some]
  by_cases c : 0 ≤ a ∧ a < (p.length : Int)
  · rw [decide_eq_true (show 0 ≤ a ∧ a ≤ (p.length : Int) - 1 by omega), decide_eq_true c, if_pos rfl, if_pos c.1, if_pos c.2, Bool.true_and]
    have e : rd_T49 p a = at_ p a.toNat := by
      unfold at_
      congr 1
      omega
    rw [e]
    unfold posB
    by_cases k1 : (at_ p a.toNat).f0 = 1
    · rw [if_pos k1, k1]; rfl
    · rw [if_neg k1, beq_eq_false_iff_ne.2 k1]; rfl
  · rw [decide_eq_false (fun h => c (by omega)), decide_eq_false c]
    rfl
end
/-- Once each, and small. -/
theorem ris_len : ∀ (n : Nat) (l : List Int), Ris l → (∀ x ∈ l, 0 ≤ x ∧ x < (n : Int)) → l.length ≤ n := by
  have key : ∀ (l : List Int) (lo hi : Int), Ris l → (∀ x ∈ l, lo ≤ x ∧ x < hi) → lo ≤ hi → (l.length : Int) ≤ hi - lo := by
    intro l
    induction l with
    | nil => intro lo hi _ _ h; simp; omega
    | cons x l ih =>
      intro lo hi hr hb h
      have hx := hb x (by simp)
      unfold Ris at hr
      rw [List.pairwise_cons] at hr
      have := ih (x + 1) hi hr.2 (fun y hy => ⟨by have := hr.1 y hy; omega, (hb y (by simp [hy])).2⟩) (by omega)
      simp only [List.length_cons]
      omega
  intro n l hr hb
  have := key l 0 n hr hb (by omega)
  omega
theorem spec_apart (p : List PM) (hp : p.length ≤ 40) (l : List Int) (hl : l.length ≤ 1048576) (hb : ∀ a ∈ l, 0 ≤ a ∧ a < (p.length : Int)) : Ev (fun k => spec_l8Apart.f k p l) (apartF p l) := by
  have hin : ∀ (i : Nat) (h : i < l.length), rd l (i : Int) = l[i] := fun i h => rdZ l i h
  have loop1 : ∀ (i : Nat) (hi : i < l.length) (R : Bool), Ev (fun k => spec_l8Apart.l0 k p l ((i + 1 : Nat) : Int)) R → ∀ (m j : Nat), j + m = i → Ev (fun k => spec_l8Apart.l1 k p l (i : Int) (j : Int)) (((List.range' j m).all fun j : Nat => !clashB p (rd l (i : Int)) (rd l (j : Int))) && R) := by
    intro i hi R hR m
    induction m with
    | zero =>
      intro j hj
      rw [List.range'_zero, List.all_nil, Bool.true_and]
      refine Ev.step (fun k => ?_) hR
      conv => lhs; unfold spec_l8Apart.l1
      rw [if_neg (by omega), w1n hi (by omega)]
    | succ m ih =>
      intro j hj
      have hjl : j < l.length := by omega
      have h1 := hb _ (List.getElem_mem hi)
      have h2 := hb _ (List.getElem_mem hjl)
      rw [← hin i hi] at h1
      rw [← hin j hjl] at h2
      rw [List.range'_succ, List.all_cons, Bool.and_assoc]
      have hgo := ih (j + 1) (by omega)
      refine Ev.step (f := fun k => if (rd_T49 p (rd l (i : Int))).f0 = 4 then some false else if (rd_T49 p (rd l (j : Int))).f0 = 4 then some false else if (rd_T49 p (rd l (i : Int))).f1.toList = (rd_T49 p (rd l (j : Int))).f1.toList then some false else spec_l8Apart.l1 k p l (i : Int) ((j + 1 : Nat) : Int)) (fun k => ?_) ?_
      · conv => lhs; unfold spec_l8Apart.l1
        rw [if_pos (by omega), if_pos (by omega), if_pos (by omega), if_pos h1.1, if_pos h1.2, if_pos (by omega), if_pos (by omega), if_pos h2.1, if_pos h2.2, w1n hjl (by omega)]
      · rw [show clashB p (rd l (i : Int)) (rd l (j : Int)) = (((rd_T49 p (rd l (i : Int))).f0 == 4) || (((rd_T49 p (rd l (j : Int))).f0 == 4) || decide ((rd_T49 p (rd l (i : Int))).f1.toList = (rd_T49 p (rd l (j : Int))).f1.toList))) from rfl]
        by_cases c1 : (rd_T49 p (rd l (i : Int))).f0 = 4
        · simp only [if_pos c1, beq_iff_eq.2 c1, Bool.true_or, Bool.not_true, Bool.false_and]
          exact Ev.now _
        · by_cases c2 : (rd_T49 p (rd l (j : Int))).f0 = 4
          · simp only [if_neg c1, if_pos c2, beq_iff_eq.2 c2, Bool.true_or, Bool.or_true, Bool.not_true, Bool.false_and]
            exact Ev.now _
          · by_cases c3 : (rd_T49 p (rd l (i : Int))).f1.toList = (rd_T49 p (rd l (j : Int))).f1.toList
            · simp only [if_neg c1, if_neg c2, if_pos c3, decide_eq_true c3, Bool.or_true, Bool.not_true, Bool.false_and]
              exact Ev.now _
            · simp only [if_neg c1, if_neg c2, if_neg c3, decide_eq_false c3, beq_eq_false_iff_ne.2 c1, beq_eq_false_iff_ne.2 c2, Bool.or_false, Bool.not_false, Bool.true_and]
              exact hgo
  have loop0 : ∀ (m i : Nat), i + m = l.length → Ev (fun k => spec_l8Apart.l0 k p l (i : Int)) ((List.range' i m).all fun i : Nat => (List.range i).all fun j : Nat => !clashB p (rd l (i : Int)) (rd l (j : Int))) := by
    intro m
    induction m with
    | zero =>
      intro i hi
      rw [List.range'_zero, List.all_nil]
      refine Ev.step (f := fun _ => some true) (fun k => ?_) (Ev.now _)
      conv => lhs; unfold spec_l8Apart.l0
      rw [if_neg (by omega)]
    | succ m ih =>
      intro i hi
      rw [List.range'_succ, List.all_cons]
      have h := loop1 i (by omega) _ (ih (i + 1) (by omega)) i 0 (Nat.zero_add _)
      rw [← List.range_eq_range'] at h
      refine Ev.step (fun k => ?_) h
      conv => lhs; unfold spec_l8Apart.l0
      rw [if_pos (by omega)]
      rfl
  have := loop0 l.length 0 (Nat.zero_add _)
  rw [← List.range_eq_range'] at this
  exact this
section
variable {p : List PM} (K : OkP p)
include K
theorem next_first {N : NetV} (HN : NetI p p.length N) : nextF N p.length (-1) = srt (ints (fst (md p) (p.length - 1))) := by
  have ho := K.one
  have hr : p.length - 1 < p.length := by omega
  have hnd := edge_nodup K.tr fst (.inl rfl) (p.length - 1) (by rw [md_len]; exact hr)
  have hrd : rdL N.fst ((p.length : Int) - 1) = ints (fst (md p) (p.length - 1)) := by
    rw [show (p.length : Int) - 1 = ((p.length - 1 : Nat) : Int) by omega, HN.fst]
    exact rd_range hr
  unfold nextF
  rw [if_pos (by decide), hrd]
  exact isort_srt (ints_nodup hnd) (fun _ => Iff.rfl)
theorem next_fol {N : NetV} (HN : NetI p p.length N) {n : Nat} (hn : n < p.length) : nextF N p.length (n : Int) = srt (ints (folS (md p) n)) := by
  unfold nextF
  rw [if_neg (by omega)]
  refine srt_congr (fun x => ?_)
  rw [HN.fol.mem n hn x, mem_ints]
  constructor
  · rintro ⟨b, e, hb⟩
    refine ⟨b, e, (mem_folS K.tr.ahead).2 ?_⟩
    obtain ⟨j, hj, hb⟩ := hb
    exact ⟨j, by rw [md_len]; exact hj, hb⟩
  · rintro ⟨b, e, hb⟩
    obtain ⟨j, hj, hb⟩ := (mem_folS K.tr.ahead).1 hb
    exact ⟨b, e, j, by rw [md_len] at hj; exact hj, hb⟩
theorem fst_in : ∀ a ∈ srt (ints (fst (md p) (p.length - 1))), 0 ≤ a ∧ a < (p.length : Int) := by
  intro x hx
  have ho := K.one
  obtain ⟨b, e, hb⟩ := mem_ints.1 (mem_srt.1 hx)
  have := edge_in K.tr fst (.inl rfl) (p.length - 1) (by rw [md_len]; omega) b hb
  omega
theorem fol_in (n : Nat) : ∀ a ∈ srt (ints (folS (md p) n)), 0 ≤ a ∧ a < (p.length : Int) := by
  intro x hx
  obtain ⟨b, e, hb⟩ := mem_ints.1 (mem_srt.1 hx)
  obtain ⟨j, hj, hb⟩ := (mem_folS K.tr.ahead).1 hb
  rw [md_len] at hj
  have := (led_le K hj hb).2
  omega
theorem srt_small {l : List Int} (h : ∀ a ∈ srt l, 0 ≤ a ∧ a < (p.length : Int)) : (srt l).length ≤ 40 := Nat.le_trans (ris_len p.length _ (up_srt _) h) K.most
def clearW (p : List PM) : Bool := apartF p (srt (ints (fst (md p) (p.length - 1)))) && ((List.range p.length).all fun i : Nat => !(posB (at_ p i) && !apartF p (srt (ints (folS (md p) i)))))
theorem clear_loop : ∀ (m i : Nat), i + m = p.length → Ev (fun k => spec_Clear.l0 k p (i : Int)) ((List.range' i m).all fun i : Nat => !(posB (at_ p i) && !apartF p (srt (ints (folS (md p) i))))) := by
  intro m
  induction m with
  | zero =>
    intro i hi
    rw [List.range'_zero, List.all_nil]
    refine Ev.step (f := fun _ => some true) (fun k => ?_) (Ev.now _)
    conv => lhs; unfold spec_Clear.l0
    rw [if_neg (by omega)]
  | succ m ih =>
    intro i hi
    have hil : i < p.length := by omega
    have hm := K.most
    have hsp := spec_pos K (i : Int)
    rw [decide_eq_true (show 0 ≤ (i : Int) ∧ (i : Int) < (p.length : Int) by omega), Bool.true_and, Int.toNat_natCast] at hsp
    rw [List.range'_succ, List.all_cons]
    refine Ev.step (f := fun k => if posB (at_ p i) = true then ((spec_l8Follow.f k p (i : Int)).bind fun t433 => ((spec_l8Apart.f k p t433).bind fun t436 => (if t436 = true then (spec_Clear.l0 k p ((i + 1 : Nat) : Int)) else (some false)))) else (spec_Clear.l0 k p ((i + 1 : Nat) : Int))) (fun k => ?_) ?_
    · conv => lhs; unfold spec_Clear.l0
      rw [if_pos (by omega), hsp, w1n hil (by omega)]
      rfl
    · cases hp : posB (at_ p i) with
      | false =>
        simp only [Bool.false_eq_true, if_false, Bool.false_and, Bool.not_false, Bool.true_and]
        exact ih (i + 1) (by omega)
      | true =>
        simp only [if_true, Bool.true_and, Bool.not_not]
        refine Ev.bind (spec_follow K i) (Ev.bind (spec_apart p hm _ (by have := srt_small K (fol_in K i); omega) (fol_in K i)) ?_)
        cases apartF p (srt (ints (folS (md p) i))) with
        | false =>
          simp only [Bool.false_eq_true, if_false, Bool.false_and]
          exact Ev.now _
        | true =>
          simp only [if_true, Bool.true_and]
          exact ih (i + 1) (by omega)
end
/-- What both Clear's answer. -/
def clrV (p : List PM) : Bool := okV p && clearW p
theorem spec_clear (p : List PM) (hs : smallM p) : Ev (fun k => spec_Clear.f k p) (clrV p) := by
  have hno : Ev (fun k => spec_Clear.j0 k p true) false := by
    refine Ev.step (f := fun _ => some false) (fun k => ?_) (Ev.now _)
    show (if true = true then some false else spec_Clear.l0 k p 0) = some false
    rw [if_pos rfl]
  have h1 := spec_ok p hs
  unfold clrV
  cases h : okV p with
  | false =>
    rw [h] at h1
    rw [Bool.false_and]
    refine Ev.bind h1 ?_
    simp only [Bool.false_eq_true, if_false]
    exact hno
  | true =>
    rw [h] at h1
    rw [Bool.true_and]
    have K := okP h
    have hm := K.most
    have ho := K.one
    refine Ev.bind h1 ?_
    simp only [if_true]
    have hw : wrap64 ((p.length : Int) - 1) = ((p.length - 1 : Nat) : Int) := by rw [w64] <;> omega
    have hl := len_fst K (show p.length - 1 < p.length by omega)
    have hf : Ev (fun k => spec_FirstOf.f k p) (srt (ints (fst (md p) (p.length - 1)))) := by
      have h1' := spec_ok p hs
      rw [h] at h1'
      refine Ev.bind h1' ?_
      simp only [if_true]
      rw [hw]
      exact Ev.bind (e_false K (by omega)) (Ev.bind (spec_sorted _ (by rw [ints_len]; omega)) (Ev.now _))
    refine Ev.bind hf (Ev.bind (spec_apart p hm _ (by have := srt_small K (fst_in K); omega) (fst_in K)) ?_)
    unfold clearW
    cases apartF p (srt (ints (fst (md p) (p.length - 1)))) with
    | false =>
      rw [Bool.false_and]
      exact hno
    | true =>
      rw [Bool.true_and]
      have hlp := clear_loop K p.length 0 (Nat.zero_add _)
      rw [← List.range_eq_range'] at hlp
      refine Ev.step (fun k => ?_) hlp
      show (if (!true) = true then some false else spec_Clear.l0 k p 0) = _
      rw [if_neg (by decide)]
      rfl
theorem impl_clear (p : List PM) (hs : smallM p) : Ev (fun k => impl_Clear.f k p) (clrV p) := by
  have h2 := impl_ok p hs
  unfold clrV
  cases h : okV p with
  | false =>
    rw [h] at h2
    rw [Bool.false_and]
    exact Ev.bind h2 (Ev.now _)
  | true =>
    rw [h] at h2
    rw [Bool.true_and]
    have K := okP h
    have hm := K.most
    have ho := K.one
    obtain ⟨N, hN, HN⟩ := net_tells h
    refine Ev.bind h2 ?_
    simp only [if_true]
    rw [hN]
    simp only [Option.bind_some]
    rw [if_pos ⟨by omega, by rw [HN.fst]; simp, fun l hl => by
      rw [HN.fst] at hl
      obtain ⟨j, hj, rfl⟩ := List.mem_map.1 hl
      have := len_fst K (List.mem_range.1 hj)
      rw [ints_len]
      unfold LIMK
      omega, by rw [HN.fol.len], fun i hi => by
      rw [next_fol K HN hi]
      exact fol_in K i, by
      rw [next_first K HN]
      exact fst_in K⟩]
    have : clearV p N = clearW p := by
      unfold clearV clearW
      rw [next_first K HN, Bool.and_comm]
      congr 1
      apply Bool.eq_iff_iff.2
      rw [List.all_eq_true, List.all_eq_true]
      constructor
      · intro h i hi
        have := h i hi
        rw [next_fol K HN (List.mem_range.1 hi)] at this
        exact this
      · intro h i hi
        have := h i hi
        rw [next_fol K HN (List.mem_range.1 hi)]
        exact this
    rw [this]
    exact Ev.now _
end Go.Proofs.Ytkflnbmmjnjgkaa.Pure

namespace Go.Proofs.Ytkflnbmmjnjgkaa.O
open Go.RowKit Go.Proofs.Ytkflnbmmjnjgkaa.L Go.Proofs.YtkflnbmmjnjgkaaW.PrintWords Go.Proofs.YtkflnbmmjnjgkaaW.PrintLast Go.Proofs.YtkflnbmmjnjgkaaW.PrintMore
set_option linter.unusedVariables false
set_option linter.unusedSimpArgs false

/-- Whatever reads as a datum of type t is a d, and is ok. -/
def Opens {H α : Type} (enc : TypeId × Value → H) (P : Program) (w : World) (base : Nat) (sp : Nat → Bool) (held : Bool) (t : TypeId) (d : Kd α) (ok : α → Prop) : Prop :=
  ∀ n cs x, DataW.trod enc P w base sp held n t cs = some x → ∃ a, d.K w a cs ∧ ok a
section
variable {H : Type} {enc : TypeId × Value → H} {P : Program} {w : World} {base : Nat} {sp : Nat → Bool} {held : Bool} {t : TypeId}
theorem opens_string (ht : P.underlying t = some .string) : Opens enc P w base sp held t Kd.string (fun s => s.size ≤ maxLen) := by
  intro n cs x h
  obtain ⟨s, rfl, _, hs⟩ := DataW.trod_string ht h
  exact ⟨s, rfl, hs⟩
theorem opens_int {k : IntKind} (ht : P.underlying t = some (.int k)) : Opens enc P w base sp held t (Kd.int k) (fun n => (Lit.int k n).wf = true) := by
  intro n cs x h
  obtain ⟨s, rfl, _, hs⟩ := DataW.trod_int ht h
  exact ⟨s, rfl, hs⟩
theorem rows_of {α : Type} {d : Kd α} {ok : α → Prop} {a : Addr} (len : Nat) (h : ∀ i, i < len → ∃ cs x, w.cells? base (a.add (i * d.sz)) d.sz = some cs ∧ d.K w x cs ∧ ok x) :
    ∃ xs : List α, xs.length = len ∧ ∀ i x, xs[i]? = some x → ok x ∧ ∃ cs, w.cells? base (a.add (i * d.sz)) d.sz = some cs ∧ d.K w x cs := by
  induction len with
  | zero => exact ⟨[], rfl, fun i x hx => by simp at hx⟩
  | succ m ih =>
    obtain ⟨xs, hl, hx⟩ := ih fun i hi => h i (by omega)
    obtain ⟨cs, x, hc, hk, ho⟩ := h m (by omega)
    refine ⟨xs ++ [x], by simp [hl], fun i y hy => ?_⟩
    by_cases hi : i < m
    · rw [List.getElem?_append_left (by omega)] at hy
      exact hx i y hy
    · have hlt := (List.getElem?_eq_some_iff.1 hy).1
      simp only [List.length_append, List.length_singleton, hl] at hlt
      have : i = m := by omega
      subst this
      rw [List.getElem?_append_right (by omega), hl] at hy
      simp at hy
      subst hy
      exact ⟨ho, cs, hc, hk⟩
theorem opens_slice {α : Type} {e : TypeId} {d : Kd α} {ok : α → Prop} (e' : Nat) (ht : P.underlying t = some (.slice e)) (hc : P.cellsOf e = d.sz)
    (ho : Opens enc P w base sp held e d ok) : Opens enc P w base sp held t (Kd.slice e' d) (fun xs => xs.length ≤ maxLen ∧ ∀ x ∈ xs, ok x) := by
  intro n cs x h
  rcases DataW.trod_slice ht h with ⟨rfl, _⟩ | ⟨a, len, cap, elems, rest, m, _, rfl, _, hb, hl, hm, hlen, hel, _, _⟩
  · exact ⟨[], ⟨none, 0, rfl, by simp, Kd.C_nil d w⟩, by simp [maxLen], fun x hx => by cases hx⟩
  · rw [hc] at hel
    obtain ⟨xs, hxl, hx⟩ := rows_of (w := w) (base := base) (d := d) (ok := ok) (a := a) len (fun i hi => by
      have h1 := hel i hi
      rw [List.getElem?_eq_getElem (by omega), Option.bind_eq_some_iff] at h1
      obtain ⟨cs, hcs, htr⟩ := h1
      obtain ⟨y, hk, hok⟩ := ho m cs _ htr
      exact ⟨cs, y, hcs, hk, hok⟩)
    refine ⟨xs, ⟨some a, cap, by rw [hxl], by omega, ?_⟩, by omega, fun x hx' => ?_⟩
    · refine ⟨rfl, by unfold maxLen at hm; omega, fun _ => ⟨a, rfl, fun j p hp => ?_⟩⟩
      obtain ⟨_, cs, hcs, hk⟩ := hx j p hp
      obtain ⟨_, hcl, hcell⟩ := World.cells?_some hcs
      refine ⟨cs, hcl, hk, fun i u hu => ?_⟩
      have hlt := (List.getElem?_eq_some_iff.1 hu).1
      have := hcell i (by omega)
      rw [hu] at this
      rw [← this]
      have e : a.add (j * d.sz + i) = (a.add (j * d.sz)).add i := (Addr.add_add a _ _).symm
      rw [e]
    · obtain ⟨i, hi⟩ := List.getElem?_of_mem hx'
      exact (hx i x hi).1
/-- A struct's fields, one cell each. -/
theorem field_cell {fs : Array Field} {cs : List Value} {x : DataW H × List MemPlace} {fuel : Nat} (ht : P.underlying t = some (.struct fs)) (h : DataW.trod enc P w base sp held fuel t cs = some x)
    (i : Nat) (f : Field) (hf : fs[i]? = some f) (hof : f.offset = i) (hcf : P.cellsOf f.type = 1) : ∃ n y, DataW.trod enc P w base sp held n f.type ((cs.drop i).take 1) = some y := by
  obtain ⟨xs, n, _, _, _, hxl, hall⟩ := DataW.trod_struct ht h
  have := hall i f hf
  have hlt := (Array.getElem?_eq_some_iff.1 hf).1
  rw [hof, hcf, List.getElem?_eq_getElem (by omega)] at this
  exact ⟨n, _, this⟩
end
/-- What a model's node that came in reads as. -/
def okPn (x : S46) : Prop := x.f1.size ≤ maxLen ∧ x.f2.length ≤ maxLen
theorem opens_pnode {H : Type} {enc : TypeId × Value → H} {w : World} {base : Nat} {sp : Nat → Bool} {held : Bool} :
    Opens enc Try.prog w base sp held 46 k46 okPn := by
  intro n cs x h
  have hl : cs.length = 4 := by
    obtain ⟨_, _, _, _, hcl, _, _⟩ := DataW.trod_struct Try.underlying46 h
    exact hcl.trans (by kernel_rfl)
  obtain ⟨n0, y0, h0⟩ := field_cell Try.underlying46 h 0 _ rfl rfl (by kernel_rfl)
  obtain ⟨n1, y1, h1⟩ := field_cell Try.underlying46 h 1 _ rfl rfl (by kernel_rfl)
  obtain ⟨n2, y2, h2⟩ := field_cell Try.underlying46 h 2 _ rfl rfl (by kernel_rfl)
  obtain ⟨n3, y3, h3⟩ := field_cell Try.underlying46 h 3 _ rfl rfl (by kernel_rfl)
  clear h
  obtain ⟨s0, e0, o0⟩ := opens_int (enc := enc) (base := base) (sp := sp) (held := held) (w := w) (k := .i64) Try.underlying2 _ _ _ h0
  obtain ⟨s1, e1, o1⟩ := opens_string (enc := enc) (base := base) (sp := sp) (held := held) (w := w) Try.underlying9 _ _ _ h1
  obtain ⟨s2, ⟨A2, c2, e2, l2, g2⟩, o2⟩ := opens_slice (enc := enc) (base := base) (sp := sp) (held := held) (w := w) 2 Try.underlying24 (by kernel_rfl) (opens_int (k := .i64) Try.underlying2) _ _ _ h2
  obtain ⟨s3, e3, o3⟩ := opens_int (enc := enc) (base := base) (sp := sp) (held := held) (w := w) (k := .i64) Try.underlying2 _ _ _ h3
  match cs, hl with
  | [c0, c1, c2', c3], _ =>
    obtain rfl : c0 = Value.int .i64 s0 := (List.cons.inj (show [c0] = [Value.int .i64 s0] from e0)).1
    obtain rfl : c1 = Value.string s1 := (List.cons.inj (show [c1] = [Value.string s1] from e1)).1
    obtain rfl : c2' = Value.slice A2 s2.length c2 := (List.cons.inj (show [c2'] = [Value.slice A2 s2.length c2] from e2)).1
    obtain rfl : c3 = Value.int .i64 s3 := (List.cons.inj (show [c3] = [Value.int .i64 s3] from e3)).1
    exact ⟨⟨s0, s1, s2, s3⟩, k46_mk w ⟨s0, s1, s2, s3⟩ l2 g2, o1, o2.1⟩
end Go.Proofs.Ytkflnbmmjnjgkaa.O

namespace Go.Proofs.Ytkflnbmmjnjgkaa.L
open Go.RowKit Go.Proofs.YtkflnbmmjnjgkaaW.PrintWords Go.Proofs.YtkflnbmmjnjgkaaW.PrintLast Go.Proofs.YtkflnbmmjnjgkaaW.PrintMore
set_option linter.unusedVariables false
set_option linter.unusedSimpArgs false

abbrev SPn : Type := S49
/-- The row in the midst of a round: node i's kids, and what stands behind it, are as they were. -/
structure Mid (W : World) (base g n cap : Nat) (ok : Nat → Prop) (i : Nat) (a : List Int) (d cur : List SPn) : Prop where
  s : Kd.S k49 49 W base ok (.slice (some ⟨g, 0, none⟩) n cap) cur
  len : cur.length = n
  at_ : ∀ h : i < cur.length, cur[i].f2 = a
  rest : cur.drop (i + 1) = d
theorem Mid.below {W w1 : World} {base g n cap i : Nat} {ok : Nat → Prop} {a : List Int} {d cur : List SPn} (h : Mid W base g n cap ok i a d cur) (hb : Below W.heap.size W w1) : Mid w1 base g n cap ok i a d cur := ⟨Kd.S_below h.s hb, h.len, h.at_, h.rest⟩
end Go.Proofs.Ytkflnbmmjnjgkaa.L

namespace Go.Proofs.Ytkflnbmmjnjgkaa.Pure
open Go.RowKit Go.Proofs.Ytkflnbmmjnjgkaa.L Go.Proofs.Ytkflnbmmjnjgkaa.O Go.Proofs.YtkflnbmmjnjgkaaW.PrintWords Go.Proofs.YtkflnbmmjnjgkaaW.PrintLast Go.Proofs.YtkflnbmmjnjgkaaW.PrintMore
set_option linter.unusedVariables false
set_option linter.unusedSimpArgs false

abbrev LPn : Type := S46
theorem rdLP (l : List LPn) (i : Nat) (h : i < l.length) : rd_T46 l (i : Int) = l[i] := by
  unfold rd_T46
  simp [h]
theorem rdPn (l : List PM) (i : Nat) (h : i < l.length) : rd_T49 l (i : Int) = l[i] := at_lt h
theorem wsub {c : Int} {m : Nat} (h0 : 0 ≤ c) (h1 : c ≤ 1048576) (hm : m ≤ 9223372036854775807) : wrap64 (c - (m : Int)) = c - m := by rw [w64] <;> omega
theorem mxLen : maxLen = 9223372036854775807 := by decide
def convP (x : LPn) : PM := ⟨x.f0, x.f1, x.f2, x.f3⟩
def smallP (x : PM) : Prop := x.f1.data.toList.length ≤ 1048576 ∧ x.f2.length ≤ 1048576
theorem set_mid {α : Type} (u : List α) (z v : α) (r : List α) : (u ++ z :: r).set u.length v = u ++ v :: r := by
  induction u with
  | nil => rfl
  | cons a u ih => simp [ih]
theorem set_copy {α β : Type} (f : α → β) (l : List α) (z : β) (i m : Nat) (h : i < l.length) : ((l.take i).map f ++ List.replicate (m + 1) z).set i (f l[i]) = (l.take (i + 1)).map f ++ List.replicate m z := by
  have hl : ((l.take i).map f).length = i := by simp; omega
  have := set_mid ((l.take i).map f) z (f l[i]) (List.replicate m z)
  rw [hl] at this
  rw [List.replicate_succ, this]
  rw [List.take_succ_eq_append_getElem h, List.map_append]
  simp
/-! #### sizes -/
theorem szZ (l : List Int) (hl : l.length ≤ 9223372036854775807) (c : Int) (h0 : 0 ≤ c) (h1 : c ≤ 1048576) : ∃ v, laws_szInt64S.f l c = some v ∧ (v < 0 ∨ (0 ≤ v ∧ v ≤ c ∧ l.length ≤ 1048576)) := by
  have hw := wsub h0 h1 hl
  unfold laws_szInt64S.f
  rw [hw]
  by_cases c0 : c - (l.length : Int) < 0
  · exact ⟨-1, by rw [if_pos c0], .inl (by decide)⟩
  · exact ⟨c - (l.length : Int), by rw [if_neg c0], .inr ⟨by omega, by omega, by omega⟩⟩
theorem szPn (x : LPn) (ok : okPn x) (c : Int) (h0 : 0 ≤ c) (h1 : c ≤ 1048576) :
    ∃ v, laws_szPNode.f x.f0 x.f1 x.f2 x.f3 c = some v ∧ (v < 0 ∨ (0 ≤ v ∧ v ≤ c ∧ smallP (convP x))) := by
  obtain ⟨o1, o2⟩ := ok
  rw [mxLen] at o1 o2
  have hw := wsub h0 h1 o1
  unfold laws_szPNode.f
  rw [hw]
  by_cases c0 : c - (x.f1.size : Int) < 0
  · exact ⟨-1, by rw [if_pos c0], .inl (by decide)⟩
  · obtain ⟨v, hv, hr⟩ := szZ x.f2 o2 (c - (x.f1.size : Int)) (by omega) (by omega)
    rw [if_neg c0, hv]
    simp only [Option.bind_some]
    rcases hr with h | ⟨a, b, d⟩
    · exact ⟨-1, by rw [if_pos h], .inl (by decide)⟩
    · exact ⟨v, by rw [if_neg (by omega)], .inr ⟨a, by omega, by show x.f1.data.toList.length ≤ _; rw [← sz]; omega, d⟩⟩
theorem szPS_l0 (l : List LPn) (hl : l.length ≤ 9223372036854775807) (hs : ∀ s ∈ l, okPn s) : ∀ (n i : Nat) (c : Int), i + n = l.length → 0 ≤ c → c ≤ 1048576 →
    ∃ v, Ev (fun k => laws_szPNodeS.l0 k l c (i : Int)) v ∧ (v < 0 ∨ (0 ≤ v ∧ v ≤ c ∧ ∀ s ∈ l.drop i, smallP (convP s))) := by
  intro n
  induction n with
  | zero =>
    intro i c hi h0 h1
    refine ⟨c, Ev.step (f := fun _ => some c) (fun k => ?_) (Ev.now _), .inr ⟨h0, Int.le_refl _, ?_⟩⟩
    · unfold laws_szPNodeS.l0
      rw [if_neg (by omega)]
    · rw [List.drop_of_length_le (by omega)]; intro s hs; cases hs
  | succ n ih =>
    intro i c hi h0 h1
    have hlt : i < l.length := by omega
    obtain ⟨v, hv, hr⟩ := szPn l[i] (hs _ (List.getElem_mem hlt)) c h0 h1
    have hf : ∀ k, laws_szPNodeS.l0 (k + 1) l c (i : Int) = if v < 0 then (some (-1)) else (laws_szPNodeS.l0 k l v ((i + 1 : Nat) : Int)) := by
      intro k
      conv => lhs; unfold laws_szPNodeS.l0
      rw [if_pos (by omega), if_pos (by omega), rdLP l i hlt, w1n hlt hl, hv, Option.bind_some]
    rcases hr with h | ⟨a, b, d⟩
    · refine ⟨-1, Ev.step hf ?_, .inl (by decide)⟩
      simp only [if_pos h]
      exact Ev.now _
    · obtain ⟨v2, hv2, hr2⟩ := ih (i + 1) v (by omega) a (by omega)
      refine ⟨v2, Ev.step hf ?_, ?_⟩
      · simp only [if_neg (show ¬ v < 0 by omega)]
        exact hv2
      · rcases hr2 with h | ⟨a2, b2, d2⟩
        · exact .inl h
        · refine .inr ⟨a2, by omega, fun s hs => ?_⟩
          rw [List.drop_eq_getElem_cons hlt] at hs
          rcases List.mem_cons.1 hs with e | e
          · subst e; exact d
          · exact d2 s e
theorem szPS (l : List LPn) (hl : l.length ≤ 9223372036854775807) (hs : ∀ s ∈ l, okPn s) :
    ∃ v, Ev (fun k => laws_szPNodeS.f k l 1048576) v ∧ (v < 0 ∨ (0 ≤ v ∧ v ≤ 1048576 ∧ l.length ≤ 1048576 ∧ ∀ s ∈ l, smallP (convP s))) := by
  have hw := wsub (c := 1048576) (by decide) (by decide) hl
  by_cases c0 : (1048576 : Int) - (l.length : Int) < 0
  · refine ⟨-1, Ev.congr (f := fun _ => some (-1)) (fun k => ?_) (Ev.now _), .inl (by decide)⟩
    unfold laws_szPNodeS.f
    rw [hw, if_pos c0]
  · obtain ⟨v, hv, hr⟩ := szPS_l0 l hl hs l.length 0 (1048576 - (l.length : Int)) (by omega) (by omega) (by omega)
    refine ⟨v, Ev.congr (f := fun k => laws_szPNodeS.l0 k l (1048576 - (l.length : Int)) ((0 : Nat) : Int)) (fun k => ?_) hv, ?_⟩
    · unfold laws_szPNodeS.f
      rw [hw, if_neg c0]
      rfl
    · rcases hr with h | ⟨a, b, d⟩
      · exact .inl h
      · exact .inr ⟨a, by omega, by omega, by simpa using d⟩
/-! #### copies -/
theorem toZ_l0 (l : List Int) (hl : l.length ≤ 9223372036854775807) : ∀ (n i : Nat), i + n = l.length →
    Ev (fun k => laws_toInt64S.l0 k l ((l.take i).map id ++ List.replicate n 0) (i : Int)) (l.map id) := by
  intro n
  induction n with
  | zero =>
    intro i hi
    have e : (l.take i).map id ++ List.replicate 0 (0 : Int) = l.map id := by rw [List.take_of_length_le (by omega)]; simp
    rw [e]
    refine Ev.step (f := fun _ => some (l.map id)) (fun k => ?_) (Ev.now _)
    unfold laws_toInt64S.l0
    rw [if_neg (by omega)]
  | succ n ih =>
    intro i hi
    have hlt : i < l.length := by omega
    refine Ev.step (f := fun k => laws_toInt64S.l0 k l ((l.take (i + 1)).map id ++ List.replicate n 0) ((i + 1 : Nat) : Int)) (fun k => ?_) (ih (i + 1) (by omega))
    conv => lhs; unfold laws_toInt64S.l0
    have hlen : ((l.take i).map id ++ List.replicate (n + 1) (0 : Int)).length = l.length := by simp; omega
    rw [if_pos (by omega), if_pos (by omega), hlen, if_pos (by omega), rdZ l i hlt, w1n hlt hl, Int.toNat_natCast]
    have := set_copy (id : Int → Int) l 0 i n hlt
    rw [show id l[i] = l[i] from rfl] at this
    rw [this]
theorem toZ (l : List Int) (hl : l.length ≤ 1048576) : Ev (fun k => laws_toInt64S.f k l) l := by
  have h := toZ_l0 l (by omega) l.length 0 (by omega)
  rw [show l.map id = l from List.map_id l] at h
  refine Ev.congr (fun k => ?_) h
  unfold laws_toInt64S.f
  rw [if_pos (by omega), Int.toNat_natCast, if_pos (by omega)]
  simp
theorem toP_l0 (l : List LPn) (hl : l.length ≤ 1048576) (hs : ∀ s ∈ l, smallP (convP s)) : ∀ (n i : Nat), i + n = l.length →
    Ev (fun k => laws_toPNodeS.l0 k l ((l.take i).map convP ++ List.replicate n z49) (i : Int)) (l.map convP) := by
  intro n
  induction n with
  | zero =>
    intro i hi
    have e : (l.take i).map convP ++ List.replicate 0 z49 = l.map convP := by rw [List.take_of_length_le (by omega)]; simp
    rw [e]
    refine Ev.step (f := fun _ => some (l.map convP)) (fun k => ?_) (Ev.now _)
    unfold laws_toPNodeS.l0
    rw [if_neg (by omega)]
  | succ n ih =>
    intro i hi
    have hlt : i < l.length := by omega
    have hsm := hs _ (List.getElem_mem hlt)
    have ht := toZ l[i].f2 hsm.2
    have hlen : ((l.take i).map convP ++ List.replicate (n + 1) z49).length = l.length := by simp; omega
    have hset := set_copy convP l z49 i n hlt
    refine Ev.step (f := fun k => (laws_toInt64S.f k l[i].f2).bind fun t => laws_toPNodeS.l0 k l (((l.take i).map convP ++ List.replicate (n + 1) z49).set i (⟨l[i].f0, l[i].f1, t, l[i].f3⟩ : PM)) ((i + 1 : Nat) : Int)) (fun k => ?_) (Ev.bind ht ?_)
    · conv => lhs; unfold laws_toPNodeS.l0
      rw [if_pos (by omega), if_pos (by omega), rdLP l i hlt]
      unfold laws_toPNode.f
      cases laws_toInt64S.f k l[i].f2 with
      | none => rfl
      | some t =>
        simp only [Option.bind_some]
        rw [hlen, if_pos (by omega), w1n hlt (by omega), Int.toNat_natCast]
    · rw [show (⟨l[i].f0, l[i].f1, l[i].f2, l[i].f3⟩ : PM) = convP l[i] from rfl, hset]
      exact ih (i + 1) (by omega)
theorem toPS (l : List LPn) (hl : l.length ≤ 1048576) (hs : ∀ s ∈ l, smallP (convP s)) : Ev (fun k => laws_toPNodeS.f k l) (l.map convP) := by
  refine Ev.congr (f := fun k => laws_toPNodeS.l0 k l ((l.take 0).map convP ++ List.replicate l.length z49) ((0 : Nat) : Int)) (fun k => ?_) (toP_l0 l hl hs l.length 0 (by omega))
  unfold laws_toPNodeS.f
  rw [if_pos (by omega), Int.toNat_natCast, if_pos (by omega)]
  simp
/-! #### equal to themselves -/
theorem eqZ_l0 (l : List Int) (hl : l.length ≤ 1048576) : ∀ (n i : Nat), i + n = l.length → Ev (fun k => laws_eqInt64S.l0 k l l (i : Int)) true := by
  intro n
  induction n with
  | zero =>
    intro i hi
    refine Ev.step (f := fun _ => some true) (fun k => ?_) (Ev.now _)
    conv => lhs; unfold laws_eqInt64S.l0
    rw [if_neg (by omega)]
  | succ n ih =>
    intro i hi
    have hlt : i < l.length := by omega
    refine Ev.step (fun k => ?_) (ih (i + 1) (by omega))
    conv => lhs; unfold laws_eqInt64S.l0
    rw [if_pos (by omega), if_pos (by omega), if_pos (by omega), if_pos rfl, w1n hlt (by omega)]
theorem eqZ (l : List Int) (hl : l.length ≤ 1048576) : Ev (fun k => laws_eqInt64S.f k l l) true := by
  refine Ev.congr (fun k => ?_) (eqZ_l0 l hl l.length 0 (by omega))
  unfold laws_eqInt64S.f
  rw [if_pos rfl]
  rfl
theorem eqP_l0 (l : List PM) (hl : l.length ≤ 1048576) (hs : ∀ s ∈ l, smallP s) : ∀ (n i : Nat), i + n = l.length → Ev (fun k => laws_eqPNodeS.l0 k l l (i : Int)) true := by
  intro n
  induction n with
  | zero =>
    intro i hi
    refine Ev.step (f := fun _ => some true) (fun k => ?_) (Ev.now _)
    conv => lhs; unfold laws_eqPNodeS.l0
    rw [if_neg (by omega)]
  | succ n ih =>
    intro i hi
    have hlt : i < l.length := by omega
    have ha := eqZ l[i].f2 (hs _ (List.getElem_mem hlt)).2
    refine Ev.step (f := fun k => (laws_eqInt64S.f k l[i].f2 l[i].f2).bind fun t => (if t = true then (laws_eqPNodeS.l0 k l l ((i + 1 : Nat) : Int)) else (some false))) (fun k => ?_) (Ev.bind ha ?_)
    · conv => lhs; unfold laws_eqPNodeS.l0
      rw [if_pos (by omega), if_pos (by omega), if_pos (by omega), rdPn l i hlt]
      unfold laws_eqPNode.f
      rw [if_pos rfl, if_pos rfl, w1n hlt (by omega)]
      cases laws_eqInt64S.f k l[i].f2 l[i].f2 with
      | none => rfl
      | some t => cases t <;> simp
    · simp only [if_true]
      exact ih (i + 1) (by omega)
theorem eqPS (l : List PM) (hl : l.length ≤ 1048576) (hs : ∀ s ∈ l, smallP s) : Ev (fun k => laws_eqPNodeS.f k l l) true := by
  refine Ev.congr (fun k => ?_) (eqP_l0 l hl hs l.length 0 (by omega))
  unfold laws_eqPNodeS.f
  rw [if_pos rfl]
  rfl
/-! #### marks -/
/-! numbers -/
end Go.Proofs.Ytkflnbmmjnjgkaa.Pure

namespace Go.Proofs.Ytkflnbmmjnjgkaa.L
open Go.RowKit Go.Proofs.Ytkflnbmmjnjgkaa.O Go.Proofs.YtkflnbmmjnjgkaaW.PrintWords Go.Proofs.YtkflnbmmjnjgkaaW.PrintLast Go.Proofs.YtkflnbmmjnjgkaaW.PrintMore
set_option linter.unusedVariables false
def laws_FnExactClear.Pure : Prop := ∀ (l : List S46), l.length ≤ 9223372036854775807 → (∀ x ∈ l, okPn x) → ∃ k, laws_FnExactClear.f k l = some true
theorem laws_FnExactClear.walk (P : laws_FnExactClear.Pure) (A0 : Option Addr) (c0 : Nat) (l : List S46) (w : World) (hr : Kd.C k46 w A0 l.length l) (hc : l.length ≤ c0) (hl : l.length ≤ 9223372036854775807) (ok : ∀ x ∈ l, okPn x) :
    Calls Try.prog 6 #[.slice A0 l.length c0] w fun e w' => e = .returned (.bool true) ∧ Below w.heap.size w w' := by
  obtain ⟨k, h⟩ := P l hl ok
  refine (laws_FnExactClear.calls k A0 c0 l true w hr hc h).mono ?_
  rintro e w' ⟨rfl, hd⟩
  exact ⟨rfl, hd⟩
end Go.Proofs.Ytkflnbmmjnjgkaa.L

namespace Go.Proofs.Ytkflnbmmjnjgkaa.Pure
open Go.RowKit Go.Proofs.Ytkflnbmmjnjgkaa.L Go.Proofs.Ytkflnbmmjnjgkaa.O Go.Proofs.YtkflnbmmjnjgkaaW.PrintWords Go.Proofs.YtkflnbmmjnjgkaaW.PrintLast Go.Proofs.YtkflnbmmjnjgkaaW.PrintMore
set_option linter.unusedVariables false
set_option linter.unusedSimpArgs false

theorem FnExactClear : laws_FnExactClear.Pure := by
  intro l hl ok
  obtain ⟨v, hv, hr⟩ := szPS l hl ok
  suffices this : Ev (fun k => laws_FnExactClear.f k l) true from this.rounds
  rcases hr with h | ⟨h0, h1, hl2, hs⟩
  · refine (Ev.congr (fun k => rfl) (Ev.bind hv (Ev.congr (f := fun _ => some true) (fun k => ?_) (Ev.now true))))
    rw [if_pos h]
  · have hs2 : ∀ x ∈ l.map convP, smallP x := by
      intro x hx
      obtain ⟨y, hy, rfl⟩ := List.mem_map.1 hx
      exact hs y hy
    have hl3 : (l.map convP).length ≤ 1048576 := by rw [List.length_map]; exact hl2
    have hto := toPS l hl2 hs
    have hsp := spec_clear (l.map convP) hs2
    have him := impl_clear (l.map convP) hs2
    have hep := eqPS (l.map convP) hl3 hs2
    refine Ev.congr (fun k => rfl) (Ev.bind hv (Ev.congr (f := fun k => (laws_toPNodeS.f k l).bind fun p => (spec_Clear.f k p).bind fun x => (laws_toPNodeS.f k l).bind fun q => (impl_Clear.f k q).bind fun y => (if (y != x) = true then (some false) else ((laws_toPNodeS.f k l).bind fun z => ((laws_eqPNodeS.f k q z).bind fun u => (if u = true then (some true) else (some false)))))) (fun k => ?_) (Ev.bind hto (Ev.bind hsp (Ev.bind hto (Ev.bind him ?_))))))
    · rw [if_neg (by omega)]
    · simp only [bne_self_eq_false, Bool.false_eq_true, if_false]
      refine Ev.bind hto (Ev.bind hep ?_)
      simp only [if_true]
      exact Ev.now _
end Go.Proofs.Ytkflnbmmjnjgkaa.Pure
