/- Words and contracts for the row RowFnDeepPath: what the Go functions answer that it calls; printed by programs of the kit and of this session, and merged. -/
import Derived.Test.YtpmjpbaeecnpiaaDoorQd11
namespace Go.Proofs.YtpmjpbaeecnpiaaDoor.Pure
open Go.RowKit Go.Proofs.YtpmjpbaeecnpiaaDoor.L Go.Proofs.YtpmjpbaeecnpiaaDoorW.PrintWords Go.Proofs.YtpmjpbaeecnpiaaDoorW.PrintLast Go.Proofs.YtpmjpbaeecnpiaaDoorW.PrintMore
open DT MT
set_option linter.unusedVariables false
set_option linter.unusedSimpArgs false

theorem stepB_or (l : List It) (B : Nat → Bool) (nm : List UInt8) (j : Nat) : stepB l B nm j = true ↔ ∃ v, B v = true ∧ stepB l (fun i => decide (i = v)) nm j = true := by
  unfold stepB
  simp only [Bool.and_eq_true, decide_eq_true_eq]
  exact ⟨fun ⟨a, b, c⟩ => ⟨_, b, a, rfl, c⟩, fun ⟨v, b, a, e, c⟩ => ⟨a, by rw [e]; exact b, c⟩⟩
theorem finB_or (l : List It) : ∀ (names : List ByteArray) (B : Nat → Bool) (j : Nat), finB l B names j = true ↔ ∃ v, B v = true ∧ finB l (fun i => decide (i = v)) names j = true
  | [], B, j => by
    show B j = true ↔ ∃ v, B v = true ∧ decide (j = v) = true
    exact ⟨fun h => ⟨j, h, by simp⟩, fun ⟨v, h, e⟩ => by rw [of_decide_eq_true e]; exact h⟩
  | nm :: names, B, j => by
    show finB l (stepB l B nm.toList) names j = true ↔ ∃ v, B v = true ∧ finB l (stepB l (fun i => decide (i = v)) nm.toList) names j = true
    rw [finB_or l names]
    constructor
    · rintro ⟨w, hw, hf⟩
      obtain ⟨v, hv, hs⟩ := (stepB_or _ _ _ _).1 hw
      exact ⟨v, hv, (finB_or l names _ j).2 ⟨w, hs, hf⟩⟩
    · rintro ⟨v, hv, hf⟩
      obtain ⟨w, hs, hf⟩ := (finB_or l names _ j).1 hf
      exact ⟨w, (stepB_or _ _ _ _).2 ⟨v, hv, hs⟩, hf⟩
theorem start_plain (l : List It) (t : Nat) : startB l t false = fun i => decide (i = t) := by
  funext i
  unfold startB
  simp
theorem deep_path {p : List UInt8} (hp : pathB p = true) (h0 : ∀ b t, p = b :: t → b ≠ 47) (hl : p.length ≤ 19998) : p ≠ [] ∧ pathB (47 :: 47 :: p) = true ∧ (specSteps (47 :: 47 :: p)).1 = (specSteps p).1 ∧ (specSteps (47 :: 47 :: p)).2.1 = true ∧ (specSteps p).2.1 = false := by
  have hne : p ≠ [] := by
    rintro rfl
    exact absurd hp (by decide)
  have hd : deepS p = false := by
    unfold deepS
    rw [two_iff]
    cases p with
    | nil => rfl
    | cons b t =>
      have hb := h0 b t rfl
      cases t with
      | nil => simp
      | cons c t => simp [hb]
  have hd2 : deepS (47 :: 47 :: p) = true := by
    unfold deepS
    rw [two_iff]
    cases p with
    | nil => exact absurd rfl hne
    | cons b t => simp
  have e1 : specSteps p = stepsV false [] (segs [] p) := by
    unfold specSteps
    rw [hd]
    rfl
  have e2 : specSteps (47 :: 47 :: p) = stepsV true [] (segs [] p) := by
    unfold specSteps
    rw [hd2]
    rfl
  unfold pathB at hp ⊢
  rw [Bool.and_eq_true] at hp
  rw [e1] at hp
  rw [e1, e2]
  unfold stepsV at hp ⊢
  by_cases c : (segs [] p).all nameB = true
  · rw [if_pos c] at hp
    rw [if_pos c, if_pos c]
    refine ⟨hne, ?_, rfl, rfl, rfl⟩
    rw [Bool.and_eq_true]
    refine ⟨hp.1, ?_⟩
    rw [decide_eq_true_eq, List.length_cons, List.length_cons]
    omega
  · rw [if_neg c] at hp
    exact absurd hp.1 (by decide)
theorem mem_sel {l : List It} {n : Int} {s : ByteArray} (c : docV l = true ∧ 0 ≤ n ∧ n < l.length ∧ elV l n.toNat = true ∧ pathB s.data.toList = true) (z : Int) : z ∈ selV l n s ↔ ∃ j : Nat, j < l.length ∧ z = (j : Int) ∧ finB l (startB l n.toNat (specSteps s.data.toList).2.1) (specSteps s.data.toList).1 j = true := by
  unfold selV
  rw [if_pos c, List.mem_map]
  constructor
  · rintro ⟨j, hj, rfl⟩
    rw [List.mem_filter, List.mem_range] at hj
    exact ⟨j, hj.1, rfl, hj.2⟩
  · rintro ⟨j, h1, rfl, h2⟩
    exact ⟨j, by rw [List.mem_filter, List.mem_range]; exact ⟨h1, h2⟩, rfl⟩
theorem el_in {l : List It} {v : Nat} (h : elV l v = true) : v < l.length := by
  unfold elV at h
  by_cases c : v < l.length
  · exact c
  · rw [List.getElem?_eq_none (by omega)] at h
    cases h
/-- The elements below one. -/
def belowV (l : List It) (n i : Nat) : Bool := elV l i && decide (n ∈ chain (upV l) i)
theorem deep_mem {l : List It} {n : Nat} {s s2 : ByteArray} (hd : docV l = true) (hn : n < l.length) (he : elV l n = true) (hp : pathB s.data.toList = true) (h0 : ∀ b t, s.data.toList = b :: t → b ≠ 47) (hl : s.data.toList.length ≤ 19998) (h2 : s2.data.toList = 47 :: 47 :: s.data.toList) (z : Int) :
    z ∈ selV l (n : Int) s2 ↔ z ∈ selV l (n : Int) s ∨ ∃ i, n < i ∧ i < l.length ∧ belowV l n i = true ∧ z ∈ selV l (i : Int) s := by
  obtain ⟨_, p1, p2, p3, p4⟩ := deep_path hp h0 hl
  rw [← h2] at p1 p2 p3
  have c : ∀ i : Nat, i < l.length → elV l i = true → docV l = true ∧ (0 : Int) ≤ (i : Int) ∧ (i : Int) < l.length ∧ elV l (i : Int).toNat = true ∧ pathB s.data.toList = true := fun i hi h => ⟨hd, by omega, by omega, h, hp⟩
  have c2 : docV l = true ∧ (0 : Int) ≤ (n : Int) ∧ (n : Int) < l.length ∧ elV l (n : Int).toNat = true ∧ pathB s2.data.toList = true := ⟨hd, by omega, by omega, he, p1⟩
  rw [mem_sel c2, mem_sel (c n hn he), p2, p3, p4, start_plain]
  simp only [Int.toNat_natCast]
  constructor
  · rintro ⟨j, hj, hz, hf⟩
    obtain ⟨v, hv, hf⟩ := (finB_or _ _ _ _).1 hf
    by_cases e : v = n
    · rw [e] at hf
      exact Or.inl ⟨j, hj, hz, hf⟩
    · unfold startB at hv
      simp only [Bool.or_eq_true, Bool.and_eq_true, decide_eq_true_eq, true_and] at hv
      rcases hv with hv | ⟨v1, v2⟩
      · exact absurd hv e
      · have := chain_lt _ _ v2
        have hvl := el_in v1
        refine Or.inr ⟨v, by omega, hvl, ?_, ?_⟩
        · unfold belowV
          rw [v1, decide_eq_true v2]
          rfl
        · rw [mem_sel (c v hvl v1), p4, start_plain]
          exact ⟨j, hj, hz, hf⟩
  · rintro (⟨j, hj, hz, hf⟩ | ⟨i, i1, i2, i3, hm⟩)
    · refine ⟨j, hj, hz, (finB_or _ _ _ _).2 ⟨n, ?_, hf⟩⟩
      unfold startB
      simp
    · unfold belowV at i3
      rw [Bool.and_eq_true, decide_eq_true_eq] at i3
      rw [mem_sel (c i i2 i3.1), p4, start_plain] at hm
      obtain ⟨j, hj, hz, hf⟩ := hm
      refine ⟨j, hj, hz, (finB_or _ _ _ _).2 ⟨i, ?_, hf⟩⟩
      unfold startB
      rw [i3.1, decide_eq_true i3.2]
      simp
theorem has_l0 (l : List Int) (z : Int) (hl : l.length ≤ 1048576) : ∀ (n i : Nat), i + n = l.length → z ∈ l.drop i → Ev (fun k => laws_has.l0 k l z (i : Int)) true := by
  intro n
  induction n with
  | zero =>
    intro i hi hz
    rw [List.drop_eq_nil_of_le (by omega)] at hz
    cases hz
  | succ n ih =>
    intro i hi hz
    have hlt : i < l.length := by omega
    by_cases c : l[i] = z
    · refine Ev.step (f := fun _ => some true) (fun k => ?_) (Ev.now _)
      conv => lhs; unfold laws_has.l0
      rw [if_pos (by omega), if_pos (by omega), rdZ l i hlt, if_pos c]
    · rw [List.drop_eq_getElem_cons hlt] at hz
      refine Ev.step (fun k => ?_) (ih (i + 1) (by omega) ((List.mem_cons.1 hz).resolve_left (fun h => c h.symm)))
      conv => lhs; unfold laws_has.l0
      rw [if_pos (by omega), if_pos (by omega), rdZ l i hlt, if_neg c, w1n hlt (by omega)]
theorem has_ev (l : List Int) (z : Int) (hl : l.length ≤ 1048576) (hz : z ∈ l) : Ev (fun k => laws_has.f k l z) true :=
  Ev.congr (fun k => rfl) (has_l0 l z hl l.length 0 (by omega) (by simpa using hz))
theorem deep_l3 (D A : List Int) (hD : D.length ≤ 1048576) (hA : A.length ≤ 1048576) (h : ∀ z ∈ D, z ∈ A) : ∀ (n i : Nat), i + n = D.length → Ev (fun k => laws_FnDeepPath.l3 k D A (i : Int)) true := by
  intro n
  induction n with
  | zero =>
    intro i hi
    refine Ev.step (f := fun _ => some true) (fun k => ?_) (Ev.now _)
    conv => lhs; unfold laws_FnDeepPath.l3
    rw [if_neg (by omega)]
  | succ n ih =>
    intro i hi
    have hlt : i < D.length := by omega
    have he := has_ev A D[i] hA (h _ (List.getElem_mem hlt))
    refine Ev.step (f := fun k => (laws_has.f k A D[i]).bind fun t621 => (if t621 = true then (laws_FnDeepPath.l3 k D A ((i + 1 : Nat) : Int)) else (some false))) (fun k => ?_) (Ev.bind he (by simp only [if_true]; exact ih (i + 1) (by omega)))
    conv => lhs; unfold laws_FnDeepPath.l3
    rw [if_pos (by omega), if_pos (by omega), rdZ D i hlt, w1n hlt (by omega)]
theorem deep_l2 (D A : List Int) (hD : D.length ≤ 1048576) (hA : A.length ≤ 1048576) (h : ∀ z ∈ D, z ∈ A) (h2 : ∀ z ∈ A, z ∈ D) : ∀ (n i : Nat), i + n = A.length → Ev (fun k => laws_FnDeepPath.l2 k D A (i : Int)) true := by
  intro n
  induction n with
  | zero =>
    intro i hi
    refine Ev.step (fun k => ?_) (deep_l3 D A hD hA h D.length 0 (by omega))
    conv => lhs; unfold laws_FnDeepPath.l2
    rw [if_neg (by omega)]
    rfl
  | succ n ih =>
    intro i hi
    have hlt : i < A.length := by omega
    have he := has_ev D A[i] hD (h2 _ (List.getElem_mem hlt))
    refine Ev.step (f := fun k => (laws_has.f k D A[i]).bind fun t619 => (if t619 = true then (laws_FnDeepPath.l2 k D A ((i + 1 : Nat) : Int)) else (some false))) (fun k => ?_) (Ev.bind he (by simp only [if_true]; exact ih (i + 1) (by omega)))
    conv => lhs; unfold laws_FnDeepPath.l2
    rw [if_pos (by omega), if_pos (by omega), rdZ A i hlt, w1n hlt (by omega)]
theorem selV_few (l : List It) (n : Int) (s : ByteArray) : (selV l n s).length ≤ l.length := by
  unfold selV
  split
  · rw [List.length_map]
    have := List.length_filter_le (finB l (startB l n.toNat (specSteps s.data.toList).2.1) (specSteps s.data.toList).1) (List.range l.length)
    rw [List.length_range] at this
    exact this
  · simp
theorem deep_l0 (r : List It) (hr : r.length ≤ 200) (hsm : smallD r) (V : Val (upV r) (elV r) r.length) (t : Nat) (s : ByteArray) (hs : s.data.toList.length ≤ 1048576) (D : List Int) (hD : D.length ≤ 1048576) :
    ∀ (n i : Nat) (A : List Int), i + n = r.length → t < i → A.length ≤ 200 * i → (∀ z ∈ A, z ∈ D) → (∀ v, t < v → v < r.length → belowV r t v = true → ∀ z ∈ selV r (v : Int) s, z ∈ D) → (∀ z ∈ D, z ∈ A ∨ ∃ v, i ≤ v ∧ v < r.length ∧ belowV r t v = true ∧ z ∈ selV r (v : Int) s) → Ev (fun k => laws_FnDeepPath.l0 k r (t : Int) s D A (i : Int)) true := by
  intro n
  induction n with
  | zero =>
    intro i A hi hti hA h1 h2 h3
    refine Ev.step (fun k => ?_) (deep_l2 D A hD (by omega) (fun z hz => ?_) h1 A.length 0 (by omega))
    · conv => lhs; unfold laws_FnDeepPath.l0
      rw [if_neg (by omega)]
      rfl
    · rcases h3 z hz with h | ⟨v, a, b, _⟩
      · exact h
      · omega
  | succ n ih =>
    intro i A hi hti hA h1 h2 h3
    have hlt : i < r.length := by omega
    have hskip : belowV r t i = false → Ev (fun k => laws_FnDeepPath.l0 k r (t : Int) s D A ((i + 1 : Nat) : Int)) true := fun hb => ih (i + 1) A (by omega) (by omega) (by omega) h1 h2 (fun z hz => by
      rcases h3 z hz with h | ⟨v, a, b, c, d⟩
      · exact Or.inl h
      · by_cases e : v = i
        · rw [e, hb] at c; cases c
        · exact Or.inr ⟨v, by omega, b, c, d⟩)
    have hat : t ∈ chain (upV r) i → Ev (fun k => laws_FnDeepPath.l1 k r (t : Int) s D A (i : Int) (t : Int)) true := fun hm => by
      cases he : elV r i with
      | false =>
        refine Ev.step (fun k => ?_) (hskip (by unfold belowV; rw [he]; rfl))
        conv => lhs; unfold laws_FnDeepPath.l1
        rw [if_neg (by omega), if_pos rfl, if_pos (by omega), if_pos (by omega), rdIt r i hlt, if_pos ((el_no hlt).1 he), w1n hlt (by omega)]
      | true =>
        have hb : belowV r t i = true := by unfold belowV; rw [he, decide_eq_true hm]; rfl
        have hf := selV_few r (i : Int) s
        have hn := ih (i + 1) (A ++ selV r (i : Int) s) (by omega) (by omega) (by rw [List.length_append]; omega) (fun z hz => by
          rcases List.mem_append.1 hz with h | h
          · exact h1 z h
          · exact h2 i hti hlt hb z h) h2 (fun z hz => by
          rcases h3 z hz with h | ⟨v, a, b, c, d⟩
          · exact Or.inl (List.mem_append.2 (Or.inl h))
          · by_cases e : v = i
            · rw [e] at d; exact Or.inl (List.mem_append.2 (Or.inr d))
            · exact Or.inr ⟨v, by omega, b, c, d⟩)
        refine Ev.step (f := fun k => (impl_Select.f k r (i : Int) s).bind fun t612 => (if A.length + t612.length < 17592186044416 then (laws_FnDeepPath.l0 k r (t : Int) s D (A ++ t612) ((i + 1 : Nat) : Int)) else (none))) (fun k => ?_) (Ev.bind (impl_select r (i : Int) s (by omega) hsm hs) ?_)
        · conv => lhs; unfold laws_FnDeepPath.l1
          rw [if_neg (by omega), if_pos rfl, if_pos (by omega), if_pos (by omega), rdIt r i hlt, if_neg ((el_yes hlt).1 he), w1n hlt (by omega)]
        · simp only [if_pos (show A.length + (selV r (i : Int) s).length < 17592186044416 by omega)]
          exact hn
    have climb : ∀ v, v < r.length → (t ∈ chain (upV r) v → t ∈ chain (upV r) i) → (¬ t ∈ chain (upV r) v → belowV r t i = false) → Ev (fun k => laws_FnDeepPath.l1 k r (t : Int) s D A (i : Int) (v : Int)) true := by
      intro v
      induction v using Nat.strongRecOn with
      | _ v ihv =>
      intro hv hy hno
      by_cases c : v = t
      · subst c
        exact hat (hy (by rw [chain_eq]; simp))
      · by_cases c2 : t < v
        · obtain ⟨q1, q2, q3⟩ := V.2 v (by omega) hv
          have e2 : r[v].f0 = (((upV r v).toNat : Nat) : Int) := by rw [← upV_at hv]; omega
          refine Ev.step (fun k => ?_) (ihv _ q2 (by omega) (fun h => hy (by rw [chain_up q1 q2]; exact List.mem_cons_of_mem _ h)) (fun h => hno (fun hm => by
            rw [chain_up q1 q2] at hm
            exact h ((List.mem_cons.1 hm).resolve_left (fun e => c e.symm)))))
          conv => lhs; unfold laws_FnDeepPath.l1
          rw [if_pos (by omega), if_pos (by omega), if_pos (by omega), rdIt r v hv, e2]
        · refine Ev.step (fun k => ?_) (hskip (hno (fun hm => by
            have := chain_lt _ _ hm
            omega)))
          conv => lhs; unfold laws_FnDeepPath.l1
          rw [if_neg (by omega), if_neg (by omega), w1n hlt (by omega)]
    refine Ev.step (fun k => ?_) (climb i hlt id (fun h => by unfold belowV; rw [decide_eq_false h, Bool.and_false]))
    conv => lhs; unfold laws_FnDeepPath.l0
    rw [if_pos (by omega)]
theorem FnDeepPath : laws_FnDeepPath.Pure := by
  intro code h1 h2 h3
  have hC := code_of h2 h3
  by_cases hbig : (code.length : Int) > 1048576
  · refine ⟨0, ?_⟩
    unfold laws_FnDeepPath.f laws_big.f
    rw [Option.bind_some, if_pos (decide_eq_true hbig)]
  obtain ⟨r, n, s, hd, ht, g1, g2, hsz⟩ := drawSelect_ev hC
  have hr : r.length ≤ 1048576 := by omega
  have hsm : smallD r := fun x hx => tiny_small (ht x hx)
  have hs : s.data.toList.length ≤ 1048576 := by rw [← sz]; omega
  have him := impl_select r n s hr hsm hs
  have hsp := spec_select r n s hr hsm hs
  have hsl := selV_len r n s hr
  have hj1 : Ev (fun k => laws_FnDeepPath.j0 k r n s (selV r n s) true) true := by
    refine Ev.step (f := fun k => (spec_Select.f k r n s).bind fun t597 => ((laws_sameInts.f k (selV r n s) t597).bind fun t600 => (some t600))) (fun k => ?_) (Ev.bind hsp (Ev.bind (same_ev _ hsl) (Ev.now _)))
    simp only [laws_FnDeepPath.j0, if_true]
  have hdoc := spec_doc r hsm hr
  have : Ev (fun k => laws_FnDeepPath.f k code) true := by
    refine Ev.congr (f := fun k => (spec_DrawSelect.f k code).bind fun bt582 => ((impl_Select.f k bt582.1 bt582.2.1 bt582.2.2).bind fun t587 => ((spec_Select.f k bt582.1 bt582.2.1 bt582.2.2).bind fun t590 => ((laws_sameInts.f k t587 t590).bind fun t593 => (if t593 = true then ((spec_DocOk.f k bt582.1).bind fun t594 => (if t594 = true then (if bt582.2.1 < 0 then (laws_FnDeepPath.j0 k bt582.1 bt582.2.1 bt582.2.2 t587 true) else (if bt582.2.1 ≥ (bt582.1.length : Int) then (laws_FnDeepPath.j0 k bt582.1 bt582.2.1 bt582.2.2 t587 true) else (if 0 ≤ bt582.2.1 then (if bt582.2.1 < (bt582.1.length : Int) then (if ((rd_T39 bt582.1 bt582.2.1).f1).toList = ([] : List UInt8) then (laws_FnDeepPath.j0 k bt582.1 bt582.2.1 bt582.2.2 t587 true) else ((spec_PathOk.f k bt582.2.2).bind fun t596 => (if t596 = true then (if 0 < (bt582.2.2.size : Int) then (laws_FnDeepPath.j0 k bt582.1 bt582.2.1 bt582.2.2 t587 ((bt bt582.2.2 0) == 47)) else (none)) else (laws_FnDeepPath.j0 k bt582.1 bt582.2.1 bt582.2.2 t587 true)))) else (none)) else (none)))) else (laws_FnDeepPath.j0 k bt582.1 bt582.2.1 bt582.2.2 t587 true))) else (laws_FnDeepPath.j0 k bt582.1 bt582.2.1 bt582.2.2 t587 true)))))) (fun k => ?_) (Ev.bind hd (Ev.bind him (Ev.bind hsp (Ev.bind (same_ev _ hsl) ?_))))
    · unfold laws_FnDeepPath.f laws_big.f
      rw [Option.bind_some, if_neg (by simpa using hbig)]
    · simp only [if_true]
      refine Ev.bind hdoc ?_
      cases hdv : docV r with
      | false => simp only [Bool.false_eq_true, if_false]; exact hj1
      | true =>
        obtain ⟨_, d2, V⟩ := doc_val hdv
        simp only [if_true]
        by_cases c1 : n < 0
        · simp only [if_pos c1]; exact hj1
        by_cases c2 : n ≥ (r.length : Int)
        · simp only [if_neg c1, if_pos c2]; exact hj1
        obtain ⟨t, rfl⟩ : ∃ t : Nat, n = (t : Int) := ⟨n.toNat, by omega⟩
        have htl : t < r.length := by omega
        simp only [if_neg c1, if_neg c2, if_pos (show (0 : Int) ≤ (t : Int) by omega), if_pos (show (t : Int) < (r.length : Int) by omega), rdIt r t htl]
        cases he : elV r t with
        | false => simp only [if_pos ((el_no htl).1 he)]; exact hj1
        | true =>
          simp only [if_neg ((el_yes htl).1 he)]
          refine Ev.bind (spec_path s hs) ?_
          cases hp : pathB s.data.toList with
          | false => simp only [Bool.false_eq_true, if_false]; exact hj1
          | true =>
            have hne : s.data.toList ≠ [] := by
              intro e
              rw [e] at hp
              exact absurd hp (by decide)
            obtain ⟨b, u, hbu⟩ := List.exists_cons_of_ne_nil hne
            have hsz0 : 0 < (s.size : Int) := by rw [sz, hbu, List.length_cons]; omega
            simp only [if_true, if_pos hsz0, first_bt s b u hbu]
            by_cases cb : b = 47
            · have e47 : (((b.toNat : Nat) : Int) == 47) = true := by rw [cb]; rfl
              rw [e47]
              exact hj1
            · have e47 : (((b.toNat : Nat) : Int) == 47) = false := by
                rw [beq_eq_false_iff_ne]
                intro e
                apply cb
                have : b.toNat = 47 := by omega
                exact UInt8.toNat_inj.1 (by rw [this]; rfl)
              rw [e47]
              have h2 : ((⟨#[47, 47]⟩ : ByteArray) ++ s).data.toList = 47 :: 47 :: s.data.toList := by simp
              have hs2 : ((⟨#[47, 47]⟩ : ByteArray) ++ s).data.toList.length ≤ 1048576 := by
                rw [h2, List.length_cons, List.length_cons, ← sz]
                omega
              have hm := deep_mem (l := r) (n := t) (s := s) (s2 := (⟨#[47, 47]⟩ : ByteArray) ++ s) hdv htl he hp (fun b' u' h => by rw [hbu] at h; cases h; exact cb) (by rw [← sz]; omega) h2
              have hf := selV_few r (t : Int) s
              have hl := deep_l0 r d2 hsm V t s hs (selV r (t : Int) ((⟨#[47, 47]⟩ : ByteArray) ++ s)) (selV_len _ _ _ hr) (r.length - (t + 1)) (t + 1) (selV r (t : Int) s) (by omega) (by omega) (by omega) (fun z hz => (hm z).2 (Or.inl hz)) (fun v v1 v2 v3 z hz => (hm z).2 (Or.inr ⟨v, v1, v2, v3, hz⟩)) (fun z hz => by
                rcases (hm z).1 hz with h | ⟨v, v1, v2, v3, h⟩
                · exact Or.inl h
                · exact Or.inr ⟨v, by omega, v2, v3, h⟩)
              refine Ev.step (f := fun k => (impl_Select.f k r (t : Int) ((⟨#[47, 47]⟩ : ByteArray) ++ s)).bind fun t601 => ((some (([] : List Int) : List Int)).bind fun y604 => (if y604.length + (selV r (t : Int) s).length < 17592186044416 then (laws_FnDeepPath.l0 k r (t : Int) s t601 (y604 ++ (selV r (t : Int) s)) (wrap64 ((t : Int) + 1))) else (none)))) (fun k => ?_) (Ev.bind (impl_select r (t : Int) _ hr hsm hs2) ?_)
              · have e2 : 2 + s.size ≤ 9223372036854775807 := by omega
                simp only [laws_FnDeepPath.j0, Bool.false_eq_true, if_false, if_pos e2]
              · simp only [Option.bind_some, List.nil_append, List.length_nil]
                have e3 : 0 + (selV r (t : Int) s).length < 17592186044416 := by omega
                simp only [if_pos e3, w1n htl (show r.length ≤ 9223372036854775807 by omega)]
                exact hl
  exact this.rounds
end Go.Proofs.YtpmjpbaeecnpiaaDoor.Pure
