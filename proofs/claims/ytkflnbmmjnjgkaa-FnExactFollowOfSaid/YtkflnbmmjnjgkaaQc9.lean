/- Words and contracts for the row RowFnExactFollowOf: what the Go functions answer that it calls; printed by programs of the kit and of this session, and merged. -/
import Derived.Test.YtkflnbmmjnjgkaaQc8
import Derived.Lib.Hide
import Derived.Outline
import Derived.ChangeArms
import Derived.ChangeSlices
import Derived.DataElems
namespace Go.Proofs.Ytkflnbmmjnjgkaa.Pure
open Go.RowKit Go.Proofs.Ytkflnbmmjnjgkaa.L Go.Proofs.YtkflnbmmjnjgkaaW.PrintWords Go.Proofs.YtkflnbmmjnjgkaaW.PrintLast Go.Proofs.YtkflnbmmjnjgkaaW.PrintMore
set_option linter.unusedVariables false
set_option linter.unusedSimpArgs false

abbrev PM : Type := S49
def at_ (p : List PM) (i : Nat) : PM := rd_T49 p (i : Int)
theorem at_lt {p : List PM} {i : Nat} (h : i < p.length) : at_ p i = p[i] := by
  unfold at_ rd_T49
  simp [h]
/-- Kids from the right: each one the root of the tree that ends just ahead of what has been met. -/
def chF (g : Nat → Option Nat) : Nat → List Int → Option Nat
  | e, [] => some e
  | e, k :: ks => if 0 < e ∧ k = (e : Int) - 1 then (g (e - 1)).bind fun f => chF g f ks else none
def tf (p : List PM) (i : Nat) : Option Nat := chF (fun j => if _h : j < i then tf p j else none) i (at_ p i).f2.reverse
termination_by i
theorem chF_le {g : Nat → Option Nat} (hg : ∀ j f, g j = some f → f ≤ j) : ∀ {ks : List Int} {e f : Nat}, chF g e ks = some f → f ≤ e
  | [], e, f, h => by
    have : e = f := Option.some.inj h
    omega
  | k :: ks, e, f, h => by
    unfold chF at h
    by_cases c : 0 < e ∧ k = (e : Int) - 1
    · rw [if_pos c] at h
      obtain ⟨f1, h1, h2⟩ := Option.bind_eq_some_iff.1 h
      have a := hg _ _ h1
      have b := chF_le hg h2
      omega
    · rw [if_neg c] at h; cases h
theorem chF_congr {g g' : Nat → Option Nat} {i : Nat} (hg : ∀ j f, g j = some f → f ≤ j) (h : ∀ j, j < i → g' j = g j) : ∀ (ks : List Int) (e : Nat), e ≤ i → chF g' e ks = chF g e ks
  | [], e, _ => rfl
  | k :: ks, e, he => by
    unfold chF
    by_cases c : 0 < e ∧ k = (e : Int) - 1
    · rw [if_pos c, if_pos c, h (e - 1) (by omega)]
      cases hq : g (e - 1) with
      | none => rfl
      | some f => exact chF_congr hg h ks f (by have := hg _ _ hq; omega)
    · rw [if_neg c, if_neg c]
theorem tf_le {p : List PM} : ∀ i f, tf p i = some f → f ≤ i := by
  intro i
  induction i using Nat.strongRecOn with
  | _ i ih =>
  intro f h
  rw [tf] at h
  refine chF_le (fun j f hj => ?_) h
  by_cases c : j < i
  · rw [dif_pos c] at hj
    exact ih j c f hj
  · rw [dif_neg c] at hj; cases hj
theorem tf_eq (p : List PM) (i : Nat) : tf p i = chF (tf p) i (at_ p i).f2.reverse := by
  conv => lhs; rw [tf]
  exact chF_congr (fun j f h => tf_le j f h) (fun j hj => dif_pos hj) _ i (Nat.le_refl _)
theorem chF_app (g : Nat → Option Nat) : ∀ (a b : List Int) (e : Nat), chF g e (a ++ b) = (chF g e a).bind fun m => chF g m b
  | [], b, e => rfl
  | k :: a, b, e => by
    show (if 0 < e ∧ k = (e : Int) - 1 then (g (e - 1)).bind fun f => chF g f (a ++ b) else none) = (if 0 < e ∧ k = (e : Int) - 1 then (g (e - 1)).bind fun f => chF g f a else none).bind fun m => chF g m b
    by_cases c : 0 < e ∧ k = (e : Int) - 1
    · rw [if_pos c, if_pos c]
      cases g (e - 1) with
      | none => rfl
      | some f => exact chF_app g a b f
    · rw [if_neg c, if_neg c]; rfl
/-- The greatest of the kids' depths and one. -/
def dpS (g : Nat → Nat) (d : Nat) (ks : List Int) : Nat := ks.foldl (fun a k => max a (g k.toNat + 1)) d
def dp (p : List PM) (i : Nat) : Nat := dpS (fun j => if _h : j < i then dp p j else 0) 0 (at_ p i).f2
termination_by i
theorem dpS_max (g : Nat → Nat) : ∀ (ks : List Int) (d : Nat), dpS g d ks = max d (dpS g 0 ks)
  | [], d => by simp [dpS]
  | k :: ks, d => by
    show dpS g (max d (g k.toNat + 1)) ks = max d (dpS g (max 0 (g k.toNat + 1)) ks)
    rw [dpS_max g ks (max d _), dpS_max g ks (max 0 _)]
    omega
theorem dpS_app (g : Nat → Nat) (a b : List Int) (d : Nat) : dpS g d (a ++ b) = dpS g (dpS g d a) b := List.foldl_append
theorem dpS_rev (g : Nat → Nat) : ∀ (ks : List Int), dpS g 0 ks.reverse = dpS g 0 ks
  | [] => rfl
  | k :: ks => by
    rw [List.reverse_cons, dpS_app, dpS_rev g ks]
    show max (dpS g 0 ks) (g k.toNat + 1) = dpS g (max 0 (g k.toNat + 1)) ks
    rw [dpS_max g ks (max 0 _)]
    omega
theorem dpS_congr {g g' : Nat → Nat} : ∀ (ks : List Int) (d : Nat), (∀ k ∈ ks, g k.toNat = g' k.toNat) → dpS g d ks = dpS g' d ks
  | [], d, _ => rfl
  | k :: ks, d, h => by
    show dpS g (max d (g k.toNat + 1)) ks = dpS g' (max d (g' k.toNat + 1)) ks
    rw [h k (by simp), dpS_congr ks _ (fun k' hk' => h k' (by simp [hk']))]
/-- The kids of a node whose tree is one stand ahead of it. -/
theorem chF_kids {g : Nat → Option Nat} (hg : ∀ j f, g j = some f → f ≤ j) : ∀ {ks : List Int} {e f : Nat}, chF g e ks = some f → ∀ k ∈ ks, 0 ≤ k ∧ k < (e : Int) ∧ ∃ q, g k.toNat = some q ∧ f ≤ q
  | [], e, f, _ => by simp
  | k :: ks, e, f, h => by
    unfold chF at h
    by_cases c : 0 < e ∧ k = (e : Int) - 1
    · rw [if_pos c] at h
      obtain ⟨f1, h1, h2⟩ := Option.bind_eq_some_iff.1 h
      have a := hg _ _ h1
      have b := chF_le hg h2
      intro k' hk'
      rcases List.mem_cons.1 hk' with rfl | hk'
      · exact ⟨by omega, by omega, f1, by rw [show k'.toNat = e - 1 by omega]; exact h1, b⟩
      · obtain ⟨x, y, q, hq⟩ := chF_kids hg h2 k' hk'
        exact ⟨x, by omega, q, hq⟩
    · rw [if_neg c] at h; cases h
theorem tf_kids {p : List PM} {i f : Nat} (h : tf p i = some f) : ∀ k ∈ (at_ p i).f2, 0 ≤ k ∧ k < (i : Int) ∧ ∃ q, tf p k.toNat = some q ∧ f ≤ q := by
  rw [tf_eq] at h
  intro k hk
  exact chF_kids (fun j f hj => tf_le j f hj) h k (List.mem_reverse.2 hk)
theorem dp_eq {p : List PM} {i f : Nat} (h : tf p i = some f) : dp p i = dpS (dp p) 0 (at_ p i).f2 := by
  conv => lhs; rw [dp]
  refine dpS_congr _ _ (fun k hk => ?_)
  obtain ⟨a, b, _⟩ := tf_kids h k hk
  rw [dif_pos (by omega)]
theorem dp_le {p : List PM} : ∀ i f, tf p i = some f → dp p i ≤ i := by
  intro i
  induction i using Nat.strongRecOn with
  | _ i ih =>
  intro f h
  rw [dp_eq h]
  have hk := tf_kids h
  generalize (at_ p i).f2 = ks at hk
  have : ∀ (ks : List Int) (d : Nat), d ≤ i → (∀ k ∈ ks, 0 ≤ k ∧ k < (i : Int) ∧ ∃ q, tf p k.toNat = some q ∧ f ≤ q) → dpS (dp p) d ks ≤ i := by
    intro ks
    induction ks with
    | nil => intro d hd _; exact hd
    | cons k ks ihk =>
      intro d hd hk
      obtain ⟨a, b, q, hq, _⟩ := hk k (by simp)
      have := ih k.toNat (by omega) q hq
      exact ihk (max d (dp p k.toNat + 1)) (by omega) (fun k' hk' => hk k' (by simp [hk']))
  exact this ks 0 (Nat.zero_le _) hk
/-- What lies between a tree's first node and its root is in it: its own tree is one too. -/
theorem chF_cover {g : Nat → Option Nat} (hg : ∀ j f, g j = some f → f ≤ j) (hc : ∀ j f, g j = some f → ∀ q, f ≤ q → q ≤ j → (g q).isSome = true) : ∀ {ks : List Int} {e f : Nat}, chF g e ks = some f → ∀ q, f ≤ q → q < e → (g q).isSome = true
  | [], e, f, h => by
    have : e = f := Option.some.inj h
    intro q h1 h2
    omega
  | k :: ks, e, f, h => by
    unfold chF at h
    by_cases c : 0 < e ∧ k = (e : Int) - 1
    · rw [if_pos c] at h
      obtain ⟨f1, h1, h2⟩ := Option.bind_eq_some_iff.1 h
      intro q hq1 hq2
      by_cases hq : f1 ≤ q
      · exact hc _ _ h1 q hq (by omega)
      · exact chF_cover hg hc h2 q hq1 (by omega)
    · rw [if_neg c] at h; cases h
theorem tf_cover {p : List PM} : ∀ i f, tf p i = some f → ∀ q, f ≤ q → q ≤ i → (tf p q).isSome = true := by
  intro i
  induction i using Nat.strongRecOn with
  | _ i ih =>
  intro f h q h1 h2
  by_cases e : q = i
  · subst e; rw [h]; rfl
  · have h' := h
    rw [tf] at h'
    have h3 := chF_cover (g := fun j => if _h : j < i then tf p j else none) (fun j f hj => by
        by_cases c : j < i
        · simp only [dif_pos c] at hj; exact tf_le j f hj
        · simp only [dif_neg c] at hj; cases hj) (fun j f hj r hr1 hr2 => by
        by_cases c : j < i
        · simp only [dif_pos c] at hj
          simp only [dif_pos (show r < i by omega)]
          exact ih j c f hj r hr1 hr2
        · simp only [dif_neg c] at hj; cases hj) h' q h1 (by omega)
    simpa only [dif_pos (show q < i by omega)] using h3
/-- Is a node right in itself? -/
def fitsN (n : PM) : Bool :=
  if n.f0 = 1 then nameB n.f1.data.toList && n.f2.isEmpty else if n.f0 = 4 then n.f1.data.toList.isEmpty && n.f2.isEmpty else if n.f0 = 2 then n.f1.data.toList.isEmpty else if n.f0 = 3 then n.f1.data.toList.isEmpty && decide (2 ≤ n.f2.length) else false
def okN (n : PM) : Bool := fitsN n && decide (0 ≤ n.f3 ∧ n.f3 ≤ 3)
def posN (n : PM) : Bool := n.f0 == 1 || n.f0 == 4
/-- What both ParticleOk's answer. -/
def okV (p : List PM) : Bool :=
  decide (1 ≤ p.length ∧ p.length ≤ 40) && ((List.range p.length).all fun i => okN (at_ p i) && (tf p i).isSome) && (tf p (p.length - 1) == some 0) && !posN (at_ p (p.length - 1)) && decide (dp p (p.length - 1) ≤ 9)
/-- A model of texts and rows that are not too long. -/
def smallM (p : List PM) : Prop := ∀ x ∈ p, x.f1.data.toList.length ≤ 1048576 ∧ x.f2.length ≤ 1048576
theorem len0 (l : List Int) : ((l.length : Int) == 0) = l.isEmpty := by
  cases l with
  | nil => rfl
  | cons x l => simp; omega
theorem emp_iff (s : ByteArray) : (s.toList = ([] : List UInt8)) ↔ s.data.toList.isEmpty = true := by
  rw [List.isEmpty_iff, Lib.toList_data]
theorem impl_fits (n : PM) (hn : n.f1.data.toList.length ≤ 1048576) : Ev (fun k => impl_PNode_fits.f k n.f0 n.f1 n.f2 n.f3) (fitsN n) := by
  unfold impl_PNode_fits.f fitsN
  by_cases h1 : n.f0 = 1
  · simp only [if_pos h1]
    refine Ev.bind (impl_name n.f1 (by omega)) ?_
    refine Ev.congr (f := fun _ => some _) (fun k => ?_) (Ev.now _)
    cases nameB n.f1.data.toList with
    | true => simp only [if_true, Bool.true_and, len0]
    | false => simp
  · simp only [if_neg h1]
    by_cases h4 : n.f0 = 4
    · refine Ev.congr (f := fun _ => some _) (fun k => ?_) (Ev.now _)
      have h2 : ¬ n.f0 = 2 := by omega
      rw [if_pos h4, if_pos h4, if_neg h2]
      by_cases he : n.f1.data.toList.isEmpty = true
      · rw [if_pos ((emp_iff _).2 he), he, Bool.true_and, len0]
      · rw [if_neg (fun h => he ((emp_iff _).1 h)), Bool.eq_false_iff.mpr he, Bool.false_and]
    · refine Ev.congr (f := fun _ => some _) (fun k => ?_) (Ev.now _)
      rw [if_neg h4, if_neg h4]
      by_cases h2 : n.f0 = 2
      · rw [if_pos h2, if_pos h2]
        by_cases he : n.f1.data.toList.isEmpty = true
        · rw [if_pos ((emp_iff _).2 he), he]
        · rw [if_neg (fun h => he ((emp_iff _).1 h)), Bool.eq_false_iff.mpr he]
      · rw [if_neg h2, if_neg h2]
        by_cases h3 : n.f0 = 3
        · rw [if_pos h3, if_pos h3]
          by_cases he : n.f1.data.toList.isEmpty = true
          · rw [if_pos ((emp_iff _).2 he), he, Bool.true_and]
            congr 1
            exact decide_eq_decide.2 (by omega)
          · rw [if_neg (fun h => he ((emp_iff _).1 h)), Bool.eq_false_iff.mpr he, Bool.false_and]
        · rw [if_neg h3, if_neg h3]
theorem rd_set {l : List Int} {i : Nat} (h : i < l.length) (v : Int) : rd (l.set i v) (i : Int) = v := by
  unfold rd
  simp [h]
theorem rd_set_ne {l : List Int} {i j : Nat} (h : i ≠ j) (v : Int) : rd (l.set i v) (j : Int) = rd l (j : Int) := by
  unfold rd
  simp [List.getElem?_set_ne h]
/-- The two arrays behind nodes 0 .. i - 1. -/
structure Arr (p : List PM) (i : Nat) (x3 x4 : List Int) : Prop where
  l3 : x3.length = p.length
  l4 : x4.length = p.length
  lo : ∀ j, j < i → ∃ f : Nat, tf p j = some f ∧ rd x3 (j : Int) = f ∧ rd x4 (j : Int) = dp p j
  hi : ∀ j, i < j → rd x4 (j : Int) = 0
theorem Arr.set_ {p : List PM} {i : Nat} {x3 x4 : List Int} (h : Arr p i x3 x4) (u v : Int) : Arr p i (x3.set i u) (x4.set i v) :=
  ⟨by rw [List.length_set, h.l3], by rw [List.length_set, h.l4], fun j hj => by
    rw [rd_set_ne (by omega), rd_set_ne (by omega)]
    exact h.lo j hj, fun j hj => by rw [rd_set_ne (by omega)]; exact h.hi j hj⟩
theorem impl_kids {p : List PM} {i : Nat} (hi : i < p.length) (hp : p.length ≤ 40) (hs : smallM p) (R : Bool) : ∀ (m : Nat) (x3 x4 : List Int) (e d : Nat), m ≤ (at_ p i).f2.length → Arr p i x3 x4 → rd x3 (i : Int) = e → rd x4 (i : Int) = d → e ≤ i → d ≤ i →
    (∀ (f : Nat) x3' x4', chF (tf p) e ((at_ p i).f2.take m).reverse = some f → Arr p i x3' x4' → rd x3' (i : Int) = f → rd x4' (i : Int) = dpS (dp p) d ((at_ p i).f2.take m).reverse → Ev (fun k => impl_ParticleOk.l0 k p x3' x4' p (p.length : Int) (wrap64 ((i : Int) + 1))) R) →
    (chF (tf p) e ((at_ p i).f2.take m).reverse = none → R = false) →
    Ev (fun k => impl_ParticleOk.l1 k p x3 x4 (i : Int) ((m : Int) - 1) p (p.length : Int) (i : Int) (at_ p i).f0 (at_ p i).f1 (at_ p i).f2 (at_ p i).f3) R := by
  intro m
  induction m with
  | zero =>
    intro x3 x4 e d hm hA he hd hei hdi hok hno
    refine Ev.step (fun k => ?_) (hok e x3 x4 rfl hA he hd)
    conv => lhs; unfold impl_ParticleOk.l1
    rw [if_neg (by omega)]
  | succ m ih =>
    intro x3 x4 e d hm hA he hd hei hdi hok hno
    have hlt : m < (at_ p i).f2.length := by omega
    have hkl : (at_ p i).f2.length ≤ 1048576 := by
      have := (hs p[i] (List.getElem_mem hi)).2
      rwa [← at_lt hi] at this
    have ht : ((at_ p i).f2.take (m + 1)).reverse = (at_ p i).f2[m] :: ((at_ p i).f2.take m).reverse := by
      rw [List.take_succ_eq_append_getElem hlt, List.reverse_append]; rfl
    rw [ht] at hok hno
    have hrd := rdZ (at_ p i).f2 m hlt
    have e7 : ((m + 1 : Nat) : Int) - 1 = (m : Int) := by omega
    rw [e7]
    have hch : ∀ ks, chF (tf p) e ((at_ p i).f2[m] :: ks) = if 0 < e ∧ (at_ p i).f2[m] = (e : Int) - 1 then (tf p (e - 1)).bind fun f => chF (tf p) f ks else none := fun _ => rfl
    by_cases c0 : (at_ p i).f2[m] < 0
    · have hR : R = false := hno (by rw [hch, if_neg (by omega)])
      subst hR
      refine Ev.step (f := fun _ => some false) (fun k => ?_) (Ev.now _)
      conv => lhs; unfold impl_ParticleOk.l1
      rw [if_pos (by omega), if_pos (by omega), if_pos (by omega), hrd, if_pos c0]
    · by_cases c1 : (at_ p i).f2[m] = (e : Int) - 1
      · obtain ⟨f, hf, hf3, hf4⟩ := hA.lo (e - 1) (by omega)
        have hce : 0 < e ∧ (at_ p i).f2[m] = (e : Int) - 1 := ⟨by omega, c1⟩
        rw [hch, if_pos hce, hf] at hok hno
        simp only [Option.bind_some] at hok hno
        have ekd : (at_ p i).f2[m] = ((e - 1 : Nat) : Int) := by omega
        have hdl := dp_le _ _ hf
        have hfl := tf_le _ _ hf
        have hA' := hA.set_ (f : Int) ((max d (dp p (e - 1) + 1) : Nat) : Int)
        have key := ih (x3.set i (f : Int)) (x4.set i ((max d (dp p (e - 1) + 1) : Nat) : Int)) f (max d (dp p (e - 1) + 1)) (by omega) hA' (rd_set (by rw [hA.l3]; exact hi) _) (rd_set (by rw [hA.l4]; exact hi) _) (by omega) (by omega)
          (fun f' x3' x4' h1 h2 h3 h4 => hok f' x3' x4' h1 h2 h3 (by
            rw [h4]
            show _ = ((dpS (dp p) (max d (dp p (at_ p i).f2[m].toNat + 1)) ((at_ p i).f2.take m).reverse : Nat) : Int)
            rw [show (at_ p i).f2[m].toNat = e - 1 by omega])) hno
        refine Ev.step (fun k => ?_) key
        conv => lhs; unfold impl_ParticleOk.l1
        have hw : wrap64 ((e : Int) - 1) = (e : Int) - 1 := w64 (by omega) (by omega)
        rw [if_pos (by omega), if_pos (by omega), if_pos (by omega), hrd, if_neg c0, if_pos (by omega), if_pos (by rw [hA.l3]; omega), he, hw, if_pos c1, if_pos (by omega), if_pos (by rw [hA.l3]; omega), if_pos (by rw [hA.l4]; omega), if_pos (by rw [hA.l4]; omega)]
        rw [ekd, hf3, hf4, hd, w64 (n := (dp p (e - 1) : Int) + 1) (by omega) (by omega), w64 (n := (m : Int) - 1) (by omega) (by omega), Int.toNat_natCast]
        have emx : mx (d : Int) ((dp p (e - 1) : Int) + 1) = ((max d (dp p (e - 1) + 1) : Nat) : Int) := by
          unfold mx
          split <;> omega
        rw [emx]
      · have hR : R = false := hno (by rw [hch, if_neg (fun h => c1 h.2)])
        subst hR
        refine Ev.step (f := fun _ => some false) (fun k => ?_) (Ev.now _)
        conv => lhs; unfold impl_ParticleOk.l1
        have hw : wrap64 ((e : Int) - 1) = (e : Int) - 1 := w64 (by omega) (by omega)
        rw [if_pos (by omega), if_pos (by omega), if_pos (by omega), hrd, if_neg c0, if_pos (by omega), if_pos (by rw [hA.l3]; omega), he, hw, if_neg c1]
def finV (p : List PM) : Bool := (tf p (p.length - 1) == some 0) && !posN (at_ p (p.length - 1)) && decide (dp p (p.length - 1) ≤ 9)
theorem pos_ok (n : PM) : impl_PNode_isPosition.f n.f0 n.f1 n.f2 n.f3 = some (posN n) := by
  unfold impl_PNode_isPosition.f posN
  by_cases h : n.f0 = 1
  · rw [if_pos h, h]; rfl
  · rw [if_neg h, beq_eq_false_iff_ne.2 h]; rfl
theorem in_ok (x : Int) : impl_in.f x 0 3 = some (decide (0 ≤ x ∧ x ≤ 3)) := by
  unfold impl_in.f
  by_cases h : 0 ≤ x
  · rw [if_pos h]; congr 1; exact decide_eq_decide.2 (by omega)
  · rw [if_neg h, decide_eq_false (by omega)]
theorem impl_nodes {p : List PM} (h1 : 1 ≤ p.length) (hp : p.length ≤ 40) (hs : smallM p) : ∀ (m i : Nat) (x3 x4 : List Int), i + m = p.length → Arr p i x3 x4 → (i < p.length → rd x4 (i : Int) = 0) →
    Ev (fun k => impl_ParticleOk.l0 k p x3 x4 p (p.length : Int) (i : Int)) (((List.range' i m).all fun j => okN (at_ p j) && (tf p j).isSome) && finV p) := by
  intro m
  induction m with
  | zero =>
    intro i x3 x4 hi hA hz
    obtain ⟨f, hf, hf3, hf4⟩ := hA.lo (p.length - 1) (by omega)
    refine Ev.step (f := fun _ => some _) (fun k => ?_) (Ev.now _)
    conv => lhs; unfold impl_ParticleOk.l0
    have hw : wrap64 ((p.length : Int) - 1) = ((p.length - 1 : Nat) : Int) := by rw [w64] <;> omega
    rw [if_neg (by omega), hw, if_pos (by omega), if_pos (by rw [hA.l3]; omega), hf3]
    rw [List.range'_zero, List.all_nil, Bool.true_and]
    unfold finV
    rw [hf]
    by_cases c : (f : Int) = 0
    · obtain rfl : f = 0 := by omega
      rw [if_pos c, if_pos (by omega)]
      have e : rd_T49 p ((p.length - 1 : Nat) : Int) = at_ p (p.length - 1) := rfl
      rw [e, pos_ok]
      simp only [Option.bind_some]
      cases posN (at_ p (p.length - 1)) with
      | true => simp
      | false =>
        rw [if_neg (by decide), if_pos (by rw [hA.l4]; omega), hf4]
        simp only [beq_self_eq_true, Bool.not_false, Bool.true_and]
        congr 1
        exact decide_eq_decide.2 (by omega)
    · rw [if_neg c]
      have : (some f == some 0) = false := beq_eq_false_iff_ne.2 (fun h => c (by injection h with h; omega))
      rw [this]
      rfl
  | succ m ih =>
    intro i x3 x4 hi hA hz
    have hil : i < p.length := by omega
    have e : rd_T49 p (i : Int) = at_ p i := rfl
    have hsm := hs p[i] (List.getElem_mem hil)
    rw [← at_lt hil] at hsm
    rw [List.range'_succ, List.all_cons]
    refine Ev.step (f := fun k => (impl_PNode_fits.f k (at_ p i).f0 (at_ p i).f1 (at_ p i).f2 (at_ p i).f3).bind fun t => if t = true then (impl_ParticleOk.j1 k p x3 x4 (i : Int) p (p.length : Int) (i : Int) (!decide (0 ≤ (at_ p i).f3 ∧ (at_ p i).f3 ≤ 3)) (at_ p i).f0 (at_ p i).f1 (at_ p i).f2 (at_ p i).f3) else (impl_ParticleOk.j1 k p x3 x4 (i : Int) p (p.length : Int) (i : Int) true (at_ p i).f0 (at_ p i).f1 (at_ p i).f2 (at_ p i).f3)) (fun k => ?_) ?_
    · conv => lhs; unfold impl_ParticleOk.l0
      rw [if_pos (by omega), if_pos (by omega), if_pos (by omega), e, in_ok]
      rfl
    · refine Ev.bind (impl_fits _ hsm.1) ?_
      have hno : Ev (fun k => impl_ParticleOk.j1 k p x3 x4 (i : Int) p (p.length : Int) (i : Int) true (at_ p i).f0 (at_ p i).f1 (at_ p i).f2 (at_ p i).f3) false := by
        refine Ev.step (f := fun _ => some false) (fun k => ?_) (Ev.now _)
        conv => lhs; unfold impl_ParticleOk.j1
        rw [if_pos rfl]
      rw [show okN (at_ p i) = (fitsN (at_ p i) && decide (0 ≤ (at_ p i).f3 ∧ (at_ p i).f3 ≤ 3)) from rfl, Bool.and_assoc]
      cases fitsN (at_ p i) with
      | false => simpa using hno
      | true =>
        simp only [if_true, Bool.true_and]
        cases decide (0 ≤ (at_ p i).f3 ∧ (at_ p i).f3 ≤ 3) with
        | false => simpa using hno
        | true =>
          simp only [Bool.not_true, Bool.true_and]
          have hA2 := hA.set_ (i : Int) (rd x4 (i : Int))
          have hset : x4.set i (rd x4 (i : Int)) = x4 := by
            unfold rd
            rw [Int.toNat_natCast, List.getD_eq_getElem?_getD, List.getElem?_eq_getElem (by rw [hA.l4]; exact hil)]
            exact List.set_getElem_self _
          rw [hset] at hA2
          have key := impl_kids hil hp hs ((tf p i).isSome && ((List.range' (i + 1) m).all fun j => okN (at_ p j) && (tf p j).isSome) && finV p) (at_ p i).f2.length (x3.set i (i : Int)) x4 i 0 (Nat.le_refl _) hA2 (rd_set (by rw [hA.l3]; exact hil) _) (by rw [hz hil]; rfl) (Nat.le_refl _) (Nat.zero_le _)
            (fun f x3' x4' h1 h2 h3 h4 => by
              rw [List.take_length, ← tf_eq] at h1
              rw [List.take_length] at h4
              rw [h1, Option.isSome_some, Bool.true_and]
              have := ih (i + 1) x3' x4' (by omega) ⟨h2.l3, h2.l4, fun j hj => by
                by_cases c : j < i
                · exact h2.lo j c
                · obtain rfl : j = i := by omega
                  exact ⟨f, h1, h3, by rw [h4, dpS_rev, dp_eq h1]⟩, fun j hj => h2.hi j (by omega)⟩ (fun _ => h2.hi (i + 1) (by omega))
              rw [show wrap64 ((i : Int) + 1) = ((i + 1 : Nat) : Int) by rw [w64] <;> omega]
              exact this)
            (fun hn => by rw [List.take_length, ← tf_eq] at hn; rw [hn]; rfl)
          refine Ev.step (fun k => ?_) (Bool.and_assoc _ _ _ ▸ key)
          conv => lhs; unfold impl_ParticleOk.j1
          rw [if_neg (by decide), if_pos (by omega), if_pos (by rw [hA.l3]; omega), Int.toNat_natCast, w64 (n := ((at_ p i).f2.length : Int) - 1) (by omega) (by omega)]
theorem impl_ok (p : List PM) (hs : smallM p) : Ev (fun k => impl_ParticleOk.f k p) (okV p) := by
  unfold impl_ParticleOk.f okV
  by_cases c : 1 ≤ p.length ∧ p.length ≤ 40
  · have hin : impl_in.f (p.length : Int) 1 40 = some true := by
      unfold impl_in.f
      rw [if_pos (by omega), decide_eq_true (by omega)]
    rw [hin, decide_eq_true c, Bool.true_and]
    simp only [Option.bind_some, if_true]
    refine Ev.congr (f := fun k => impl_ParticleOk.l0 k p (List.replicate p.length 0) (List.replicate p.length 0) p (p.length : Int) 0) (fun k => ?_) ?_
    · rw [if_pos (by omega), if_pos (by omega), Int.toNat_natCast]
    · have hrep : ∀ j : Nat, rd (List.replicate p.length (0 : Int)) (j : Int) = 0 := by
        intro j
        unfold rd
        rw [Int.toNat_natCast, List.getD_eq_getElem?_getD, List.getElem?_replicate]
        split <;> rfl
      have := impl_nodes c.1 c.2 hs p.length 0 (List.replicate p.length 0) (List.replicate p.length 0) (by omega) ⟨by simp, by simp, fun j hj => by omega, fun j _ => hrep j⟩ (fun _ => hrep 0)
      rw [← List.range_eq_range'] at this
      unfold finV at this
      rw [← Bool.and_assoc, ← Bool.and_assoc] at this
      exact this
  · have hin : impl_in.f (p.length : Int) 1 40 = some false := by
      unfold impl_in.f
      by_cases h : (1 : Int) ≤ p.length
      · rw [if_pos h, decide_eq_false (by omega)]
      · rw [if_neg h]
    rw [hin, decide_eq_false c]
    simp only [Option.bind_some, Bool.false_and]
    exact Ev.congr (f := fun _ => some false) (fun _ => by simp) (Ev.now _)
def tv : Option Nat → Int
  | none => -1
  | some f => f
theorem spec_tree {p : List PM} (hp : p.length ≤ 40) (hs : smallM p) : ∀ j, j < p.length → Ev (fun k => spec_l8Tree.f k p (j : Int)) (tv (tf p j)) := by
  intro j
  induction j using Nat.strongRecOn with
  | _ j ih =>
  intro hj
  have e : rd_T49 p (j : Int) = at_ p j := rfl
  have hkl : (at_ p j).f2.length ≤ 1048576 := by
    have := (hs p[j] (List.getElem_mem hj)).2
    rwa [← at_lt hj] at this
  have loop : ∀ (m e : Nat), m ≤ (at_ p j).f2.length → e ≤ j → Ev (fun k => spec_l8Tree.l0 k p (j : Int) ((e : Int) - 1) ((m : Int) - 1)) (tv (chF (tf p) e ((at_ p j).f2.take m).reverse)) := by
    intro m
    induction m with
    | zero =>
      intro e hm he
      refine Ev.step (f := fun _ => some (e : Int)) (fun k => ?_) (Ev.now _)
      conv => lhs; unfold spec_l8Tree.l0
      rw [if_neg (by omega), w64 (by omega) (by omega)]
      congr 1
      omega
    | succ m ihm =>
      intro e' hm he
      have hlt : m < (at_ p j).f2.length := by omega
      have ht : ((at_ p j).f2.take (m + 1)).reverse = (at_ p j).f2[m] :: ((at_ p j).f2.take m).reverse := by
        rw [List.take_succ_eq_append_getElem hlt, List.reverse_append]; rfl
      rw [ht]
      have hrd := rdZ (at_ p j).f2 m hlt
      have e7 : ((m + 1 : Nat) : Int) - 1 = (m : Int) := by omega
      rw [e7]
      have hch : ∀ ks, chF (tf p) e' ((at_ p j).f2[m] :: ks) = if 0 < e' ∧ (at_ p j).f2[m] = (e' : Int) - 1 then (tf p (e' - 1)).bind fun f => chF (tf p) f ks else none := fun _ => rfl
      rw [hch]
      have hno : Ev (fun k => spec_l8Tree.j1 k p (j : Int) ((e' : Int) - 1) (m : Int) true) (-1) := by
        refine Ev.step (f := fun _ => some (-1)) (fun k => ?_) (Ev.now _)
        conv => lhs; unfold spec_l8Tree.j1
        rw [if_pos rfl]
      by_cases c0 : 0 < e'
      · by_cases c1 : (at_ p j).f2[m] = (e' : Int) - 1
        · rw [if_pos ⟨c0, c1⟩]
          have hE := ih (e' - 1) (by omega) (by omega)
          have hee : ((e' - 1 : Nat) : Int) = (e' : Int) - 1 := by omega
          rw [hee] at hE
          refine Ev.step (f := fun k => spec_l8Tree.j1 k p (j : Int) ((e' : Int) - 1) (m : Int) false) (fun k => ?_) ?_
          · conv => lhs; unfold spec_l8Tree.l0
            rw [if_pos (by omega), if_neg (by omega), if_pos (by omega), if_pos (by omega), if_pos (by omega), e, if_pos (by omega), hrd, c1]
            simp
          · refine Ev.step (f := fun k => (spec_l8Tree.f k p ((e' : Int) - 1)).bind fun t => (if t < 0 then (some (-1)) else (spec_l8Tree.l0 k p (j : Int) (wrap64 (t - 1)) (wrap64 ((m : Int) - 1))))) (fun k => ?_) ?_
            · conv => lhs; unfold spec_l8Tree.j1
              rw [if_neg (by decide)]
            · refine Ev.bind hE ?_
              cases hf : tf p (e' - 1) with
              | none =>
                refine Ev.congr (f := fun _ => some (-1)) (fun k => ?_) (Ev.now _)
                rw [if_pos (by decide : tv none < 0)]
              | some f =>
                have hfl := tf_le _ _ hf
                refine Ev.congr (f := fun k => spec_l8Tree.l0 k p (j : Int) ((f : Int) - 1) ((m : Int) - 1)) (fun k => ?_) (ihm f (by omega) (by omega))
                have htv : tv (some f) = (f : Int) := rfl
                rw [htv, if_neg (by omega)]
                rw [w64 (by omega) (by omega), w64 (by omega) (by omega)]
        · rw [if_neg (fun h => c1 h.2)]
          refine Ev.step (f := fun k => spec_l8Tree.j1 k p (j : Int) ((e' : Int) - 1) (m : Int) true) (fun k => ?_) hno
          conv => lhs; unfold spec_l8Tree.l0
          rw [if_pos (by omega), if_neg (by omega), if_pos (by omega), if_pos (by omega), if_pos (by omega), e, if_pos (by omega), hrd]
          rw [bne_iff_ne.2 c1]
      · rw [if_neg (fun h => c0 h.1)]
        refine Ev.step (f := fun k => spec_l8Tree.j1 k p (j : Int) ((e' : Int) - 1) (m : Int) true) (fun k => ?_) hno
        conv => lhs; unfold spec_l8Tree.l0
        rw [if_pos (by omega), if_pos (by omega)]
  have := loop (at_ p j).f2.length j (Nat.le_refl _) (Nat.le_refl _)
  rw [List.take_length, ← tf_eq] at this
  refine Ev.step (fun k => ?_) this
  conv => lhs; unfold spec_l8Tree.f
  rw [if_pos (by omega), if_pos (by omega), e, w64 (by omega) (by omega), w64 (by omega) (by omega)]
theorem spec_deep {p : List PM} (hp : p.length ≤ 40) (hs : smallM p) : ∀ j, j < p.length → ∀ f, tf p j = some f → Ev (fun k => spec_l8Deep.f k p (j : Int)) ((dp p j + 1 : Nat) : Int) := by
  intro j
  induction j using Nat.strongRecOn with
  | _ j ih =>
  intro hj f hf
  have e : rd_T49 p (j : Int) = at_ p j := rfl
  have hkl : (at_ p j).f2.length ≤ 1048576 := by
    have := (hs p[j] (List.getElem_mem hj)).2
    rwa [← at_lt hj] at this
  have hkids := tf_kids hf
  have loop : ∀ (m i d : Nat), i + m = (at_ p j).f2.length → d ≤ 40 → Ev (fun k => spec_l8Deep.l0 k p (j : Int) (d : Int) (i : Int)) ((dpS (dp p) d ((at_ p j).f2.drop i) + 1 : Nat) : Int) := by
    intro m
    induction m with
    | zero =>
      intro i d hi hd
      refine Ev.step (f := fun _ => some ((d + 1 : Nat) : Int)) (fun k => ?_) ?_
      · conv => lhs; unfold spec_l8Deep.l0
        rw [if_pos (by omega), if_pos (by omega), e, if_neg (by omega), w64 (by omega) (by omega)]
        rfl
      · rw [List.drop_of_length_le (by omega)]
        exact Ev.now _
    | succ m ihm =>
      intro i d hi hd
      have hlt : i < (at_ p j).f2.length := by omega
      obtain ⟨a, b, q, hq, _⟩ := hkids _ (List.getElem_mem hlt)
      have hE := ih (at_ p j).f2[i].toNat (by omega) (by omega) q hq
      have hdl := dp_le _ _ hq
      rw [show (((at_ p j).f2[i].toNat : Nat) : Int) = (at_ p j).f2[i] by omega] at hE
      have hrd := rdZ (at_ p j).f2 i hlt
      rw [List.drop_eq_getElem_cons hlt]
      refine Ev.step (f := fun k => (spec_l8Deep.f k p (at_ p j).f2[i]).bind fun t => spec_l8Deep.l0 k p (j : Int) (mx (d : Int) t) (wrap64 ((i : Int) + 1))) (fun k => ?_) (Ev.bind hE ?_)
      · conv => lhs; unfold spec_l8Deep.l0
        rw [if_pos (by omega), if_pos (by omega), e, if_pos (by omega), if_pos (by omega), hrd]
      · have emx : mx (d : Int) ((dp p (at_ p j).f2[i].toNat + 1 : Nat) : Int) = ((max d (dp p (at_ p j).f2[i].toNat + 1) : Nat) : Int) := by
          unfold mx
          split <;> omega
        rw [emx, w1n hlt (by omega)]
        exact ihm (i + 1) _ (by omega) (by omega)
  have := loop (at_ p j).f2.length 0 0 (by omega) (by omega)
  rw [List.drop_zero, ← dp_eq hf] at this
  refine Ev.step (fun k => ?_) this
  conv => lhs; unfold spec_l8Deep.f
  rfl
def kidsIn (p : List PM) (i : Nat) : Bool := (at_ p i).f2.all fun k => decide (0 ≤ k ∧ k < (i : Int))
theorem lin_ok (x a b : Int) : spec_l1In.f x a b = some (decide (a ≤ x ∧ x ≤ b)) := by
  unfold spec_l1In.f
  by_cases h : x ≥ a
  · rw [if_pos h]; congr 1; exact decide_eq_decide.2 (by omega)
  · rw [if_neg h, decide_eq_false (by omega)]
theorem spec_nodes {p : List PM} (h1 : 1 ≤ p.length) (hp : p.length ≤ 40) (hs : smallM p) : ∀ (m i : Nat), i + m = p.length →
    Ev (fun k => spec_ParticleOk.l0 k p (i : Int)) (((List.range' i m).all fun j => okN (at_ p j) && kidsIn p j) && finV p) := by
  intro m
  induction m with
  | zero =>
    intro i hi
    have hw : wrap64 ((p.length : Int) - 1) = ((p.length - 1 : Nat) : Int) := by rw [w64] <;> omega
    have ht := spec_tree hp hs (p.length - 1) (by omega)
    have e : rd_T49 p ((p.length - 1 : Nat) : Int) = at_ p (p.length - 1) := rfl
    rw [List.range'_zero, List.all_nil, Bool.true_and]
    unfold finV
    refine Ev.step (f := fun k => (spec_l8Tree.f k p ((p.length - 1 : Nat) : Int)).bind fun t117 => (if t117 = 0 then (if (at_ p (p.length - 1)).f0 = 1 then some false else if (at_ p (p.length - 1)).f0 = 4 then some false else (spec_l8Deep.f k p ((p.length - 1 : Nat) : Int)).bind fun t120 => some (decide (t120 ≤ 10))) else some false)) (fun k => ?_) (Ev.bind ht ?_)
    · conv => lhs; unfold spec_ParticleOk.l0
      rw [if_neg (by omega), hw, if_pos (by omega), if_pos (by omega), e]
    · cases hf : tf p (p.length - 1) with
      | none =>
        refine Ev.congr (f := fun _ => some false) (fun k => ?_) (Ev.now _)
        rw [if_neg (by decide : ¬ tv none = 0)]
      | some f =>
        have htv : tv (some f) = (f : Int) := rfl
        rw [htv]
        by_cases c : (f : Int) = 0
        · obtain rfl : f = 0 := by omega
          simp only [if_pos c, beq_self_eq_true, Bool.true_and]
          unfold posN
          by_cases c1 : (at_ p (p.length - 1)).f0 = 1
          · simp only [if_pos c1]
            rw [c1]
            exact Ev.now _
          · by_cases c4 : (at_ p (p.length - 1)).f0 = 4
            · simp only [if_neg c1, if_pos c4]
              rw [c4]
              exact Ev.now _
            · simp only [if_neg c1, if_neg c4]
              rw [beq_eq_false_iff_ne.2 c1, beq_eq_false_iff_ne.2 c4]
              refine Ev.bind (spec_deep hp hs _ (by omega) _ hf) ?_
              have hd : decide ((((dp p (p.length - 1) + 1 : Nat) : Int)) ≤ 10) = (!(false || false) && decide (dp p (p.length - 1) ≤ 9)) := by
                simp only [Bool.or_false, Bool.not_false, Bool.true_and]
                exact decide_eq_decide.2 (by omega)
              rw [hd]
              exact Ev.now _
        · have h0 : (some f == some 0) = false := beq_eq_false_iff_ne.2 (fun h => c (by injection h with h; omega))
          rw [h0]
          simp only [if_neg c, Bool.false_and]
          exact Ev.now _
  | succ m ih =>
    intro i hi
    have hil : i < p.length := by omega
    have e : rd_T49 p (i : Int) = at_ p i := rfl
    have hsm := hs p[i] (List.getElem_mem hil)
    rw [← at_lt hil] at hsm
    rw [List.range'_succ, List.all_cons]
    have kloop : ∀ (q j : Nat), j + q = (at_ p i).f2.length → Ev (fun k => spec_ParticleOk.l1 k p (i : Int) (j : Int) (at_ p i).f0 (at_ p i).f1 (at_ p i).f2 (at_ p i).f3) (((at_ p i).f2.drop j).all (fun k => decide (0 ≤ k ∧ k < (i : Int))) && (((List.range' (i + 1) m).all fun j => okN (at_ p j) && kidsIn p j) && finV p)) := by
      intro q
      induction q with
      | zero =>
        intro j hj
        rw [List.drop_of_length_le (by omega), List.all_nil, Bool.true_and]
        refine Ev.step (fun k => ?_) (ih (i + 1) (by omega))
        conv => lhs; unfold spec_ParticleOk.l1
        rw [if_neg (by omega), w1n hil (by omega)]
      | succ q ihq =>
        intro j hj
        have hlt : j < (at_ p i).f2.length := by omega
        have hrd := rdZ (at_ p i).f2 j hlt
        rw [List.drop_eq_getElem_cons hlt, List.all_cons]
        have hl : (decide (0 ≤ (at_ p i).f2[j] ∧ (at_ p i).f2[j] ≤ wrap64 ((i : Int) - 1))) = decide (0 ≤ (at_ p i).f2[j] ∧ (at_ p i).f2[j] < (i : Int)) := by
          rw [w64 (by omega) (by omega)]
          exact decide_eq_decide.2 (by omega)
        by_cases c : 0 ≤ (at_ p i).f2[j] ∧ (at_ p i).f2[j] < (i : Int)
        · rw [decide_eq_true c, Bool.true_and]
          refine Ev.step (fun k => ?_) (ihq (j + 1) (by omega))
          conv => lhs; unfold spec_ParticleOk.l1
          rw [if_pos (by omega), if_pos (by omega), hrd, lin_ok, hl, decide_eq_true c]
          simp only [Option.bind_some, if_true]
          rw [w1n hlt (by omega)]
        · rw [decide_eq_false c, Bool.false_and, Bool.false_and]
          refine Ev.step (f := fun _ => some false) (fun k => ?_) (Ev.now _)
          conv => lhs; unfold spec_ParticleOk.l1
          rw [if_pos (by omega), if_pos (by omega), hrd, lin_ok, hl, decide_eq_false c]
          rfl
    have hgo : Ev (fun k => spec_ParticleOk.j2 k p (i : Int) (at_ p i).f0 (at_ p i).f1 (at_ p i).f2 (at_ p i).f3) (kidsIn p i && (((List.range' (i + 1) m).all fun j => okN (at_ p j) && kidsIn p j) && finV p)) := by
      refine Ev.step (fun k => ?_) (kloop _ 0 (Nat.zero_add _))
      conv => lhs; unfold spec_ParticleOk.j2
      rfl
    have hq : (((okN (at_ p i) && kidsIn p i) && ((List.range' (i + 1) m).all fun j => okN (at_ p j) && kidsIn p j)) && finV p) = (okN (at_ p i) && (kidsIn p i && (((List.range' (i + 1) m).all fun j => okN (at_ p j) && kidsIn p j) && finV p))) := by
      simp only [Bool.and_assoc]
    rw [hq]
    generalize (kidsIn p i && (((List.range' (i + 1) m).all fun j => okN (at_ p j) && kidsIn p j) && finV p)) = R at hgo
    clear kloop hq ih
    have hz : decide ((((at_ p i).f2.length : Nat) : Int) > 0) = !(at_ p i).f2.isEmpty := by
      cases (at_ p i).f2 with
      | nil => rfl
      | cons x l => simp
    unfold okN fitsN
    by_cases c3 : 0 ≤ (at_ p i).f3 ∧ (at_ p i).f3 ≤ 3
    · rw [decide_eq_true c3, Bool.and_true]
      by_cases k1 : (at_ p i).f0 = 1
      · rw [if_pos k1]
        refine Ev.step (f := fun k => (spec_NameOk.f k (at_ p i).f1).bind fun t124 => (if t124 = true then (if (((at_ p i).f2).length : Int) > 0 then (some false) else (spec_ParticleOk.j2 k p (i : Int) (at_ p i).f0 (at_ p i).f1 (at_ p i).f2 (at_ p i).f3)) else (some false))) (fun k => ?_) (Ev.bind (spec_name _) ?_)
        · conv => lhs; unfold spec_ParticleOk.l0
          rw [if_pos (by omega), if_pos (by omega), e, lin_ok, decide_eq_true c3]
          simp only [Option.bind_some, if_true, if_pos k1]
        · cases nameB (at_ p i).f1.data.toList with
          | false => exact Ev.now _
          | true =>
            simp only [if_true, Bool.true_and]
            cases hE : (at_ p i).f2.isEmpty with
            | true =>
              rw [Bool.true_and]
              refine Ev.congr (fun k => ?_) hgo
              rw [if_neg (by rw [hE] at hz; simpa using hz)]
            | false =>
              refine Ev.congr (f := fun _ => some false) (fun k => ?_) (Ev.now _)
              rw [if_pos (by rw [hE] at hz; simpa using hz)]
      · rw [if_neg k1]
        by_cases k4 : (at_ p i).f0 = 4
        · rw [if_pos k4]
          cases hT : (at_ p i).f1.data.toList.isEmpty with
          | false =>
            refine Ev.step (f := fun _ => some false) (fun k => ?_) (Ev.now _)
            conv => lhs; unfold spec_ParticleOk.l0
            rw [if_pos (by omega), if_pos (by omega), e, lin_ok, decide_eq_true c3]
            simp only [Option.bind_some, if_true, if_neg k1, if_pos k4]
            rw [if_neg (fun h => by rw [(emp_iff _).1 h] at hT; cases hT)]
          | true =>
            rw [Bool.true_and]
            cases hE : (at_ p i).f2.isEmpty with
            | true =>
              rw [Bool.true_and]
              refine Ev.step (fun k => ?_) hgo
              conv => lhs; unfold spec_ParticleOk.l0
              rw [if_pos (by omega), if_pos (by omega), e, lin_ok, decide_eq_true c3]
              simp only [Option.bind_some, if_true, if_neg k1, if_pos k4]
              rw [if_pos ((emp_iff _).2 hT), if_neg (by rw [hE] at hz; simpa using hz)]
            | false =>
              refine Ev.step (f := fun _ => some false) (fun k => ?_) (Ev.now _)
              conv => lhs; unfold spec_ParticleOk.l0
              rw [if_pos (by omega), if_pos (by omega), e, lin_ok, decide_eq_true c3]
              simp only [Option.bind_some, if_true, if_neg k1, if_pos k4]
              rw [if_pos ((emp_iff _).2 hT), if_pos (by rw [hE] at hz; simpa using hz)]
        · rw [if_neg k4]
          by_cases k2 : (at_ p i).f0 = 2
          · rw [if_pos k2]
            cases hT : (at_ p i).f1.data.toList.isEmpty with
            | false =>
              refine Ev.step (f := fun _ => some false) (fun k => ?_) (Ev.now _)
              conv => lhs; unfold spec_ParticleOk.l0
              rw [if_pos (by omega), if_pos (by omega), e, lin_ok, decide_eq_true c3]
              simp only [Option.bind_some, if_true, if_neg k1, if_neg k4, if_pos k2]
              rw [if_neg (fun h => by rw [(emp_iff _).1 h] at hT; cases hT)]
            | true =>
              rw [Bool.true_and]
              refine Ev.step (fun k => ?_) hgo
              conv => lhs; unfold spec_ParticleOk.l0
              rw [if_pos (by omega), if_pos (by omega), e, lin_ok, decide_eq_true c3]
              simp only [Option.bind_some, if_true, if_neg k1, if_neg k4, if_pos k2]
              rw [if_pos ((emp_iff _).2 hT)]
          · rw [if_neg k2]
            by_cases k3 : (at_ p i).f0 = 3
            · rw [if_pos k3]
              cases hT : (at_ p i).f1.data.toList.isEmpty with
              | false =>
                refine Ev.step (f := fun _ => some false) (fun k => ?_) (Ev.now _)
                conv => lhs; unfold spec_ParticleOk.l0
                rw [if_pos (by omega), if_pos (by omega), e, lin_ok, decide_eq_true c3]
                simp only [Option.bind_some, if_true, if_neg k1, if_neg k4, if_neg k2, if_pos k3]
                rw [if_neg (fun h => by rw [(emp_iff _).1 h] at hT; cases hT)]
              | true =>
                rw [Bool.true_and]
                by_cases c2 : 2 ≤ (at_ p i).f2.length
                · rw [decide_eq_true c2, Bool.true_and]
                  refine Ev.step (fun k => ?_) hgo
                  conv => lhs; unfold spec_ParticleOk.l0
                  rw [if_pos (by omega), if_pos (by omega), e, lin_ok, decide_eq_true c3]
                  simp only [Option.bind_some, if_true, if_neg k1, if_neg k4, if_neg k2, if_pos k3]
                  rw [if_pos ((emp_iff _).2 hT), if_neg (by omega)]
                · rw [decide_eq_false c2, Bool.false_and]
                  refine Ev.step (f := fun _ => some false) (fun k => ?_) (Ev.now _)
                  conv => lhs; unfold spec_ParticleOk.l0
                  rw [if_pos (by omega), if_pos (by omega), e, lin_ok, decide_eq_true c3]
                  simp only [Option.bind_some, if_true, if_neg k1, if_neg k4, if_neg k2, if_pos k3]
                  rw [if_pos ((emp_iff _).2 hT), if_pos (by omega)]
            · rw [if_neg k3, Bool.false_and]
              refine Ev.step (f := fun _ => some false) (fun k => ?_) (Ev.now _)
              conv => lhs; unfold spec_ParticleOk.l0
              rw [if_pos (by omega), if_pos (by omega), e, lin_ok, decide_eq_true c3]
              simp only [Option.bind_some, if_true, if_neg k1, if_neg k4, if_neg k2, if_neg k3]
    · rw [decide_eq_false c3, Bool.and_false, Bool.false_and]
      refine Ev.step (f := fun _ => some false) (fun k => ?_) (Ev.now _)
      conv => lhs; unfold spec_ParticleOk.l0
      rw [if_pos (by omega), if_pos (by omega), e, lin_ok, decide_eq_false c3]
      rfl
theorem all_both (p : List PM) (h : tf p (p.length - 1) = some 0) : ((List.range p.length).all fun j => okN (at_ p j) && kidsIn p j) = ((List.range p.length).all fun j => okN (at_ p j) && (tf p j).isSome) := by
  apply Bool.eq_iff_iff.2
  rw [List.all_eq_true, List.all_eq_true]
  have hsome : ∀ j ∈ List.range p.length, (tf p j).isSome = true ∧ kidsIn p j = true := by
    intro j hj
    have hj := List.mem_range.1 hj
    have h1 := tf_cover _ _ h j (Nat.zero_le _) (by omega)
    refine ⟨h1, ?_⟩
    obtain ⟨f, hf⟩ := Option.isSome_iff_exists.1 h1
    unfold kidsIn
    rw [List.all_eq_true]
    intro k hk
    have := tf_kids hf k hk
    exact decide_eq_true ⟨this.1, this.2.1⟩
  constructor
  · intro h j hj
    have := h j hj
    rw [(hsome j hj).2] at this
    rw [(hsome j hj).1]
    exact this
  · intro h j hj
    have := h j hj
    rw [(hsome j hj).1] at this
    rw [(hsome j hj).2]
    exact this
theorem spec_ok (p : List PM) (hs : smallM p) : Ev (fun k => spec_ParticleOk.f k p) (okV p) := by
  unfold spec_ParticleOk.f okV
  have hno : Ev (fun k => spec_ParticleOk.j0 k p true) false := by
    refine Ev.step (f := fun _ => some false) (fun k => ?_) (Ev.now _)
    show (if true = true then some false else spec_ParticleOk.l0 k p 0) = some false
    rw [if_pos rfl]
  by_cases c : 1 ≤ p.length ∧ p.length ≤ 40
  · rw [decide_eq_true c, Bool.true_and]
    have hn := spec_nodes c.1 c.2 hs p.length 0 (Nat.zero_add _)
    rw [← List.range_eq_range'] at hn
    have hR : (((List.range p.length).all fun j => okN (at_ p j) && kidsIn p j) && finV p) = (((List.range p.length).all fun i => okN (at_ p i) && (tf p i).isSome) && (tf p (p.length - 1) == some 0) && !posN (at_ p (p.length - 1)) && decide (dp p (p.length - 1) ≤ 9)) := by
      unfold finV
      by_cases ht : tf p (p.length - 1) = some 0
      · rw [all_both p ht]
        simp only [Bool.and_assoc]
      · rw [beq_eq_false_iff_ne.2 ht]
        simp
    rw [hR] at hn
    refine Ev.congr (f := fun k => spec_ParticleOk.j0 k p false) (fun k => ?_) (Ev.step (fun k => ?_) hn)
    · rw [if_neg (by omega), decide_eq_false (by omega)]
    · show (if false = true then some false else spec_ParticleOk.l0 k p 0) = _
      rw [if_neg (by decide)]
      rfl
  · rw [decide_eq_false c]
    simp only [Bool.false_and]
    refine Ev.congr (f := fun k => spec_ParticleOk.j0 k p true) (fun k => ?_) hno
    by_cases h : (p.length : Int) < 1
    · rw [if_pos h]
    · rw [if_neg h, decide_eq_true (by omega)]
end Go.Proofs.Ytkflnbmmjnjgkaa.Pure

namespace Go.Proofs.Ytkflnbmmjnjgkaa.Pure
open Go.RowKit Go.Proofs.Ytkflnbmmjnjgkaa.L Go.Proofs.YtkflnbmmjnjgkaaW.PrintWords Go.Proofs.YtkflnbmmjnjgkaaW.PrintLast Go.Proofs.YtkflnbmmjnjgkaaW.PrintMore
open MT
set_option linter.unusedVariables false
set_option linter.unusedSimpArgs false

def mdN (n : PM) : Nd := ⟨n.f0, n.f1, n.f2.map Int.toNat, n.f3⟩
def md (p : List PM) : Md := p.map mdN
def loT (p : List PM) (j : Nat) : Nat := (tf p j).getD 0
def ints (l : List Nat) : List Int := l.map fun n : Nat => (n : Int)
theorem nd_md {p : List PM} {i : Nat} (h : i < p.length) : nd (md p) i = mdN (at_ p i) := by
  unfold nd md
  rw [at_lt h]
  simp [h]
theorem md_len (p : List PM) : (md p).length = p.length := List.length_map _
theorem chF_chain {g : Nat → Option Nat} : ∀ (ks : List Int) (e f : Nat), chF g e ks.reverse = some f → Chain (fun j => (g j).getD 0) e (ks.map Int.toNat) f
  | [], e, f, h => (Option.some.inj h).symm
  | k :: ks, e, f, h => by
    rw [List.reverse_cons, chF_app] at h
    obtain ⟨m, h1, h2⟩ := Option.bind_eq_some_iff.1 h
    refine ⟨m, chF_chain ks e m h1, ?_⟩
    unfold chF at h2
    by_cases c : 0 < m ∧ k = (m : Int) - 1
    · rw [if_pos c] at h2
      obtain ⟨f1, h3, h4⟩ := Option.bind_eq_some_iff.1 h2
      have h5 : f1 = f := Option.some.inj h4
      refine ⟨by omega, ?_⟩
      show f = (g k.toNat).getD 0
      rw [show k.toNat = m - 1 by omega, h3, h5]
      rfl
    · rw [if_neg c] at h2; cases h2
structure OkP (p : List PM) : Prop where
  one : 1 ≤ p.length
  most : p.length ≤ 40
  ok : ∀ i, i < p.length → okN (at_ p i) = true
  tree : ∀ i, i < p.length → (tf p i).isSome = true
  root : tf p (p.length - 1) = some 0
  deep : dp p (p.length - 1) ≤ 9
  comp : posN (at_ p (p.length - 1)) = false
theorem okP {p : List PM} (h : okV p = true) : OkP p := by
  unfold okV at h
  simp only [Bool.and_eq_true, decide_eq_true_eq, List.all_eq_true, List.mem_range, Bool.not_eq_true', beq_iff_eq] at h
  obtain ⟨⟨⟨⟨⟨a, b⟩, c⟩, d⟩, e⟩, f⟩ := h
  exact ⟨a, b, fun i hi => (c i hi).1, fun i hi => (c i hi).2, d, f, e⟩
section
variable {p : List PM} (K : OkP p)
include K
theorem OkP.kinds {i : Nat} (hi : i < p.length) : (posB (at_ p i) = true ∧ (at_ p i).f2 = []) ∨ ((at_ p i).f0 = 2) ∨ ((at_ p i).f0 = 3 ∧ 2 ≤ (at_ p i).f2.length) := by
  have h := K.ok i hi
  unfold okN fitsN at h
  unfold posB
  by_cases k1 : (at_ p i).f0 = 1
  · rw [if_pos k1] at h
    simp only [Bool.and_eq_true, List.isEmpty_iff] at h
    exact .inl ⟨by rw [k1]; rfl, h.1.2⟩
  · by_cases k4 : (at_ p i).f0 = 4
    · rw [if_neg k1, if_pos k4] at h
      simp only [Bool.and_eq_true, List.isEmpty_iff] at h
      exact .inl ⟨by rw [k4]; rfl, h.1.2⟩
    · by_cases k2 : (at_ p i).f0 = 2
      · exact .inr (.inl k2)
      · by_cases k3 : (at_ p i).f0 = 3
        · rw [if_neg k1, if_neg k4, if_neg k2, if_pos k3] at h
          simp only [Bool.and_eq_true, decide_eq_true_eq] at h
          exact .inr (.inr ⟨k3, h.1.2⟩)
        · rw [if_neg k1, if_neg k4, if_neg k2, if_neg k3] at h
          simp at h
theorem OkP.tr : Tree (md p) (loT p) := by
  constructor
  · intro i hi
    rw [md_len] at hi
    rw [nd_md hi]
    obtain ⟨f, hf⟩ := Option.isSome_iff_exists.1 (K.tree i hi)
    have : loT p i = f := by unfold loT; rw [hf]; rfl
    rw [this]
    rw [tf_eq] at hf
    exact chF_chain _ _ _ hf
  · intro i hi
    rw [md_len] at hi
    rw [nd_md hi]
    rcases K.kinds hi with ⟨a, b⟩ | a | ⟨a, b⟩
    · exact .inl ⟨a, by show (at_ p i).f2.map Int.toNat = []; rw [b]; rfl⟩
    · exact .inr (.inl a)
    · exact .inr (.inr ⟨a, by show 2 ≤ ((at_ p i).f2.map Int.toNat).length; rw [List.length_map]; exact b⟩)
theorem OkP.f2 {i : Nat} (hi : i < p.length) : (at_ p i).f2 = ints (nd (md p) i).kids := by
  rw [nd_md hi]
  obtain ⟨f, hf⟩ := Option.isSome_iff_exists.1 (K.tree i hi)
  have h := tf_kids hf
  show _ = ints ((at_ p i).f2.map Int.toNat)
  unfold ints
  rw [List.map_map]
  generalize (at_ p i).f2 = ks at h
  clear K
  induction ks with
  | nil => rfl
  | cons k ks ih =>
    have := h k (by simp)
    rw [List.map_cons, ← ih (fun k' hk' => h k' (by simp [hk']))]
    congr 1
    show k = ((k.toNat : Nat) : Int)
    omega
end
theorem ints_app (a b : List Nat) : ints (a ++ b) = ints a ++ ints b := List.map_append
theorem ints_len (a : List Nat) : (ints a).length = a.length := List.length_map _
theorem mem_ints {a : List Nat} {x : Int} : x ∈ ints a ↔ ∃ b : Nat, x = (b : Int) ∧ b ∈ a := by
  unfold ints
  rw [List.mem_map]
  constructor
  · rintro ⟨b, h, rfl⟩; exact ⟨b, rfl, h⟩
  · rintro ⟨b, rfl, h⟩; exact ⟨b, h, rfl⟩
/-- How many positions a chain of trees has. -/
theorem flat_len {lo : Nat → Nat} {F : Nat → List Nat} : ∀ {ks : List Nat} {e b : Nat}, Chain lo e ks b → (∀ k, k < e → lo k ≤ k) → (∀ k ∈ ks, (F k).length ≤ k + 1 - lo k) → (ks.flatMap F).length + b ≤ e
  | [], e, b, hc, _, _ => by
    have : b = e := hc
    simp [this]
  | k :: ks, e, b, hc, hl, h => by
    obtain ⟨m, h1, h2, h3⟩ := hc
    have a := flat_len h1 hl (fun k' hk' => h k' (by simp [hk']))
    have c := h k (by simp)
    have d := (Chain.facts hl h1).1
    have g := hl k (by omega)
    rw [List.flatMap_cons, List.length_append]
    omega
section
variable {q : Md} {lo : Nat → Nat} (T : Tree q lo)
include T
theorem edge_len (E : Md → Nat → List Nat) (hE : E = fst ∨ E = lst) : ∀ i, i < q.length → (E q i).length ≤ i + 1 - lo i := by
  intro i
  induction i using Nat.strongRecOn with
  | _ i ih =>
  intro hi
  have key := flat_len (F := E q) (T.chain i hi) (fun k hk => T.le k (by omega)) (fun k hk => ih k (T.kid hi hk).2 (by have := (T.kid hi hk).2; omega))
  have hle := T.le i hi
  rcases hE with rfl | rfl
  · rw [fst_eq T.ahead hi]
    split
    · simp; omega
    · split
      · omega
      · have := (pre_sub (N := nul q) (F := fst q) (nd q i).kids).length_le
        omega
  · rw [lst_eq T.ahead hi]
    split
    · simp; omega
    · split
      · omega
      · have := (suf_sub (N := nul q) (L := lst q) (nd q i).kids []).length_le
        simp only [List.nil_append] at this
        omega
theorem kids_len (E : Md → Nat → List Nat) (hE : E = fst ∨ E = lst) {i : Nat} (hi : i < q.length) {us vs : List Nat} (h : (nd q i).kids = us ++ vs) : (us.flatMap (E q)).length ≤ i := by
  have key := flat_len (F := E q) (T.chain i hi) (fun k hk => T.le k (by omega)) (fun k hk => edge_len T E hE k (by have := (T.kid hi hk).2; omega))
  rw [h, List.flatMap_append, List.length_append] at key
  omega
end
theorem pre_snoc {N : Nat → Bool} {F : Nat → List Nat} (k : Nat) : ∀ us : List Nat, pre N F (us ++ [k]) = pre N F us ++ (if us.all N = true then F k else [])
  | [] => by simp [pre]
  | u :: us => by
    rw [List.cons_append, pre, pre, pre_snoc k us, List.all_cons]
    cases N u <;> simp
theorem suf_snoc {N : Nat → Bool} {L : Nat → List Nat} (k : Nat) : ∀ (us acc : List Nat), suf N L acc (us ++ [k]) = (if N k = true then suf N L acc us else []) ++ L k
  | [], acc => rfl
  | u :: us, acc => by
    rw [List.cons_append, suf, suf_snoc k us]
    rfl
theorem snoc_split {us : List Nat} {k : Nat} {Q : List Nat → Nat → Prop} : (∃ u k' v, us ++ [k] = u ++ k' :: v ∧ Q u k') ↔ (∃ u k' v, us = u ++ k' :: v ∧ Q u k') ∨ Q us k := by
  constructor
  · rintro ⟨u, k', v, e, h⟩
    rcases List.eq_nil_or_concat v with rfl | ⟨v', x, rfl⟩
    · right
      have := List.append_inj' e rfl
      obtain ⟨rfl, h2⟩ := this
      simp only [List.cons.injEq, and_true] at h2
      subst h2
      exact h
    · left
      rw [List.concat_eq_append, ← List.cons_append, ← List.append_assoc] at e
      have := List.append_inj' e rfl
      exact ⟨u, k', v', this.1, h⟩
  · rintro (⟨u, k', v, e, h⟩ | h)
    · exact ⟨u, k', v ++ [k], by rw [e]; simp, h⟩
    · exact ⟨us, k, [], rfl, h⟩
/-- A row of sets, told. -/
structure FolP (n : Nat) (P : Nat → Nat → Prop) (fol : List (List Int)) : Prop where
  len : fol.length = n
  mem : ∀ a, a < n → ∀ x : Int, x ∈ rdL fol a ↔ ∃ b : Nat, x = (b : Int) ∧ P a b
theorem FolP.congr {n : Nat} {P P' : Nat → Nat → Prop} {fol : List (List Int)} (h : FolP n P fol) (e : ∀ a, a < n → ∀ b, P a b ↔ P' a b) : FolP n P' fol :=
  ⟨h.len, fun a ha x => by
    rw [h.mem a ha x]
    constructor
    · rintro ⟨b, h1, h2⟩; exact ⟨b, h1, (e a ha b).1 h2⟩
    · rintro ⟨b, h1, h2⟩; exact ⟨b, h1, (e a ha b).2 h2⟩⟩
theorem rd_leadTo {fol : List (List Int)} {a q : Nat} (ha : a < fol.length) (to_ : List Int) : rdL (leadTo fol (a : Int) to_) q = if q = a then rdL fol a ++ to_ else rdL fol q := by
  unfold rdL rdOf leadTo
  simp only [Int.toNat_natCast, List.getD_eq_getElem?_getD]
  by_cases c : q = a
  · subst c
    rw [if_pos rfl, List.getElem?_set_self ha]
    rfl
  · rw [if_neg c, List.getElem?_set_ne (fun e => c e.symm)]
theorem FolP.lead {n : Nat} : ∀ {A B : List Nat} {P : Nat → Nat → Prop} {fol : List (List Int)}, FolP n P fol → (∀ a ∈ A, a < n) → FolP n (fun a b => P a b ∨ (a ∈ A ∧ b ∈ B)) (leadL fol (ints A) (ints B))
  | [], B, P, fol, h, _ => h.congr (fun a ha b => by simp)
  | c :: A, B, P, fol, h, hA => by
    have hc := hA c (by simp)
    have h1 : FolP n (fun a b => P a b ∨ (a = c ∧ b ∈ B)) (leadTo fol (c : Int) (ints B)) := by
      refine ⟨by rw [leadTo_length, h.len], fun a ha x => ?_⟩
      rw [rd_leadTo (by rw [h.len]; exact hc)]
      by_cases e : a = c
      · subst e
        rw [if_pos rfl, List.mem_append, h.mem a ha, mem_ints]
        constructor
        · rintro (⟨b, h1, h2⟩ | ⟨b, h1, h2⟩)
          · exact ⟨b, h1, .inl h2⟩
          · exact ⟨b, h1, .inr ⟨rfl, h2⟩⟩
        · rintro ⟨b, h1, h2 | h2⟩
          · exact .inl ⟨b, h1, h2⟩
          · exact .inr ⟨b, h1, h2.2⟩
      · rw [if_neg e, h.mem a ha]
        constructor
        · rintro ⟨b, h1, h2⟩; exact ⟨b, h1, .inl h2⟩
        · rintro ⟨b, h1, h2 | h2⟩
          · exact ⟨b, h1, h2⟩
          · exact absurd h2.1 e
    have h2 := FolP.lead (A := A) (B := B) h1 (fun a ha => hA a (by simp [ha]))
    refine FolP.congr (fol := leadL fol (ints (c :: A)) (ints B)) h2 (fun a ha b => ?_)
    simp only [List.mem_cons]
    constructor
    · rintro ((h | ⟨h, h'⟩) | ⟨h, h'⟩)
      · exact .inl h
      · exact .inr ⟨.inl h, h'⟩
      · exact .inr ⟨.inr h, h'⟩
    · rintro (h | ⟨h | h, h'⟩)
      · exact .inl (.inl h)
      · exact .inl (.inr ⟨h, h'⟩)
      · exact .inr ⟨h, h'⟩
/-- The net behind i nodes. -/
structure NetI (p : List PM) (i : Nat) (N : NetV) : Prop where
  nul : N.nul = (List.range i).map (nul (md p))
  fst : N.fst = (List.range i).map fun j => ints (fst (md p) j)
  lst : N.lst = (List.range i).map fun j => ints (lst (md p) j)
  fol : FolP i (fun a b => ∃ j, j < i ∧ led (md p) j a b) N.fol
theorem rd_range {α : Type} {F : Nat → α} {d : α} {i k : Nat} (h : k < i) : rdOf d ((List.range i).map F) (k : Int) = F k := by
  unfold rdOf
  simp [h]
section
variable {p : List PM} (K : OkP p) {i : Nat} (hi : i < p.length) {N : NetV} (H : NetI p i N)
include K hi H
theorem NetI.kids3 : ∀ (vs us : List Nat) (s : KS), (nd (md p) i).kids = us ++ vs → s.nu = us.any (MT.nul (md p)) → s.fi = ints (us.flatMap (MT.fst (md p))) → s.la = ints (us.flatMap (MT.lst (md p))) →
    kidsF 3 N (ints vs) s = some ⟨(nd (md p) i).kids.any (MT.nul (md p)), ints ((nd (md p) i).kids.flatMap (MT.fst (md p))), ints ((nd (md p) i).kids.flatMap (MT.lst (md p))), s.fol⟩
  | [], us, s, hk, h1, h2, h3 => by
    rw [List.append_nil] at hk
    rw [hk, ← h1, ← h2, ← h3]
    rfl
  | k :: vs, us, s, hk, h1, h2, h3 => by
    have him : i < (md p).length := by rw [md_len]; exact hi
    have hki : k < i := (K.tr.kid him (by rw [hk]; simp)).2
    have hk' : (nd (md p) i).kids = (us ++ [k]) ++ vs := by rw [hk]; simp
    have l1 := kids_len K.tr MT.fst (.inl rfl) him hk'
    have l2 := kids_len K.tr MT.lst (.inr rfl) him hk'
    rw [List.flatMap_append, List.length_append, List.flatMap_singleton] at l1 l2
    have e1 : rdL N.fst (k : Int) = ints (MT.fst (md p) k) := by rw [H.fst]; exact rd_range hki
    have e2 : rdL N.lst (k : Int) = ints (MT.lst (md p) k) := by rw [H.lst]; exact rd_range hki
    have e3 : rdOf false N.nul (k : Int) = MT.nul (md p) k := by rw [H.nul]; exact rd_range hki
    have hm := K.most
    have key := NetI.kids3 vs (us ++ [k]) ⟨s.nu || MT.nul (md p) k, s.fi ++ ints (MT.fst (md p) k), s.la ++ ints (MT.lst (md p) k), s.fol⟩ hk' (by rw [h1]; simp) (by rw [h2, List.flatMap_append, ints_app, List.flatMap_singleton]) (by rw [h3, List.flatMap_append, ints_app, List.flatMap_singleton])
    rw [← key]
    show (kidF 3 N s (k : Int)).bind (kidsF 3 N (ints vs)) = _
    have hg : (0 ≤ (k : Int) ∧ (k : Int) < N.nul.length ∧ (k : Int) < N.fst.length ∧ (k : Int) < N.lst.length) ∧ s.fi.length + (rdL N.fst (k : Int)).length < LIMK ∧ s.la.length + (rdL N.lst (k : Int)).length < LIMK := by
      rw [e1, e2, h2, h3, ints_len, ints_len, ints_len, ints_len, H.nul, H.fst, H.lst]
      simp only [List.length_map, List.length_range]
      unfold LIMK
      omega
    unfold kidF
    rw [if_pos hg, if_pos rfl, e1, e2, e3]
    rfl
theorem NetI.kids2 (P0 : Nat → Nat → Prop) : ∀ (vs us : List Nat) (s : KS), (nd (md p) i).kids = us ++ vs → s.nu = us.all (MT.nul (md p)) → s.fi = ints (pre (MT.nul (md p)) (MT.fst (md p)) us) → s.la = ints (suf (MT.nul (md p)) (MT.lst (md p)) [] us) →
    FolP (i + 1) (fun a b => P0 a b ∨ ∃ u k v, us = u ++ k :: v ∧ (a ∈ suf (MT.nul (md p)) (MT.lst (md p)) [] u ∧ b ∈ MT.fst (md p) k)) s.fol →
    ∃ fol, kidsF 2 N (ints vs) s = some ⟨(nd (md p) i).kids.all (MT.nul (md p)), ints (pre (MT.nul (md p)) (MT.fst (md p)) (nd (md p) i).kids), ints (suf (MT.nul (md p)) (MT.lst (md p)) [] (nd (md p) i).kids), fol⟩ ∧
      FolP (i + 1) (fun a b => P0 a b ∨ ∃ u k v, (nd (md p) i).kids = u ++ k :: v ∧ (a ∈ suf (MT.nul (md p)) (MT.lst (md p)) [] u ∧ b ∈ MT.fst (md p) k)) fol
  | [], us, s, hk, h1, h2, h3, h4 => by
    rw [List.append_nil] at hk
    rw [hk, ← h1, ← h2, ← h3]
    exact ⟨s.fol, rfl, h4⟩
  | k :: vs, us, s, hk, h1, h2, h3, h4 => by
    have him : i < (md p).length := by rw [md_len]; exact hi
    have hki : k < i := (K.tr.kid him (by rw [hk]; simp)).2
    have hk' : (nd (md p) i).kids = (us ++ [k]) ++ vs := by rw [hk]; simp
    have l1 := kids_len K.tr MT.fst (.inl rfl) him hk'
    have l2 := kids_len K.tr MT.lst (.inr rfl) him hk'
    rw [List.flatMap_append, List.length_append, List.flatMap_singleton] at l1 l2
    have s1 := (pre_sub (N := MT.nul (md p)) (F := MT.fst (md p)) us).length_le
    have s2 := (suf_sub (N := MT.nul (md p)) (L := MT.lst (md p)) us []).length_le
    simp only [List.nil_append] at s2
    have e1 : rdL N.fst (k : Int) = ints (MT.fst (md p) k) := by rw [H.fst]; exact rd_range hki
    have e2 : rdL N.lst (k : Int) = ints (MT.lst (md p) k) := by rw [H.lst]; exact rd_range hki
    have e3 : rdOf false N.nul (k : Int) = MT.nul (md p) k := by rw [H.nul]; exact rd_range hki
    have hm := K.most
    have hin : ∀ a ∈ suf (MT.nul (md p)) (MT.lst (md p)) [] us, a < i + 1 := by
      intro a ha
      rcases mem_suf.1 ha with ⟨h, _⟩ | ⟨x, k', y, e, _, h⟩
      · simp at h
      · have hk2 := (K.tr.kid him (k := k') (by rw [hk, e]; simp)).2
        have := edge_in K.tr MT.lst (.inr rfl) k' (by omega) a h
        omega
    obtain ⟨fol, key, hf⟩ := NetI.kids2 P0 vs (us ++ [k]) ⟨s.nu && MT.nul (md p) k, if s.nu = true then s.fi ++ ints (MT.fst (md p) k) else s.fi, (if MT.nul (md p) k = true then s.la else []) ++ ints (MT.lst (md p) k), leadL s.fol s.la (ints (MT.fst (md p) k))⟩ hk' (by rw [h1]; simp)
      (by
        rw [pre_snoc, ints_app, h1, h2]
        cases us.all (MT.nul (md p)) <;> simp [ints])
      (by
        rw [suf_snoc, ints_app, h3]
        cases MT.nul (md p) k <;> simp [ints])
      (by
        rw [h3]
        refine (h4.lead hin).congr (fun a ha b => ?_)
        rw [snoc_split, or_assoc])
    refine ⟨fol, ?_, hf⟩
    rw [← key]
    show (kidF 2 N s (k : Int)).bind (kidsF 2 N (ints vs)) = _
    have hg : (0 ≤ (k : Int) ∧ (k : Int) < N.nul.length ∧ (k : Int) < N.fst.length ∧ (k : Int) < N.lst.length) ∧ s.fi.length + (rdL N.fst (k : Int)).length < LIMK ∧ s.la.length + (rdL N.lst (k : Int)).length < LIMK := by
      rw [e1, e2, h2, h3, ints_len, ints_len, ints_len, ints_len, H.nul, H.fst, H.lst]
      simp only [List.length_map, List.length_range]
      unfold LIMK
      omega
    have hg2 : (∀ a ∈ s.la, 0 ≤ a ∧ a < (s.fol.length : Int)) ∧ (∀ b ∈ rdL N.fst (k : Int), 0 ≤ b ∧ b < 4096) := by
      rw [h3, e1, h4.len]
      constructor
      · intro x hx
        obtain ⟨a, rfl, ha⟩ := mem_ints.1 hx
        have := hin a ha
        omega
      · intro x hx
        obtain ⟨a, rfl, ha⟩ := mem_ints.1 hx
        have := edge_in K.tr MT.fst (.inl rfl) k (by omega) a ha
        omega
    unfold kidF
    rw [if_pos hg, if_neg (by decide), if_pos hg2, e1, e2, e3]
    rfl
omit hi H in
theorem led_le {a b j : Nat} (hj : j < p.length) (h : led (md p) j a b) : a ≤ j ∧ b ≤ j := by
  have hjm : j < (md p).length := by rw [md_len]; exact hj
  rcases h with ⟨c, us, k, vs, e, h1, h2⟩ | ⟨c, h1, h2⟩
  · have hk := (K.tr.kid hjm (k := k) (by rw [e]; simp)).2
    have hb := edge_in K.tr MT.fst (.inl rfl) k (by omega) b h2
    rcases mem_suf.1 h1 with ⟨h, _⟩ | ⟨x, k', y, e', _, h⟩
    · simp at h
    · have hk2 := (K.tr.kid hjm (k := k') (by rw [e, e']; simp)).2
      have := edge_in K.tr MT.lst (.inr rfl) k' (by omega) a h
      omega
  · have h3 := edge_in K.tr MT.fst (.inl rfl) j hjm b h2
    have h4 := edge_in K.tr MT.lst (.inr rfl) j hjm a h1
    omega
theorem NetI.node : ∃ N', nodeF i (at_ p i) N = some N' ∧ NetI p (i + 1) N' := by
  have him : i < (md p).length := by rw [md_len]; exact hi
  have e0 := nd_md hi
  have hm := K.most
  have hstart : FolP (i + 1) (fun a b => ∃ j, j < i ∧ led (md p) j a b) (N.fol ++ [[]]) := by
    refine ⟨by rw [List.length_append, H.fol.len]; rfl, fun a ha x => ?_⟩
    by_cases c : a < i
    · have : rdL (N.fol ++ [[]]) (a : Int) = rdL N.fol (a : Int) := by
        unfold rdL rdOf
        rw [List.getD_eq_getElem?_getD, List.getD_eq_getElem?_getD, List.getElem?_append_left (by rw [H.fol.len]; simpa using c)]
      rw [this, H.fol.mem a c]
    · obtain rfl : a = i := by omega
      have : rdL (N.fol ++ [[]]) (a : Int) = [] := by
        unfold rdL rdOf
        rw [List.getD_eq_getElem?_getD, List.getElem?_append_right (by rw [H.fol.len]; simp), H.fol.len]
        simp
      rw [this]
      constructor
      · intro h; simp at h
      · rintro ⟨b, _, j, hj, h⟩
        have := (led_le K (by omega) h).1
        omega
  /- behind the kids, the loop and the end are alike -/
  have fin : ∀ (nu : Bool) (fi la : List Nat) (fol : List (List Int)) (P : Nat → Nat → Prop), kidsF (at_ p i).f0 N (at_ p i).f2 (startF i (at_ p i) N) = some ⟨nu, ints fi, ints la, fol⟩ →
      FolP (i + 1) P fol → (nu || optB (at_ p i)) = MT.nul (md p) i → fi = MT.fst (md p) i → la = MT.lst (md p) i → (∀ a b, (P a b ∨ (oftB (at_ p i) = true ∧ a ∈ MT.lst (md p) i ∧ b ∈ MT.fst (md p) i)) ↔ ∃ j, j < i + 1 ∧ led (md p) j a b) →
      ∃ N', nodeF i (at_ p i) N = some N' ∧ NetI p (i + 1) N' := by
    rintro nu fi la fol P hk hf hn rfl rfl hP
    have hend : ∃ fol', loopF (at_ p i) ⟨nu, ints (MT.fst (md p) i), ints (MT.lst (md p) i), fol⟩ = some fol' ∧ FolP (i + 1) (fun a b => ∃ j, j < i + 1 ∧ led (md p) j a b) fol' := by
      unfold loopF
      have hA : ∀ a ∈ MT.lst (md p) i, a < i + 1 := fun a ha => by
        have := edge_in K.tr MT.lst (.inr rfl) i him a ha
        omega
      have hB : ∀ a ∈ MT.fst (md p) i, a < i + 1 := fun a ha => by
        have := edge_in K.tr MT.fst (.inl rfl) i him a ha
        omega
      by_cases ho : oftB (at_ p i) = true
      · rw [if_pos ho, if_pos ⟨fun x hx => by
          obtain ⟨a, rfl, ha⟩ := mem_ints.1 hx
          have := hA a ha
          show 0 ≤ (a : Int) ∧ (a : Int) < (fol.length : Int)
          rw [hf.len]
          omega, fun x hx => by
          obtain ⟨a, rfl, ha⟩ := mem_ints.1 hx
          have := hB a ha
          omega⟩]
        exact ⟨_, rfl, (hf.lead hA).congr (fun a _ b => by rw [← hP a b]; simp [ho])⟩
      · rw [if_neg ho]
        exact ⟨_, rfl, hf.congr (fun a _ b => by rw [← hP a b]; simp [ho])⟩
    obtain ⟨fol', h1, h2⟩ := hend
    refine ⟨⟨N.nul ++ [nu || optB (at_ p i)], N.fst ++ [ints (MT.fst (md p) i)], N.lst ++ [ints (MT.lst (md p) i)], fol'⟩, ?_, ?_⟩
    · unfold nodeF
      rw [hk]
      simp only [Option.bind_some]
      rw [h1]
      rfl
    · refine ⟨?_, ?_, ?_, h2⟩
      · rw [hn, H.nul, List.range_succ, List.map_append]; rfl
      · rw [H.fst, List.range_succ, List.map_append]; rfl
      · rw [H.lst, List.range_succ, List.map_append]; rfl
  have hlast : ∀ a b, (∃ j, j < i + 1 ∧ led (md p) j a b) ↔ (∃ j, j < i ∧ led (md p) j a b) ∨ led (md p) i a b := by
    intro a b
    constructor
    · rintro ⟨j, hj, h⟩
      by_cases c : j < i
      · exact .inl ⟨j, c, h⟩
      · obtain rfl : j = i := by omega
        exact .inr h
    · rintro (⟨j, hj, h⟩ | h)
      · exact ⟨j, by omega, h⟩
      · exact ⟨i, by omega, h⟩
  have hkind : (nd (md p) i).kind = (at_ p i).f0 := by rw [e0]; rfl
  have hpos : (nd (md p) i).pos = posB (at_ p i) := by rw [e0]; rfl
  have hopt : (nd (md p) i).opt = optB (at_ p i) := by rw [e0]; rfl
  have hoft : (nd (md p) i).oft = oftB (at_ p i) := by rw [e0]; rfl
  rcases K.kinds hi with ⟨a, b⟩ | a | ⟨a, b⟩
  · have hne2 : ¬ (at_ p i).f0 = 2 := by
      intro h
      unfold posB at a
      rw [h] at a
      revert a
      decide
    have hne3 : ¬ (at_ p i).f0 = 3 := by
      intro h
      unfold posB at a
      rw [h] at a
      revert a
      decide
    refine fin false [i] [i] (N.fol ++ [[]]) (fun a b => ∃ j, j < i ∧ led (md p) j a b) ?_ hstart ?_ ?_ ?_ ?_
    · rw [b]
      show some (startF i (at_ p i) N) = _
      unfold startF
      rw [if_pos a, beq_eq_false_iff_ne.2 hne2]
      rfl
    · rw [nul_eq K.tr.ahead him, hkind, if_neg hne2, if_neg hne3, hopt]
    · rw [fst_eq K.tr.ahead him, hpos, if_pos a]
    · rw [lst_eq K.tr.ahead him, hpos, if_pos a]
    · intro x y
      rw [hlast]
      unfold led
      rw [hkind, hoft]
      simp only [hne2, false_and, false_or]
  · have hnp : ¬ posB (at_ p i) = true := by
      unfold posB
      rw [a]
      decide
    have hne3 : ¬ (at_ p i).f0 = 3 := by omega
    obtain ⟨fol, hk, hf⟩ := NetI.kids2 K hi H (fun a b => ∃ j, j < i ∧ led (md p) j a b) (nd (md p) i).kids [] (startF i (at_ p i) N) rfl (by unfold startF; rw [a]; rfl) (by unfold startF; rw [if_neg hnp]; rfl) (by unfold startF; rw [if_neg hnp]; rfl)
      (hstart.congr (fun x _ y => by
        constructor
        · exact .inl
        · rintro (h | ⟨u, k, v, e, _⟩)
          · exact h
          · cases u <;> simp at e))
    refine fin _ _ _ fol _ (by rw [K.f2 hi, a]; exact hk) hf ?_ ?_ ?_ ?_
    · rw [nul_eq K.tr.ahead him, hkind, if_pos a, hopt]
    · rw [fst_eq K.tr.ahead him, hpos, if_neg hnp, hkind, if_neg hne3]
    · rw [lst_eq K.tr.ahead him, hpos, if_neg hnp, hkind, if_neg hne3]
    · intro x y
      rw [hlast]
      unfold led
      rw [hkind, hoft]
      simp only [a, true_and, or_assoc]
  · have hnp : ¬ posB (at_ p i) = true := by
      unfold posB
      rw [a]
      decide
    have hne2 : ¬ (at_ p i).f0 = 2 := by omega
    have hk := NetI.kids3 K hi H (nd (md p) i).kids [] (startF i (at_ p i) N) rfl (by unfold startF; rw [a]; rfl) (by unfold startF; rw [if_neg hnp]; rfl) (by unfold startF; rw [if_neg hnp]; rfl)
    refine fin _ _ _ (N.fol ++ [[]]) (fun a b => ∃ j, j < i ∧ led (md p) j a b) (by rw [K.f2 hi, a]; exact hk) hstart ?_ ?_ ?_ ?_
    · rw [nul_eq K.tr.ahead him, hkind, if_neg hne2, if_pos a, hopt]
    · rw [fst_eq K.tr.ahead him, hpos, if_neg hnp, hkind, if_pos a]
    · rw [lst_eq K.tr.ahead him, hpos, if_neg hnp, hkind, if_pos a]
    · intro x y
      rw [hlast]
      unfold led
      rw [hkind, hoft]
      simp only [hne2, false_and, false_or]
end
theorem net_from {p : List PM} (K : OkP p) : ∀ (m i : Nat) (N : NetV), i + m = p.length → NetI p i N → ∃ N', netL (p.drop i) i N = some N' ∧ NetI p p.length N'
  | 0, i, N, h, H => by
    obtain rfl : i = p.length := by omega
    rw [List.drop_length]
    exact ⟨N, rfl, H⟩
  | m + 1, i, N, h, H => by
    have hi : i < p.length := by omega
    have hm := K.most
    rw [List.drop_eq_getElem_cons hi, ← at_lt hi]
    unfold netL
    obtain ⟨N1, h1, h2⟩ := NetI.node K hi H
    rw [if_pos (by rw [H.nul, H.fst, H.lst, H.fol.len]; simp only [List.length_map, List.length_range]; unfold LIMK; omega), h1]
    exact net_from K m (i + 1) N1 (by omega) h2
theorem net_tells {p : List PM} (h : okV p = true) : ∃ N, netOfF p = some N ∧ NetI p p.length N := by
  have := net_from (okP h) p.length 0 ⟨[], [], [], []⟩ (Nat.zero_add _) ⟨rfl, rfl, rfl, rfl, fun a ha => by omega⟩
  exact this
theorem put1_len (x : Int) : ∀ l : List Int, (put1 x l).length ≤ l.length + 1
  | [] => by simp [put1]
  | y :: l => by
    have := put1_len x l
    unfold put1
    split
    · simp only [List.length_cons]; omega
    · split
      · simp only [List.length_cons]; omega
      · simp only [List.length_cons]; omega
theorem spec_put (xs : List Int) (i : Nat) (hi : i < xs.length) (hx : xs.length ≤ 1048576) (acc : List Int) (ha : acc.length ≤ i) (R : List Int) (hR : Ev (fun k => spec_l8Sorted.l0 k xs (put1 xs[i] acc) ((i + 1 : Nat) : Int)) R) : ∀ (n j : Nat), j + n = acc.length → put1 xs[i] acc = acc.take j ++ put1 xs[i] (acc.drop j) → Ev (fun k => spec_l8Sorted.l1 k xs acc (i : Int) (j : Int)) R := by
  intro n
  induction n with
  | zero =>
    intro j hj hput
    rw [List.drop_of_length_le (by omega), List.take_of_length_le (by omega)] at hput
    simp only [put1] at hput
    rw [hput] at hR
    refine Ev.step (fun k => ?_) hR
    conv => lhs; unfold spec_l8Sorted.l1
    rw [if_neg (by omega)]
    simp only [Option.bind_some, List.nil_append, List.length_nil]
    rw [if_pos (by omega), if_pos (by omega), Int.toNat_natCast, List.take_of_length_le (by omega), if_pos (by omega), if_pos (by omega), if_pos (by omega), if_pos (by omega), List.drop_of_length_le (by omega), if_pos (by simp; omega), List.append_nil, rdZ xs i hi, w1n hi (by omega)]
  | succ n ih =>
    intro j hj hput
    have hlt : j < acc.length := by omega
    have hd : acc.drop j = acc[j] :: acc.drop (j + 1) := List.drop_eq_getElem_cons hlt
    by_cases c1 : acc[j] < xs[i]
    · have := ih (j + 1) (by omega) (by
        rw [hput, hd]
        conv => lhs; unfold put1
        rw [if_pos c1, ← List.take_append_getElem hlt, List.append_assoc]
        rfl)
      refine Ev.step (fun k => ?_) this
      conv => lhs; unfold spec_l8Sorted.l1
      rw [if_pos (by omega), if_pos (by omega), if_pos (by omega), if_pos (by omega), rdZ xs i hi, rdZ acc j hlt, if_pos c1, w1n hlt (by omega)]
    · by_cases c2 : acc[j] = xs[i]
      · have e : put1 xs[i] acc = acc := by
          rw [hput, hd]
          unfold put1
          rw [if_neg c1, if_pos c2, ← hd, List.take_append_drop]
        rw [e] at hR
        refine Ev.step (fun k => ?_) hR
        conv => lhs; unfold spec_l8Sorted.l1
        rw [if_pos (by omega), if_pos (by omega), if_pos (by omega), if_pos (by omega), rdZ xs i hi, rdZ acc j hlt, if_neg c1, if_pos c2, w1n hi (by omega)]
      · have e : put1 xs[i] acc = acc.take j ++ [xs[i]] ++ acc.drop j := by
          rw [hput, hd]
          unfold put1
          rw [if_neg c1, if_neg c2]
          simp
        rw [e] at hR
        refine Ev.step (fun k => ?_) hR
        conv => lhs; unfold spec_l8Sorted.l1
        rw [if_pos (by omega), if_pos (by omega), if_pos (by omega), if_pos (by omega), rdZ xs i hi, rdZ acc j hlt, if_neg c1, if_neg c2]
        simp only [Option.bind_some, List.nil_append, List.length_nil, Int.toNat_natCast]
        rw [if_pos (by omega), if_pos (by rw [List.length_take]; omega), if_pos (by rw [List.length_take]; omega), if_pos (by simp only [List.length_append, List.length_take, List.length_drop, List.length_singleton]; omega), w1n hi (by omega)]
theorem spec_sorted_l0 (xs : List Int) (hx : xs.length ≤ 1048576) : ∀ (n i : Nat) (acc : List Int), i + n = xs.length → acc.length ≤ i → Ev (fun k => spec_l8Sorted.l0 k xs acc (i : Int)) ((xs.drop i).foldl (fun a x => put1 x a) acc) := by
  intro n
  induction n with
  | zero =>
    intro i acc hi ha
    rw [List.drop_of_length_le (by omega), List.foldl_nil]
    refine Ev.step (f := fun _ => some acc) (fun k => ?_) (Ev.now _)
    conv => lhs; unfold spec_l8Sorted.l0
    rw [if_neg (by omega)]
  | succ n ih =>
    intro i acc hi ha
    have hlt : i < xs.length := by omega
    rw [List.drop_eq_getElem_cons hlt, List.foldl_cons]
    have h1 := put1_len xs[i] acc
    have := spec_put xs i hlt hx acc ha _ (ih (i + 1) _ (by omega) (by omega)) acc.length 0 (by omega) (by simp)
    refine Ev.step (fun k => ?_) this
    conv => lhs; unfold spec_l8Sorted.l0
    rw [if_pos (by omega)]
    rfl
theorem spec_sorted (xs : List Int) (hx : xs.length ≤ 1048576) : Ev (fun k => spec_l8Sorted.f k xs) (srt xs) := by
  have := spec_sorted_l0 xs hx xs.length 0 [] (by omega) (by simp)
  rw [List.drop_zero] at this
  exact this
theorem Ev.step2' {α : Type} {g f : Nat → Option α} {r : α} (h : ∀ k, g (k + 1 + 1) = f k) (k : Ev f r) : Ev g r := Ev.step (f := fun k => g (k + 1)) (fun _ => rfl) (Ev.step h k)
theorem rd_ints {l : List Nat} {j : Nat} (h : j < l.length) : rd (ints l) (j : Int) = (l[j] : Int) := by
  rw [rdZ (ints l) j (by rw [ints_len]; exact h)]
  unfold ints
  simp
section
variable {p : List PM} (K : OkP p)
include K
theorem kids_small {i : Nat} (hi : i < p.length) : (nd (md p) i).kids.length ≤ i := by
  have him : i < (md p).length := by rw [md_len]; exact hi
  have h := flat_len (F := fun _ => [0]) (K.tr.chain i him) (fun k hk => K.tr.le k (by omega)) (fun k hk => by
    have h1 := (K.tr.kid him hk).2
    have := K.tr.le k (by omega)
    show 1 ≤ _
    omega)
  have e : ∀ l : List Nat, (l.flatMap fun _ => [0]).length = l.length := by
    intro l
    induction l with
    | nil => rfl
    | cons x l ih => rw [List.flatMap_cons, List.length_append, ih]; show 1 + l.length = l.length + 1; omega
  rw [e] at h
  omega
theorem spec_null : ∀ i, i < p.length → Ev (fun k => spec_l8Null.f k p (i : Int)) (nul (md p) i) := by
  intro i
  induction i using Nat.strongRecOn with
  | _ i ih =>
  intro hi
  have him : i < (md p).length := by rw [md_len]; exact hi
  have e : rd_T49 p (i : Int) = at_ p i := rfl
  have hk := K.f2 hi
  have e0 := nd_md hi
  have hkind : (nd (md p) i).kind = (at_ p i).f0 := by rw [e0]; rfl
  have hopt : (nd (md p) i).opt = optB (at_ p i) := by rw [e0]; rfl
  have hks := kids_small K hi
  have hm := K.most
  have hkid : ∀ k ∈ (nd (md p) i).kids, k < i := fun k hk => (K.tr.kid him hk).2
  rw [nul_eq K.tr.ahead him, hkind, hopt]
  have hall : ∀ (m j : Nat), j + m = (nd (md p) i).kids.length → Ev (fun k => spec_l8Null.l0 k p (j : Int) (at_ p i).f0 (at_ p i).f1 (at_ p i).f2 (at_ p i).f3) (((nd (md p) i).kids.drop j).all (nul (md p))) := by
    intro m
    induction m with
    | zero =>
      intro j hj
      rw [List.drop_of_length_le (by omega)]
      refine Ev.step (f := fun _ => some true) (fun k => ?_) (Ev.now _)
      conv => lhs; unfold spec_l8Null.l0
      rw [if_neg (by rw [hk, ints_len]; omega)]
    | succ m ihm =>
      intro j hj
      have hlt : j < (nd (md p) i).kids.length := by omega
      have hjk := hkid _ (List.getElem_mem hlt)
      rw [List.drop_eq_getElem_cons hlt, List.all_cons]
      refine Ev.step (f := fun k => (spec_l8Null.f k p ((nd (md p) i).kids[j] : Int)).bind fun t => (if t = true then (spec_l8Null.l0 k p ((j + 1 : Nat) : Int) (at_ p i).f0 (at_ p i).f1 (at_ p i).f2 (at_ p i).f3) else (some false))) (fun k => ?_) (Ev.bind (ih _ hjk (by omega)) ?_)
      · conv => lhs; unfold spec_l8Null.l0
        rw [if_pos (by rw [hk, ints_len]; omega), if_pos (by omega), w1n hlt (by omega)]
        rw [show rd (at_ p i).f2 (j : Int) = ((nd (md p) i).kids[j] : Int) by rw [hk]; exact rd_ints hlt]
      · cases nul (md p) (nd (md p) i).kids[j] with
        | true => simpa using ihm (j + 1) (by omega)
        | false => exact Ev.now _
  have hany : ∀ (m j : Nat), j + m = (nd (md p) i).kids.length → Ev (fun k => spec_l8Null.l1 k p (j : Int) (at_ p i).f0 (at_ p i).f1 (at_ p i).f2 (at_ p i).f3) (((nd (md p) i).kids.drop j).any (nul (md p))) := by
    intro m
    induction m with
    | zero =>
      intro j hj
      rw [List.drop_of_length_le (by omega)]
      refine Ev.step (f := fun _ => some false) (fun k => ?_) (Ev.now _)
      conv => lhs; unfold spec_l8Null.l1
      rw [if_neg (by rw [hk, ints_len]; omega)]
    | succ m ihm =>
      intro j hj
      have hlt : j < (nd (md p) i).kids.length := by omega
      have hjk := hkid _ (List.getElem_mem hlt)
      rw [List.drop_eq_getElem_cons hlt, List.any_cons]
      refine Ev.step (f := fun k => (spec_l8Null.f k p ((nd (md p) i).kids[j] : Int)).bind fun t => (if t = true then (some true) else (spec_l8Null.l1 k p ((j + 1 : Nat) : Int) (at_ p i).f0 (at_ p i).f1 (at_ p i).f2 (at_ p i).f3))) (fun k => ?_) (Ev.bind (ih _ hjk (by omega)) ?_)
      · conv => lhs; unfold spec_l8Null.l1
        rw [if_pos (by rw [hk, ints_len]; omega), if_pos (by omega), w1n hlt (by omega)]
        rw [show rd (at_ p i).f2 (j : Int) = ((nd (md p) i).kids[j] : Int) by rw [hk]; exact rd_ints hlt]
      · cases nul (md p) (nd (md p) i).kids[j] with
        | false => simpa using ihm (j + 1) (by omega)
        | true => exact Ev.now _
  have hyes : Ev (fun k => spec_l8Null.j0 k p true (at_ p i).f0 (at_ p i).f1 (at_ p i).f2 (at_ p i).f3) true := by
    refine Ev.step (f := fun _ => some true) (fun k => ?_) (Ev.now _)
    conv => lhs; unfold spec_l8Null.j0
    rw [if_pos rfl]
  by_cases c1 : (at_ p i).f3 = 1
  · have ho : optB (at_ p i) = true := by unfold optB; rw [c1]; rfl
    rw [ho, Bool.or_true]
    refine Ev.step (fun k => ?_) hyes
    conv => lhs; unfold spec_l8Null.f
    rw [if_pos (by omega), if_pos (by omega), e, if_pos c1]
  · by_cases c2 : (at_ p i).f3 = 2
    · have ho : optB (at_ p i) = true := by unfold optB; rw [c2]; rfl
      rw [ho, Bool.or_true]
      refine Ev.step (fun k => ?_) hyes
      conv => lhs; unfold spec_l8Null.f
      rw [if_pos (by omega), if_pos (by omega), e, if_neg c1, beq_iff_eq.2 c2]
    · have ho : optB (at_ p i) = false := by unfold optB; rw [beq_eq_false_iff_ne.2 c1, beq_eq_false_iff_ne.2 c2]; rfl
      rw [ho, Bool.or_false]
      refine Ev.step (f := fun k => spec_l8Null.j0 k p false (at_ p i).f0 (at_ p i).f1 (at_ p i).f2 (at_ p i).f3) (fun k => ?_) ?_
      · conv => lhs; unfold spec_l8Null.f
        rw [if_pos (by omega), if_pos (by omega), e, if_neg c1, beq_eq_false_iff_ne.2 c2]
      · by_cases k2 : (at_ p i).f0 = 2
        · rw [if_pos k2]
          refine Ev.step (fun k => ?_) (hall _ 0 (Nat.zero_add _))
          conv => lhs; unfold spec_l8Null.j0
          rw [if_neg (by decide), if_pos k2]
          rfl
        · rw [if_neg k2]
          by_cases k3 : (at_ p i).f0 = 3
          · rw [if_pos k3]
            refine Ev.step (fun k => ?_) (hany _ 0 (Nat.zero_add _))
            conv => lhs; unfold spec_l8Null.j0
            rw [if_neg (by decide), if_neg k2, if_pos k3]
            rfl
          · rw [if_neg k3]
            refine Ev.step (f := fun _ => some false) (fun k => ?_) (Ev.now _)
            conv => lhs; unfold spec_l8Null.j0
            rw [if_neg (by decide), if_neg k2, if_neg k3]
end
theorem rev_len (F : Nat → List Nat) : ∀ l : List Nat, (l.reverse.flatMap F).length = (l.flatMap F).length
  | [] => rfl
  | x :: l => by
    have h := rev_len F l
    simp only [List.reverse_cons, List.flatMap_append, List.length_append, List.flatMap_cons, List.flatMap_nil, List.append_nil, h]
    omega
theorem lstS_len {q : Md} {lo : Nat → Nat} (T : Tree q lo) : ∀ i, i < q.length → (lstS q i).length ≤ i + 1 - lo i := by
  intro i
  induction i using Nat.strongRecOn with
  | _ i ih =>
  intro hi
  have key := flat_len (F := lstS q) (T.chain i hi) (fun k hk => T.le k (by omega)) (fun k hk => ih k (T.kid hi hk).2 (by have := (T.kid hi hk).2; omega))
  have hle := T.le i hi
  rw [lstS_eq T.ahead hi]
  split
  · simp; omega
  · split
    · rw [rev_len]; omega
    · have := (pre_sub (N := nul q) (F := lstS q) (nd q i).kids.reverse).length_le
      rw [rev_len] at this
      omega
/-- A row's edge, as the specification goes. -/
def edgS (q : Md) (last : Bool) (i : Nat) : List Nat := if last = true then lstS q i else fst q i
theorem edgS_len {q : Md} {lo : Nat → Nat} (T : Tree q lo) (last : Bool) (i : Nat) (hi : i < q.length) : (edgS q last i).length ≤ i + 1 - lo i := by
  unfold edgS
  split
  · exact lstS_len T i hi
  · exact edge_len T fst (.inl rfl) i hi
def goS (q : Md) (last : Bool) (kind : Int) (L : List Nat) : List Nat := if kind = 2 then pre (nul q) (edgS q last) L else L.flatMap (edgS q last)
theorem goS_cons (q : Md) (last : Bool) (kind : Int) (k : Nat) (L : List Nat) : goS q last kind (k :: L) = edgS q last k ++ (if kind = 2 ∧ ¬ nul q k = true then [] else goS q last kind L) := by
  unfold goS
  by_cases c : kind = 2
  · simp only [if_pos c]
    rw [pre]
    by_cases n : nul q k = true
    · rw [if_pos n, if_neg (fun h => h.2 n)]
    · rw [if_neg n, if_pos ⟨c, n⟩]
  · simp only [if_neg c]
    rw [List.flatMap_cons, if_neg (fun h => c h.1)]
section
variable {p : List PM} (K : OkP p)
include K
theorem edgS_eq (last : Bool) {i : Nat} (hi : i < p.length) : edgS (md p) last i = if posB (at_ p i) = true then [i] else goS (md p) last (at_ p i).f0 (if last = true then (nd (md p) i).kids.reverse else (nd (md p) i).kids) := by
  have him : i < (md p).length := by rw [md_len]; exact hi
  have e0 := nd_md hi
  have hkind : (nd (md p) i).kind = (at_ p i).f0 := by rw [e0]; rfl
  have hpos : (nd (md p) i).pos = posB (at_ p i) := by rw [e0]; rfl
  have hg : ∀ L, goS (md p) last (at_ p i).f0 L = if (at_ p i).f0 = 2 then pre (nul (md p)) (edgS (md p) last) L else L.flatMap (edgS (md p) last) := fun _ => rfl
  by_cases c : posB (at_ p i) = true
  · rw [if_pos c]
    unfold edgS
    split
    · rw [lstS_eq K.tr.ahead him, hpos, if_pos c]
    · rw [fst_eq K.tr.ahead him, hpos, if_pos c]
  · rw [if_neg c, hg]
    have h23 : (at_ p i).f0 = 2 ∨ (at_ p i).f0 = 3 := by
      rcases K.kinds hi with ⟨a, b⟩ | a | ⟨a, b⟩
      · exact absurd a c
      · exact .inl a
      · exact .inr a
    cases last with
    | true =>
      show lstS (md p) i = if _ then pre (nul (md p)) (lstS (md p)) _ else List.flatMap (lstS (md p)) _
      rw [lstS_eq K.tr.ahead him, hpos, if_neg c, hkind]
      rcases h23 with h | h
      · rw [if_pos h, if_neg (by omega)]; rfl
      · rw [if_pos h, if_neg (by omega)]; rfl
    | false =>
      show fst (md p) i = if _ then pre (nul (md p)) (fst (md p)) _ else List.flatMap (fst (md p)) _
      rw [fst_eq K.tr.ahead him, hpos, if_neg c, hkind]
      rcases h23 with h | h
      · rw [if_pos h, if_neg (by omega)]; rfl
      · rw [if_pos h, if_neg (by omega)]; rfl
theorem spec_edge (last : Bool) : ∀ i, i < p.length → Ev (fun k => spec_l8Edge.f k p (i : Int) last) (ints (edgS (md p) last i)) := by
  intro i
  induction i using Nat.strongRecOn with
  | _ i ih =>
  intro hi
  have him : i < (md p).length := by rw [md_len]; exact hi
  have e : rd_T49 p (i : Int) = at_ p i := rfl
  have hk := K.f2 hi
  have hks := kids_small K hi
  have hm := K.most
  have hkid : ∀ k ∈ (nd (md p) i).kids, k < i := fun k hk => (K.tr.kid him hk).2
  obtain ⟨L, hL⟩ : ∃ L, (if last = true then (nd (md p) i).kids.reverse else (nd (md p) i).kids) = L := ⟨_, rfl⟩
  have hLl : L.length = (nd (md p) i).kids.length := by rw [← hL]; split <;> simp
  have hLm : ∀ k ∈ L, k < i := by
    intro k hk'
    rw [← hL] at hk'
    split at hk'
    · exact hkid k (List.mem_reverse.1 hk')
    · exact hkid k hk'
  have hfl : (L.flatMap (edgS (md p) last)).length ≤ i := by
    have h := flat_len (F := edgS (md p) last) (K.tr.chain i him) (fun k hk => K.tr.le k (by omega)) (fun k hk => edgS_len K.tr last k (by have := hkid k hk; omega))
    rw [← hL]
    split
    · rw [rev_len]; omega
    · omega
  have loop : ∀ (m j : Nat) (acc : List Int), j + m = L.length → acc.length + ((L.drop j).flatMap (edgS (md p) last)).length ≤ 40 → Ev (fun k => spec_l8Edge.l0 k p last acc (j : Int) (at_ p i).f0 (at_ p i).f1 (at_ p i).f2 (at_ p i).f3) (acc ++ ints (goS (md p) last (at_ p i).f0 (L.drop j))) := by
    intro m
    induction m with
    | zero =>
      intro j acc hj hl
      rw [List.drop_of_length_le (by omega)]
      have h0 : goS (md p) last (at_ p i).f0 [] = [] := by unfold goS; split <;> rfl
      rw [h0]
      refine Ev.step (f := fun _ => some acc) (fun k => ?_) ?_
      · conv => lhs; unfold spec_l8Edge.l0
        rw [if_neg (by rw [hk, ints_len]; omega)]
      · rw [show acc ++ ints [] = acc from List.append_nil _]
        exact Ev.now _
    | succ m ihm =>
      intro j acc hj hl
      have hlt : j < L.length := by omega
      have hjk := hLm _ (List.getElem_mem hlt)
      rw [List.drop_eq_getElem_cons hlt] at hl ⊢
      rw [List.flatMap_cons, List.length_append] at hl
      rw [goS_cons, ints_app, ← List.append_assoc]
      obtain ⟨x10, hx0, hx1, hx2, hx3⟩ : ∃ x10 : Nat, (if last = true then wrap64 (wrap64 (((at_ p i).f2.length : Int) - 1) - (j : Int)) else (j : Int)) = (x10 : Int) ∧ x10 < (nd (md p) i).kids.length ∧ rd (at_ p i).f2 (x10 : Int) = (L[j] : Int) ∧ True := by
        cases last with
        | true =>
          refine ⟨(nd (md p) i).kids.length - 1 - j, ?_, by omega, ?_, trivial⟩
          · rw [if_pos rfl, hk, ints_len, w64 (n := ((nd (md p) i).kids.length : Int) - 1) (by omega) (by omega), w64 (by omega) (by omega)]
            omega
          · rw [hk, rd_ints (by omega)]
            simp only [if_true] at hL
            subst hL
            rw [List.getElem_reverse]
        | false =>
          refine ⟨j, rfl, by omega, ?_, trivial⟩
          rw [hk, rd_ints (by omega)]
          simp only [Bool.false_eq_true, if_false] at hL
          subst hL
          rfl
      refine Ev.step2' (f := fun k => (spec_l8Edge.f k p (L[j] : Int) last).bind fun t191 => (if acc.length + t191.length < 17592186044416 then (if (at_ p i).f0 = 2 then ((spec_l8Null.f k p (L[j] : Int)).bind fun t198 => (if t198 = true then (spec_l8Edge.l0 k p last (acc ++ t191) ((j + 1 : Nat) : Int) (at_ p i).f0 (at_ p i).f1 (at_ p i).f2 (at_ p i).f3) else (some (acc ++ t191)))) else (spec_l8Edge.l0 k p last (acc ++ t191) ((j + 1 : Nat) : Int) (at_ p i).f0 (at_ p i).f1 (at_ p i).f2 (at_ p i).f3)) else none)) (fun k => ?_) (Ev.bind (ih _ hjk (by omega)) ?_)
      · conv => lhs; unfold spec_l8Edge.l0
        rw [if_pos (by rw [hk, ints_len]; omega)]
        have hj2 : (if last = true then (spec_l8Edge.j2 (k + 1) p last acc (j : Int) (wrap64 ((wrap64 (((at_ p i).f2.length : Int) - 1)) - (j : Int))) (at_ p i).f0 (at_ p i).f1 (at_ p i).f2 (at_ p i).f3) else (spec_l8Edge.j2 (k + 1) p last acc (j : Int) (j : Int) (at_ p i).f0 (at_ p i).f1 (at_ p i).f2 (at_ p i).f3)) = spec_l8Edge.j2 (k + 1) p last acc (j : Int) (x10 : Int) (at_ p i).f0 (at_ p i).f1 (at_ p i).f2 (at_ p i).f3 := by
          rw [← hx0]
          split <;> rfl
        rw [hj2]
        conv => lhs; unfold spec_l8Edge.j2
        rw [if_pos (by omega), if_pos (by rw [hk, ints_len]; omega), hx2, w1n hlt (by omega)]
        rfl
      · rw [ints_len]
        have hacc : (acc ++ ints (edgS (md p) last L[j])).length = acc.length + (edgS (md p) last L[j]).length := by rw [List.length_append, ints_len]
        have hgo := ihm (j + 1) (acc ++ ints (edgS (md p) last L[j])) (by omega) (by rw [hacc]; omega)
        by_cases c2 : (at_ p i).f0 = 2
        · refine Ev.congr (f := fun k => (spec_l8Null.f k p (L[j] : Int)).bind fun t198 => (if t198 = true then (spec_l8Edge.l0 k p last (acc ++ ints (edgS (md p) last L[j])) ((j + 1 : Nat) : Int) (at_ p i).f0 (at_ p i).f1 (at_ p i).f2 (at_ p i).f3) else (some (acc ++ ints (edgS (md p) last L[j]))))) (fun k => ?_) (Ev.bind (spec_null K L[j] (by omega)) ?_)
          · rw [if_pos (by omega), if_pos c2]
          · by_cases n : nul (md p) L[j] = true
            · rw [if_neg (fun h => h.2 n)]
              simpa only [if_pos n] using hgo
            · rw [if_pos ⟨c2, n⟩]
              simp only [if_neg n]
              rw [show ints [] = [] from rfl, List.append_nil]
              exact Ev.now _
        · rw [if_neg (fun h => c2 h.1)]
          refine Ev.congr (fun k => ?_) hgo
          rw [if_pos (by omega), if_neg c2]
  rw [edgS_eq K last hi, hL]
  by_cases c : posB (at_ p i) = true
  · rw [if_pos c]
    have hnil : (at_ p i).f2 = [] := by
      rcases K.kinds hi with ⟨a, b⟩ | a | ⟨a, b⟩
      · exact b
      · unfold posB at c; rw [a] at c; exact absurd c (by decide)
      · unfold posB at c; rw [a] at c; exact absurd c (by decide)
    have hne : ((at_ p i).f0 != 2) = true := by
      rw [bne_iff_ne]
      intro h
      unfold posB at c; rw [h] at c; exact absurd c (by decide)
    refine Ev.step (f := fun k => spec_l8Edge.j0 k p (i : Int) last true (at_ p i).f0 (at_ p i).f1 (at_ p i).f2 (at_ p i).f3) (fun k => ?_) (Ev.step (f := fun _ => some [(i : Int)]) (fun k => ?_) (Ev.now _))
    · conv => lhs; unfold spec_l8Edge.f
      rw [if_pos (by omega), if_pos (by omega), e, if_pos (by rw [hnil]; rfl), hne]
    · conv => lhs; unfold spec_l8Edge.j0
      rw [if_pos rfl]
  · rw [if_neg c]
    have hgo := loop L.length 0 [] (Nat.zero_add _) (by rw [List.drop_zero]; show 0 + _ ≤ 40; omega)
    rw [List.drop_zero, List.nil_append] at hgo
    refine Ev.step (f := fun k => spec_l8Edge.j0 k p (i : Int) last false (at_ p i).f0 (at_ p i).f1 (at_ p i).f2 (at_ p i).f3) (fun k => ?_) (Ev.step (fun k => ?_) hgo)
    · conv => lhs; unfold spec_l8Edge.f
      rw [if_pos (by omega), if_pos (by omega), e]
      by_cases hz : (((at_ p i).f2).length : Int) = 0
      · have h2 : (at_ p i).f0 = 2 := by
          rcases K.kinds hi with ⟨a, b⟩ | a | ⟨a, b⟩
          · exact absurd a c
          · exact a
          · omega
        rw [if_pos hz, h2]
        rfl
      · rw [if_neg hz]
    · conv => lhs; unfold spec_l8Edge.j0
      rw [if_neg (by decide)]
      rfl
end
theorem spec_has (l : List Nat) (a : Nat) (hl : l.length ≤ 1048576) : Ev (fun k => spec_l8Has.f k (ints l) (a : Int)) (decide (a ∈ l)) := by
  have loop : ∀ (m j : Nat), j + m = l.length → Ev (fun k => spec_l8Has.l0 k (ints l) (a : Int) (j : Int)) (decide (a ∈ l.drop j)) := by
    intro m
    induction m with
    | zero =>
      intro j hj
      rw [List.drop_of_length_le (by omega)]
      refine Ev.step (f := fun _ => some false) (fun k => ?_) (Ev.now _)
      conv => lhs; unfold spec_l8Has.l0
      rw [if_neg (by rw [ints_len]; omega)]
    | succ m ih =>
      intro j hj
      have hlt : j < l.length := by omega
      rw [List.drop_eq_getElem_cons hlt]
      by_cases c : (l[j] : Int) = (a : Int)
      · rw [decide_eq_true (List.mem_cons.2 (.inl (by omega)) : a ∈ l[j] :: l.drop (j + 1))]
        refine Ev.step (f := fun _ => some true) (fun k => ?_) (Ev.now _)
        conv => lhs; unfold spec_l8Has.l0
        rw [if_pos (by rw [ints_len]; omega), if_pos (by omega), rd_ints hlt, if_pos c]
      · rw [show decide (a ∈ l[j] :: l.drop (j + 1)) = decide (a ∈ l.drop (j + 1)) from decide_eq_decide.2 (by
          rw [List.mem_cons]
          constructor
          · rintro (h | h)
            · exact absurd (by omega) c
            · exact h
          · exact .inr)]
        refine Ev.step (fun k => ?_) (ih (j + 1) (by omega))
        conv => lhs; unfold spec_l8Has.l0
        rw [if_pos (by rw [ints_len]; omega), if_pos (by omega), rd_ints hlt, if_neg c, w1n hlt (by omega)]
  have := loop l.length 0 (Nat.zero_add _)
  rw [List.drop_zero] at this
  exact this
section
variable {p : List PM} (K : OkP p)
include K
theorem e_false {i : Nat} (hi : i < p.length) : Ev (fun k => spec_l8Edge.f k p (i : Int) false) (ints (fst (md p) i)) := spec_edge K false i hi
theorem e_true {i : Nat} (hi : i < p.length) : Ev (fun k => spec_l8Edge.f k p (i : Int) true) (ints (lstS (md p) i)) := spec_edge K true i hi
theorem len_fst {i : Nat} (hi : i < p.length) : (fst (md p) i).length ≤ 40 := by
  have := edge_len K.tr fst (.inl rfl) i (by rw [md_len]; exact hi)
  have := K.most
  omega
theorem len_lstS {i : Nat} (hi : i < p.length) : (lstS (md p) i).length ≤ 40 := by
  have := lstS_len K.tr i (by rw [md_len]; exact hi)
  have := K.most
  omega
theorem len_pre {i : Nat} (hi : i < p.length) (j : Nat) : (pre (nul (md p)) (fst (md p)) ((nd (md p) i).kids.drop j)).length ≤ 40 := by
  have him : i < (md p).length := by rw [md_len]; exact hi
  have h1 := (pre_sub (N := nul (md p)) (F := fst (md p)) ((nd (md p) i).kids.drop j)).length_le
  have h2 := flat_len (F := fst (md p)) (K.tr.chain i him) (fun k hk => K.tr.le k (by omega)) (fun k hk => edge_len K.tr fst (.inl rfl) k (by have := (K.tr.kid him hk).2; omega))
  have h3 := congrArg List.length (congrArg (List.flatMap (fst (md p))) (List.take_append_drop j (nd (md p) i).kids))
  rw [List.flatMap_append, List.length_append] at h3
  have := K.most
  omega
theorem len_aftr {i : Nat} (hi : i < p.length) (n : Nat) : ∀ (m j : Nat), j + m = (nd (md p) i).kids.length → (aftr (md p) n ((nd (md p) i).kids.drop j)).length ≤ 40 * m
  | 0, j, h => by rw [List.drop_of_length_le (by omega)]; simp [aftr]
  | m + 1, j, h => by
    rw [List.drop_eq_getElem_cons (by omega), aftr, List.length_append]
    have h1 := len_aftr hi n m (j + 1) (by omega)
    have h2 := len_pre K hi (j + 1)
    split
    · omega
    · simp only [List.length_nil]; omega
theorem spec_follow_l2 {i a : Nat} (hi : i < p.length) (j B : Nat) (x8 : Int) (hx8 : wrap64 (x8 + 1) = ((j : Nat) : Int)) (hB : B ≤ 1048576) (R : List Int → List Int) (hR : ∀ acc : List Int, acc.length ≤ B → Ev (fun k => spec_l8Follow.l1 k p (a : Int) acc (i : Int) (j : Int) (at_ p i).f0 (at_ p i).f1 (at_ p i).f2 (at_ p i).f3) (R acc)) :
    ∀ (m q : Nat) (acc : List Int), q + m = (nd (md p) i).kids.length → acc.length + (pre (nul (md p)) (fst (md p)) ((nd (md p) i).kids.drop q)).length ≤ B → Ev (fun k => spec_l8Follow.l2 k p (a : Int) acc (i : Int) x8 (q : Int) (at_ p i).f0 (at_ p i).f1 (at_ p i).f2 (at_ p i).f3) (R (acc ++ ints (pre (nul (md p)) (fst (md p)) ((nd (md p) i).kids.drop q)))) := by
  have hk := K.f2 hi
  have him : i < (md p).length := by rw [md_len]; exact hi
  have hks := kids_small K hi
  have hm := K.most
  intro m
  induction m with
  | zero =>
    intro q acc hq hl
    rw [List.drop_of_length_le (by omega)] at hl ⊢
    rw [show acc ++ ints (pre (nul (md p)) (fst (md p)) []) = acc from List.append_nil _]
    refine Ev.step (fun k => ?_) (hR acc (by omega))
    conv => lhs; unfold spec_l8Follow.l2
    rw [if_neg (by rw [hk, ints_len]; omega), hx8]
  | succ m ih =>
    intro q acc hq hl
    have hlt : q < (nd (md p) i).kids.length := by omega
    have hki : (nd (md p) i).kids[q] < i := (K.tr.kid him (List.getElem_mem hlt)).2
    rw [List.drop_eq_getElem_cons hlt] at hl ⊢
    rw [pre] at hl ⊢
    rw [List.length_append] at hl
    have hf := len_fst K (show (nd (md p) i).kids[q] < p.length by omega)
    have hacc : (acc ++ ints (fst (md p) (nd (md p) i).kids[q])).length = acc.length + (fst (md p) (nd (md p) i).kids[q]).length := by rw [List.length_append, ints_len]
    refine Ev.step (f := fun k => (spec_l8Edge.f k p ((nd (md p) i).kids[q] : Int) false).bind fun t371 => (if acc.length + t371.length < 17592186044416 then ((some (acc ++ t371 : List Int)).bind fun y374 => ((spec_l8Null.f k p ((nd (md p) i).kids[q] : Int)).bind fun t378 => (if t378 = true then (spec_l8Follow.l2 k p (a : Int) y374 (i : Int) x8 ((q + 1 : Nat) : Int) (at_ p i).f0 (at_ p i).f1 (at_ p i).f2 (at_ p i).f3) else (spec_l8Follow.l1 k p (a : Int) y374 (i : Int) (j : Int) (at_ p i).f0 (at_ p i).f1 (at_ p i).f2 (at_ p i).f3)))) else (none))) (fun k => ?_) (Ev.bind (e_false K (show (nd (md p) i).kids[q] < p.length by omega)) ?_)
    · conv => lhs; unfold spec_l8Follow.l2
      rw [if_pos (by rw [hk, ints_len]; omega), if_pos (by omega), hx8, w1n hlt (by omega)]
      rw [show rd (at_ p i).f2 (q : Int) = ((nd (md p) i).kids[q] : Int) by rw [hk]; exact rd_ints hlt]
    · rw [ints_len]
      have hgo : Ev (fun k => (spec_l8Null.f k p ((nd (md p) i).kids[q] : Int)).bind fun t378 => (if t378 = true then (spec_l8Follow.l2 k p (a : Int) (acc ++ ints (fst (md p) (nd (md p) i).kids[q])) (i : Int) x8 ((q + 1 : Nat) : Int) (at_ p i).f0 (at_ p i).f1 (at_ p i).f2 (at_ p i).f3) else (spec_l8Follow.l1 k p (a : Int) (acc ++ ints (fst (md p) (nd (md p) i).kids[q])) (i : Int) (j : Int) (at_ p i).f0 (at_ p i).f1 (at_ p i).f2 (at_ p i).f3))) (R (acc ++ ints (fst (md p) (nd (md p) i).kids[q] ++ if nul (md p) (nd (md p) i).kids[q] = true then pre (nul (md p)) (fst (md p)) ((nd (md p) i).kids.drop (q + 1)) else []))) := by
        refine Ev.bind (spec_null K (nd (md p) i).kids[q] (by omega)) ?_
        by_cases n : nul (md p) (nd (md p) i).kids[q] = true
        · simp only [if_pos n] at hl ⊢
          rw [ints_app, ← List.append_assoc]
          exact ih (q + 1) _ (by omega) (by rw [hacc]; omega)
        · simp only [if_neg n, List.append_nil]
          exact hR _ (by rw [hacc]; omega)
      refine Ev.congr (fun k => ?_) hgo
      rw [if_pos (by omega)]
      rfl
theorem spec_follow_l1 {i a : Nat} (hi : i < p.length) (R : List Int → List Int) (hR : ∀ acc : List Int, acc.length ≤ 1640 * (i + 1) → Ev (fun k => spec_l8Follow.l0 k p (a : Int) acc ((i + 1 : Nat) : Int)) (R acc)) :
    ∀ (m j : Nat) (acc : List Int), j + m = (nd (md p) i).kids.length → acc.length + (aftr (md p) a ((nd (md p) i).kids.drop j)).length ≤ 1640 * (i + 1) → Ev (fun k => spec_l8Follow.l1 k p (a : Int) acc (i : Int) (j : Int) (at_ p i).f0 (at_ p i).f1 (at_ p i).f2 (at_ p i).f3) (R (acc ++ ints (aftr (md p) a ((nd (md p) i).kids.drop j)))) := by
  have hk := K.f2 hi
  have him : i < (md p).length := by rw [md_len]; exact hi
  have hks := kids_small K hi
  have hm := K.most
  intro m
  induction m with
  | zero =>
    intro j acc hj hl
    rw [List.drop_of_length_le (by omega)] at hl ⊢
    rw [show acc ++ ints (aftr (md p) a []) = acc from List.append_nil _]
    refine Ev.step (fun k => ?_) (hR acc (by omega))
    conv => lhs; unfold spec_l8Follow.l1
    rw [if_neg (by rw [hk, ints_len]; omega), w1n hi (by omega)]
  | succ m ih =>
    intro j acc hj hl
    have hlt : j < (nd (md p) i).kids.length := by omega
    have hki : (nd (md p) i).kids[j] < i := (K.tr.kid him (List.getElem_mem hlt)).2
    rw [List.drop_eq_getElem_cons hlt] at hl ⊢
    rw [aftr] at hl ⊢
    rw [List.length_append] at hl
    refine Ev.step (f := fun k => (spec_l8Edge.f k p ((nd (md p) i).kids[j] : Int) true).bind fun t366 => ((spec_l8Has.f k t366 (a : Int)).bind fun t369 => (if t369 = true then (spec_l8Follow.l2 k p (a : Int) acc (i : Int) (j : Int) ((j + 1 : Nat) : Int) (at_ p i).f0 (at_ p i).f1 (at_ p i).f2 (at_ p i).f3) else (spec_l8Follow.l1 k p (a : Int) acc (i : Int) ((j + 1 : Nat) : Int) (at_ p i).f0 (at_ p i).f1 (at_ p i).f2 (at_ p i).f3)))) (fun k => ?_) (Ev.bind (e_true K (show (nd (md p) i).kids[j] < p.length by omega)) (Ev.bind (spec_has _ a (by have := len_lstS K (show (nd (md p) i).kids[j] < p.length by omega); omega)) ?_))
    · conv => lhs; unfold spec_l8Follow.l1
      rw [if_pos (by rw [hk, ints_len]; omega), if_pos (by omega), w1n hlt (by omega)]
      rw [show rd (at_ p i).f2 (j : Int) = ((nd (md p) i).kids[j] : Int) by rw [hk]; exact rd_ints hlt]
    · by_cases n : a ∈ lstS (md p) (nd (md p) i).kids[j]
      · rw [if_pos n] at hl ⊢
        rw [decide_eq_true n, ints_app, ← List.append_assoc]
        simp only [if_true]
        refine spec_follow_l2 K hi (j + 1) (1640 * (i + 1) - (aftr (md p) a ((nd (md p) i).kids.drop (j + 1))).length) (j : Int) (w1n hlt (by omega)) (by omega) (fun acc => R (acc ++ ints (aftr (md p) a ((nd (md p) i).kids.drop (j + 1))))) (fun acc' hl' => ih (j + 1) acc' (by omega) (by omega)) m (j + 1) acc (by omega) (by omega)
      · rw [if_neg n] at hl ⊢
        rw [decide_eq_false n, List.nil_append]
        simpa using ih (j + 1) acc (by omega) (by simpa using hl)
theorem oft_three {i : Nat} (hi : i < p.length) : oftB (at_ p i) = decide ((at_ p i).f3 ≥ 2) := by
  have h := K.ok i hi
  unfold okN at h
  simp only [Bool.and_eq_true, decide_eq_true_eq] at h
  unfold oftB
  by_cases c : (at_ p i).f3 ≥ 2
  · rw [decide_eq_true c]
    by_cases c2 : (at_ p i).f3 = 2
    · rw [c2]; rfl
    · rw [show (at_ p i).f3 = 3 by omega]; rfl
  · rw [decide_eq_false c, beq_eq_false_iff_ne.2 (by omega), beq_eq_false_iff_ne.2 (by omega)]; rfl
theorem spec_follow (a : Nat) : Ev (fun k => spec_l8Follow.f k p (a : Int)) (srt (ints (folS (md p) a))) := by
  have hm := K.most
  have loop : ∀ (m i : Nat) (acc : List Int), i + m = p.length → acc.length ≤ 1640 * i → Ev (fun k => spec_l8Follow.l0 k p (a : Int) acc (i : Int)) (srt (acc ++ ints ((List.range' i m).flatMap (adds (md p) a)))) := by
    intro m
    induction m with
    | zero =>
      intro i acc hi hl
      rw [List.range'_zero, show acc ++ ints (List.flatMap (adds (md p) a) []) = acc from List.append_nil _]
      refine Ev.step (f := fun k => (spec_l8Sorted.f k acc).bind fun t350 => some t350) (fun k => ?_) (Ev.bind (spec_sorted acc (by omega)) (Ev.now _))
      conv => lhs; unfold spec_l8Follow.l0
      rw [if_neg (by omega)]
    | succ m ih =>
      intro i acc hi hl
      have hil : i < p.length := by omega
      have hil' : i < (md p).length := by rw [md_len]; exact hil
      have e : rd_T49 p (i : Int) = at_ p i := rfl
      have e0 := nd_md hil
      have hkind : (nd (md p) i).kind = (at_ p i).f0 := by rw [e0]; rfl
      have hoft : (nd (md p) i).oft = oftB (at_ p i) := by rw [e0]; rfl
      have hfl := len_fst K hil
      rw [List.range'_succ, List.flatMap_cons, ints_app, ← List.append_assoc]
      have hal := len_aftr K hil a (nd (md p) i).kids.length 0 (Nat.zero_add _)
      rw [List.drop_zero] at hal
      have hks := kids_small K hil
      have hj2 : ∀ acc2 : List Int, acc2.length ≤ 1640 * i + 40 → Ev (fun k => spec_l8Follow.j2 k p (a : Int) acc2 (i : Int) (at_ p i).f0 (at_ p i).f1 (at_ p i).f2 (at_ p i).f3) (srt ((acc2 ++ ints (if (nd (md p) i).kind = 2 then aftr (md p) a (nd (md p) i).kids else [])) ++ ints ((List.range' (i + 1) m).flatMap (adds (md p) a)))) := by
        intro acc2 hl2
        rw [hkind]
        by_cases k2 : (at_ p i).f0 = 2
        · rw [if_pos k2]
          have h1 := spec_follow_l1 K (a := a) hil (fun acc => srt (acc ++ ints ((List.range' (i + 1) m).flatMap (adds (md p) a)))) (fun acc' hl' => ih (i + 1) acc' (by omega) hl') (nd (md p) i).kids.length 0 acc2 (Nat.zero_add _) (by rw [List.drop_zero]; omega)
          rw [List.drop_zero] at h1
          refine Ev.step (fun k => ?_) h1
          conv => lhs; unfold spec_l8Follow.j2
          rw [if_pos k2]
          rfl
        · rw [if_neg k2, show acc2 ++ ints [] = acc2 from List.append_nil _]
          refine Ev.step (fun k => ?_) (ih (i + 1) acc2 (by omega) (by omega))
          conv => lhs; unfold spec_l8Follow.j2
          rw [if_neg k2, w1n hil (by omega)]
      unfold adds
      rw [ints_app, ← List.append_assoc, hoft, oft_three K hil]
      have hno : Ev (fun k => spec_l8Follow.j1 k p (a : Int) acc (i : Int) false (at_ p i).f0 (at_ p i).f1 (at_ p i).f2 (at_ p i).f3) (srt ((acc ++ ints (if (nd (md p) i).kind = 2 then aftr (md p) a (nd (md p) i).kids else [])) ++ ints ((List.range' (i + 1) m).flatMap (adds (md p) a)))) := by
        refine Ev.step (fun k => ?_) (hj2 acc (by omega))
        conv => lhs; unfold spec_l8Follow.j1
        rw [if_neg (by decide)]
      by_cases c3 : (at_ p i).f3 ≥ 2
      · refine Ev.step (f := fun k => (spec_l8Edge.f k p (i : Int) true).bind fun t355 => ((spec_l8Has.f k t355 (a : Int)).bind fun t358 => (spec_l8Follow.j1 k p (a : Int) acc (i : Int) t358 (at_ p i).f0 (at_ p i).f1 (at_ p i).f2 (at_ p i).f3))) (fun k => ?_) (Ev.bind (e_true K hil) (Ev.bind (spec_has _ a (by have := len_lstS K hil; omega)) ?_))
        · conv => lhs; unfold spec_l8Follow.l0
          rw [if_pos (by omega), if_pos (by omega), e, if_pos c3]
        · by_cases n : a ∈ lstS (md p) i
          · rw [decide_eq_true n, if_pos ⟨decide_eq_true c3, n⟩]
            refine Ev.step (f := fun k => (spec_l8Edge.f k p (i : Int) false).bind fun t359 => (if acc.length + t359.length < 17592186044416 then (spec_l8Follow.j2 k p (a : Int) (acc ++ t359) (i : Int) (at_ p i).f0 (at_ p i).f1 (at_ p i).f2 (at_ p i).f3) else (none))) (fun k => ?_) (Ev.bind (e_false K hil) ?_)
            · conv => lhs; unfold spec_l8Follow.j1
              rw [if_pos rfl]
            · refine Ev.congr (fun k => ?_) (hj2 (acc ++ ints (fst (md p) i)) (by rw [List.length_append, ints_len]; omega))
              rw [if_pos (by rw [ints_len]; omega)]
          · rw [decide_eq_false n, if_neg (fun h => n h.2), show acc ++ ints [] = acc from List.append_nil _]
            exact hno
      · rw [if_neg (fun h => c3 (of_decide_eq_true h.1)), show acc ++ ints [] = acc from List.append_nil _]
        refine Ev.step (fun k => ?_) hno
        conv => lhs; unfold spec_l8Follow.l0
        rw [if_pos (by omega), if_pos (by omega), e, if_neg c3]
  have := loop p.length 0 [] (Nat.zero_add _) (by simp)
  rw [← List.range_eq_range'] at this
  unfold folS
  rw [md_len]
  exact this
theorem spec_pos (a : Int) : spec_l8Pos.f p a = some (decide (0 ≤ a ∧ a < p.length) && posB (at_ p a.toNat)) := by
  have hm := K.most
  have h1 := K.one
  unfold spec_l8Pos.f
  rw [lin_ok, w64 (by omega) (by omega)]
  simp only [Option.bind_some]
  by_cases c : 0 ≤ a ∧ a < (p.length : Int)
  · rw [decide_eq_true (show 0 ≤ a ∧ a ≤ (p.length : Int) - 1 by omega), decide_eq_true c, if_pos rfl, if_pos c.1, if_pos c.2, Bool.true_and]
    have e : rd_T49 p a = at_ p a.toNat := by
      unfold at_
      congr 1
      omega
    rw [e]
    unfold posB
    by_cases k1 : (at_ p a.toNat).f0 = 1
    · rw [if_pos k1, k1]; rfl
    · rw [if_neg k1, beq_eq_false_iff_ne.2 k1]; rfl
  · rw [decide_eq_false (fun h => c (by omega)), decide_eq_false c]
    rfl
end
/-- Once each, and small. -/
theorem ris_len : ∀ (n : Nat) (l : List Int), Ris l → (∀ x ∈ l, 0 ≤ x ∧ x < (n : Int)) → l.length ≤ n := by
  have key : ∀ (l : List Int) (lo hi : Int), Ris l → (∀ x ∈ l, lo ≤ x ∧ x < hi) → lo ≤ hi → (l.length : Int) ≤ hi - lo := by
    intro l
    induction l with
    | nil => intro lo hi _ _ h; simp; omega
    | cons x l ih =>
      intro lo hi hr hb h
      have hx := hb x (by simp)
      unfold Ris at hr
      rw [List.pairwise_cons] at hr
      have := ih (x + 1) hi hr.2 (fun y hy => ⟨by have := hr.1 y hy; omega, (hb y (by simp [hy])).2⟩) (by omega)
      simp only [List.length_cons]
      omega
  intro n l hr hb
  have := key l 0 n hr hb (by omega)
  omega
/-- Both FollowOf's. -/
theorem follow_both (p : List PM) (hs : smallM p) (a : Int) : ∃ R : List Int, Ev (fun k => spec_FollowOf.f k p a) R ∧ Ev (fun k => impl_FollowOf.f k p a) R ∧ R.length ≤ 40 := by
  cases h : okV p with
  | false =>
    have h1 := spec_ok p hs
    have h2 := impl_ok p hs
    rw [h] at h1 h2
    exact ⟨[], Ev.bind h1 (Ev.now _), Ev.bind h2 (Ev.now _), by simp⟩
  | true =>
    have h1 := spec_ok p hs
    have h2 := impl_ok p hs
    rw [h] at h1 h2
    have K := okP h
    have hm := K.most
    have ho := K.one
    have hsp := spec_pos K a
    by_cases c : 0 ≤ a ∧ a < (p.length : Int)
    · obtain ⟨n, rfl⟩ : ∃ n : Nat, a = (n : Int) := ⟨a.toNat, by omega⟩
      have e : rd_T49 p (n : Int) = at_ p n := rfl
      rw [decide_eq_true c, Bool.true_and, Int.toNat_natCast] at hsp
      cases hp : posB (at_ p n) with
      | false =>
        rw [hp] at hsp
        refine ⟨[], Ev.bind h1 ?_, Ev.bind h2 ?_, by simp⟩
        · simp only [if_true, hsp]
          exact Ev.now _
        · simp only [if_true]
          rw [if_pos (by omega), e, hp]
          exact Ev.now _
      | true =>
        rw [hp] at hsp
        obtain ⟨N, hN, HN⟩ := net_tells h
        have hnl : n < p.length := by omega
        have hmem : ∀ x, x ∈ rdL N.fol (n : Int) ↔ x ∈ ints (folS (md p) n) := by
          intro x
          rw [HN.fol.mem n hnl x, mem_ints]
          constructor
          · rintro ⟨b, e, hb⟩
            refine ⟨b, e, (mem_folS K.tr.ahead).2 ?_⟩
            obtain ⟨j, hj, hb⟩ := hb
            exact ⟨j, by rw [md_len]; exact hj, hb⟩
          · rintro ⟨b, e, hb⟩
            obtain ⟨j, hj, hb⟩ := (mem_folS K.tr.ahead).1 hb
            exact ⟨b, e, j, by rw [md_len] at hj; exact hj, hb⟩
        refine ⟨srt (ints (folS (md p) n)), Ev.bind h1 ?_, Ev.bind h2 ?_, ?_⟩
        · simp only [if_true, hsp, Option.bind_some]
          exact Ev.bind (spec_follow K n) (Ev.now _)
        · simp only [if_true]
          rw [if_pos (by omega), e, if_pos hp, hN]
          simp only [Option.bind_some]
          rw [if_pos ⟨by omega, by rw [HN.fst]; simp, fun l hl => by
            rw [HN.fst] at hl
            obtain ⟨j, hj, rfl⟩ := List.mem_map.1 hl
            have := len_fst K (List.mem_range.1 hj)
            rw [ints_len]
            unfold LIMK
            omega, by rw [HN.fol.len]; omega⟩]
          have : nextF N p.length (n : Int) = srt (ints (folS (md p) n)) := by
            unfold nextF
            rw [if_neg (by omega)]
            exact srt_congr hmem
          rw [this]
          exact Ev.now _
        · refine Nat.le_trans (ris_len p.length _ (up_srt _) (fun x hx => ?_)) hm
          obtain ⟨b, e, hb⟩ := mem_ints.1 (mem_srt.1 hx)
          obtain ⟨j, hj, hb⟩ := (mem_folS K.tr.ahead).1 hb
          rw [md_len] at hj
          have := (led_le K hj hb).2
          omega
    · rw [decide_eq_false c, Bool.false_and] at hsp
      refine ⟨[], Ev.bind h1 ?_, Ev.bind h2 ?_, by simp⟩
      · simp only [if_true, hsp]
        exact Ev.now _
      · simp only [if_true]
        rw [if_neg (by omega)]
        exact Ev.now _
end Go.Proofs.Ytkflnbmmjnjgkaa.Pure

namespace Go.Proofs.Ytkflnbmmjnjgkaa.O
open Go.RowKit Go.Proofs.Ytkflnbmmjnjgkaa.L Go.Proofs.YtkflnbmmjnjgkaaW.PrintWords Go.Proofs.YtkflnbmmjnjgkaaW.PrintLast Go.Proofs.YtkflnbmmjnjgkaaW.PrintMore
set_option linter.unusedVariables false
set_option linter.unusedSimpArgs false

/-- Whatever reads as a datum of type t is a d, and is ok. -/
def Opens {H α : Type} (enc : TypeId × Value → H) (P : Program) (w : World) (base : Nat) (sp : Nat → Bool) (held : Bool) (t : TypeId) (d : Kd α) (ok : α → Prop) : Prop :=
  ∀ n cs x, DataW.trod enc P w base sp held n t cs = some x → ∃ a, d.K w a cs ∧ ok a
section
variable {H : Type} {enc : TypeId × Value → H} {P : Program} {w : World} {base : Nat} {sp : Nat → Bool} {held : Bool} {t : TypeId}
theorem opens_string (ht : P.underlying t = some .string) : Opens enc P w base sp held t Kd.string (fun s => s.size ≤ maxLen) := by
  intro n cs x h
  obtain ⟨s, rfl, _, hs⟩ := DataW.trod_string ht h
  exact ⟨s, rfl, hs⟩
theorem opens_int {k : IntKind} (ht : P.underlying t = some (.int k)) : Opens enc P w base sp held t (Kd.int k) (fun n => (Lit.int k n).wf = true) := by
  intro n cs x h
  obtain ⟨s, rfl, _, hs⟩ := DataW.trod_int ht h
  exact ⟨s, rfl, hs⟩
theorem rows_of {α : Type} {d : Kd α} {ok : α → Prop} {a : Addr} (len : Nat) (h : ∀ i, i < len → ∃ cs x, w.cells? base (a.add (i * d.sz)) d.sz = some cs ∧ d.K w x cs ∧ ok x) :
    ∃ xs : List α, xs.length = len ∧ ∀ i x, xs[i]? = some x → ok x ∧ ∃ cs, w.cells? base (a.add (i * d.sz)) d.sz = some cs ∧ d.K w x cs := by
  induction len with
  | zero => exact ⟨[], rfl, fun i x hx => by simp at hx⟩
  | succ m ih =>
    obtain ⟨xs, hl, hx⟩ := ih fun i hi => h i (by omega)
    obtain ⟨cs, x, hc, hk, ho⟩ := h m (by omega)
    refine ⟨xs ++ [x], by simp [hl], fun i y hy => ?_⟩
    by_cases hi : i < m
    · rw [List.getElem?_append_left (by omega)] at hy
      exact hx i y hy
    · have hlt := (List.getElem?_eq_some_iff.1 hy).1
      simp only [List.length_append, List.length_singleton, hl] at hlt
      have : i = m := by omega
      subst this
      rw [List.getElem?_append_right (by omega), hl] at hy
      simp at hy
      subst hy
      exact ⟨ho, cs, hc, hk⟩
theorem opens_slice {α : Type} {e : TypeId} {d : Kd α} {ok : α → Prop} (e' : Nat) (ht : P.underlying t = some (.slice e)) (hc : P.cellsOf e = d.sz)
    (ho : Opens enc P w base sp held e d ok) : Opens enc P w base sp held t (Kd.slice e' d) (fun xs => xs.length ≤ maxLen ∧ ∀ x ∈ xs, ok x) := by
  intro n cs x h
  rcases DataW.trod_slice ht h with ⟨rfl, _⟩ | ⟨a, len, cap, elems, rest, m, _, rfl, _, hb, hl, hm, hlen, hel, _, _⟩
  · exact ⟨[], ⟨none, 0, rfl, by simp, Kd.C_nil d w⟩, by simp [maxLen], fun x hx => by cases hx⟩
  · rw [hc] at hel
    obtain ⟨xs, hxl, hx⟩ := rows_of (w := w) (base := base) (d := d) (ok := ok) (a := a) len (fun i hi => by
      have h1 := hel i hi
      rw [List.getElem?_eq_getElem (by omega), Option.bind_eq_some_iff] at h1
      obtain ⟨cs, hcs, htr⟩ := h1
      obtain ⟨y, hk, hok⟩ := ho m cs _ htr
      exact ⟨cs, y, hcs, hk, hok⟩)
    refine ⟨xs, ⟨some a, cap, by rw [hxl], by omega, ?_⟩, by omega, fun x hx' => ?_⟩
    · refine ⟨rfl, by unfold maxLen at hm; omega, fun _ => ⟨a, rfl, fun j p hp => ?_⟩⟩
      obtain ⟨_, cs, hcs, hk⟩ := hx j p hp
      obtain ⟨_, hcl, hcell⟩ := World.cells?_some hcs
      refine ⟨cs, hcl, hk, fun i u hu => ?_⟩
      have hlt := (List.getElem?_eq_some_iff.1 hu).1
      have := hcell i (by omega)
      rw [hu] at this
      rw [← this]
      have e : a.add (j * d.sz + i) = (a.add (j * d.sz)).add i := (Addr.add_add a _ _).symm
      rw [e]
    · obtain ⟨i, hi⟩ := List.getElem?_of_mem hx'
      exact (hx i x hi).1
/-- A struct's fields, one cell each. -/
theorem field_cell {fs : Array Field} {cs : List Value} {x : DataW H × List MemPlace} {fuel : Nat} (ht : P.underlying t = some (.struct fs)) (h : DataW.trod enc P w base sp held fuel t cs = some x)
    (i : Nat) (f : Field) (hf : fs[i]? = some f) (hof : f.offset = i) (hcf : P.cellsOf f.type = 1) : ∃ n y, DataW.trod enc P w base sp held n f.type ((cs.drop i).take 1) = some y := by
  obtain ⟨xs, n, _, _, _, hxl, hall⟩ := DataW.trod_struct ht h
  have := hall i f hf
  have hlt := (Array.getElem?_eq_some_iff.1 hf).1
  rw [hof, hcf, List.getElem?_eq_getElem (by omega)] at this
  exact ⟨n, _, this⟩
end
/-- What a model's node that came in reads as. -/
def okPn (x : S46) : Prop := x.f1.size ≤ maxLen ∧ x.f2.length ≤ maxLen
theorem opens_pnode {H : Type} {enc : TypeId × Value → H} {w : World} {base : Nat} {sp : Nat → Bool} {held : Bool} :
    Opens enc Try.prog w base sp held 46 k46 okPn := by
  intro n cs x h
  have hl : cs.length = 4 := by
    obtain ⟨_, _, _, _, hcl, _, _⟩ := DataW.trod_struct Try.underlying46 h
    exact hcl.trans (by kernel_rfl)
  obtain ⟨n0, y0, h0⟩ := field_cell Try.underlying46 h 0 _ rfl rfl (by kernel_rfl)
  obtain ⟨n1, y1, h1⟩ := field_cell Try.underlying46 h 1 _ rfl rfl (by kernel_rfl)
  obtain ⟨n2, y2, h2⟩ := field_cell Try.underlying46 h 2 _ rfl rfl (by kernel_rfl)
  obtain ⟨n3, y3, h3⟩ := field_cell Try.underlying46 h 3 _ rfl rfl (by kernel_rfl)
  clear h
  obtain ⟨s0, e0, o0⟩ := opens_int (enc := enc) (base := base) (sp := sp) (held := held) (w := w) (k := .i64) Try.underlying2 _ _ _ h0
  obtain ⟨s1, e1, o1⟩ := opens_string (enc := enc) (base := base) (sp := sp) (held := held) (w := w) Try.underlying9 _ _ _ h1
  obtain ⟨s2, ⟨A2, c2, e2, l2, g2⟩, o2⟩ := opens_slice (enc := enc) (base := base) (sp := sp) (held := held) (w := w) 2 Try.underlying24 (by kernel_rfl) (opens_int (k := .i64) Try.underlying2) _ _ _ h2
  obtain ⟨s3, e3, o3⟩ := opens_int (enc := enc) (base := base) (sp := sp) (held := held) (w := w) (k := .i64) Try.underlying2 _ _ _ h3
  match cs, hl with
  | [c0, c1, c2', c3], _ =>
    obtain rfl : c0 = Value.int .i64 s0 := (List.cons.inj (show [c0] = [Value.int .i64 s0] from e0)).1
    obtain rfl : c1 = Value.string s1 := (List.cons.inj (show [c1] = [Value.string s1] from e1)).1
    obtain rfl : c2' = Value.slice A2 s2.length c2 := (List.cons.inj (show [c2'] = [Value.slice A2 s2.length c2] from e2)).1
    obtain rfl : c3 = Value.int .i64 s3 := (List.cons.inj (show [c3] = [Value.int .i64 s3] from e3)).1
    exact ⟨⟨s0, s1, s2, s3⟩, k46_mk w ⟨s0, s1, s2, s3⟩ l2 g2, o1, o2.1⟩
end Go.Proofs.Ytkflnbmmjnjgkaa.O

namespace Go.Proofs.Ytkflnbmmjnjgkaa.Pure
open Go.RowKit Go.Proofs.Ytkflnbmmjnjgkaa.L Go.Proofs.Ytkflnbmmjnjgkaa.O Go.Proofs.YtkflnbmmjnjgkaaW.PrintWords Go.Proofs.YtkflnbmmjnjgkaaW.PrintLast Go.Proofs.YtkflnbmmjnjgkaaW.PrintMore
set_option linter.unusedVariables false
set_option linter.unusedSimpArgs false

abbrev LPn : Type := S46
theorem rdLP (l : List LPn) (i : Nat) (h : i < l.length) : rd_T46 l (i : Int) = l[i] := by
  unfold rd_T46
  simp [h]
theorem rdPn (l : List PM) (i : Nat) (h : i < l.length) : rd_T49 l (i : Int) = l[i] := at_lt h
theorem wsub {c : Int} {m : Nat} (h0 : 0 ≤ c) (h1 : c ≤ 1048576) (hm : m ≤ 9223372036854775807) : wrap64 (c - (m : Int)) = c - m := by rw [w64] <;> omega
theorem mxLen : maxLen = 9223372036854775807 := by decide
def convP (x : LPn) : PM := ⟨x.f0, x.f1, x.f2, x.f3⟩
def smallP (x : PM) : Prop := x.f1.data.toList.length ≤ 1048576 ∧ x.f2.length ≤ 1048576
theorem set_mid {α : Type} (u : List α) (z v : α) (r : List α) : (u ++ z :: r).set u.length v = u ++ v :: r := by
  induction u with
  | nil => rfl
  | cons a u ih => simp [ih]
theorem set_copy {α β : Type} (f : α → β) (l : List α) (z : β) (i m : Nat) (h : i < l.length) : ((l.take i).map f ++ List.replicate (m + 1) z).set i (f l[i]) = (l.take (i + 1)).map f ++ List.replicate m z := by
  have hl : ((l.take i).map f).length = i := by simp; omega
  have := set_mid ((l.take i).map f) z (f l[i]) (List.replicate m z)
  rw [hl] at this
  rw [List.replicate_succ, this]
  rw [List.take_succ_eq_append_getElem h, List.map_append]
  simp
/-! #### sizes -/
theorem szZ (l : List Int) (hl : l.length ≤ 9223372036854775807) (c : Int) (h0 : 0 ≤ c) (h1 : c ≤ 1048576) : ∃ v, laws_szInt64S.f l c = some v ∧ (v < 0 ∨ (0 ≤ v ∧ v ≤ c ∧ l.length ≤ 1048576)) := by
  have hw := wsub h0 h1 hl
  unfold laws_szInt64S.f
  rw [hw]
  by_cases c0 : c - (l.length : Int) < 0
  · exact ⟨-1, by rw [if_pos c0], .inl (by decide)⟩
  · exact ⟨c - (l.length : Int), by rw [if_neg c0], .inr ⟨by omega, by omega, by omega⟩⟩
theorem szPn (x : LPn) (ok : okPn x) (c : Int) (h0 : 0 ≤ c) (h1 : c ≤ 1048576) :
    ∃ v, laws_szPNode.f x.f0 x.f1 x.f2 x.f3 c = some v ∧ (v < 0 ∨ (0 ≤ v ∧ v ≤ c ∧ smallP (convP x))) := by
  obtain ⟨o1, o2⟩ := ok
  rw [mxLen] at o1 o2
  have hw := wsub h0 h1 o1
  unfold laws_szPNode.f
  rw [hw]
  by_cases c0 : c - (x.f1.size : Int) < 0
  · exact ⟨-1, by rw [if_pos c0], .inl (by decide)⟩
  · obtain ⟨v, hv, hr⟩ := szZ x.f2 o2 (c - (x.f1.size : Int)) (by omega) (by omega)
    rw [if_neg c0, hv]
    simp only [Option.bind_some]
    rcases hr with h | ⟨a, b, d⟩
    · exact ⟨-1, by rw [if_pos h], .inl (by decide)⟩
    · exact ⟨v, by rw [if_neg (by omega)], .inr ⟨a, by omega, by show x.f1.data.toList.length ≤ _; rw [← sz]; omega, d⟩⟩
theorem szPS_l0 (l : List LPn) (hl : l.length ≤ 9223372036854775807) (hs : ∀ s ∈ l, okPn s) : ∀ (n i : Nat) (c : Int), i + n = l.length → 0 ≤ c → c ≤ 1048576 →
    ∃ v, Ev (fun k => laws_szPNodeS.l0 k l c (i : Int)) v ∧ (v < 0 ∨ (0 ≤ v ∧ v ≤ c ∧ ∀ s ∈ l.drop i, smallP (convP s))) := by
  intro n
  induction n with
  | zero =>
    intro i c hi h0 h1
    refine ⟨c, Ev.step (f := fun _ => some c) (fun k => ?_) (Ev.now _), .inr ⟨h0, Int.le_refl _, ?_⟩⟩
    · unfold laws_szPNodeS.l0
      rw [if_neg (by omega)]
    · rw [List.drop_of_length_le (by omega)]; intro s hs; cases hs
  | succ n ih =>
    intro i c hi h0 h1
    have hlt : i < l.length := by omega
    obtain ⟨v, hv, hr⟩ := szPn l[i] (hs _ (List.getElem_mem hlt)) c h0 h1
    have hf : ∀ k, laws_szPNodeS.l0 (k + 1) l c (i : Int) = if v < 0 then (some (-1)) else (laws_szPNodeS.l0 k l v ((i + 1 : Nat) : Int)) := by
      intro k
      conv => lhs; unfold laws_szPNodeS.l0
      rw [if_pos (by omega), if_pos (by omega), rdLP l i hlt, w1n hlt hl, hv, Option.bind_some]
    rcases hr with h | ⟨a, b, d⟩
    · refine ⟨-1, Ev.step hf ?_, .inl (by decide)⟩
      simp only [if_pos h]
      exact Ev.now _
    · obtain ⟨v2, hv2, hr2⟩ := ih (i + 1) v (by omega) a (by omega)
      refine ⟨v2, Ev.step hf ?_, ?_⟩
      · simp only [if_neg (show ¬ v < 0 by omega)]
        exact hv2
      · rcases hr2 with h | ⟨a2, b2, d2⟩
        · exact .inl h
        · refine .inr ⟨a2, by omega, fun s hs => ?_⟩
          rw [List.drop_eq_getElem_cons hlt] at hs
          rcases List.mem_cons.1 hs with e | e
          · subst e; exact d
          · exact d2 s e
theorem szPS (l : List LPn) (hl : l.length ≤ 9223372036854775807) (hs : ∀ s ∈ l, okPn s) :
    ∃ v, Ev (fun k => laws_szPNodeS.f k l 1048576) v ∧ (v < 0 ∨ (0 ≤ v ∧ v ≤ 1048576 ∧ l.length ≤ 1048576 ∧ ∀ s ∈ l, smallP (convP s))) := by
  have hw := wsub (c := 1048576) (by decide) (by decide) hl
  by_cases c0 : (1048576 : Int) - (l.length : Int) < 0
  · refine ⟨-1, Ev.congr (f := fun _ => some (-1)) (fun k => ?_) (Ev.now _), .inl (by decide)⟩
    unfold laws_szPNodeS.f
    rw [hw, if_pos c0]
  · obtain ⟨v, hv, hr⟩ := szPS_l0 l hl hs l.length 0 (1048576 - (l.length : Int)) (by omega) (by omega) (by omega)
    refine ⟨v, Ev.congr (f := fun k => laws_szPNodeS.l0 k l (1048576 - (l.length : Int)) ((0 : Nat) : Int)) (fun k => ?_) hv, ?_⟩
    · unfold laws_szPNodeS.f
      rw [hw, if_neg c0]
      rfl
    · rcases hr with h | ⟨a, b, d⟩
      · exact .inl h
      · exact .inr ⟨a, by omega, by omega, by simpa using d⟩
/-! #### copies -/
theorem toZ_l0 (l : List Int) (hl : l.length ≤ 9223372036854775807) : ∀ (n i : Nat), i + n = l.length →
    Ev (fun k => laws_toInt64S.l0 k l ((l.take i).map id ++ List.replicate n 0) (i : Int)) (l.map id) := by
  intro n
  induction n with
  | zero =>
    intro i hi
    have e : (l.take i).map id ++ List.replicate 0 (0 : Int) = l.map id := by rw [List.take_of_length_le (by omega)]; simp
    rw [e]
    refine Ev.step (f := fun _ => some (l.map id)) (fun k => ?_) (Ev.now _)
    unfold laws_toInt64S.l0
    rw [if_neg (by omega)]
  | succ n ih =>
    intro i hi
    have hlt : i < l.length := by omega
    refine Ev.step (f := fun k => laws_toInt64S.l0 k l ((l.take (i + 1)).map id ++ List.replicate n 0) ((i + 1 : Nat) : Int)) (fun k => ?_) (ih (i + 1) (by omega))
    conv => lhs; unfold laws_toInt64S.l0
    have hlen : ((l.take i).map id ++ List.replicate (n + 1) (0 : Int)).length = l.length := by simp; omega
    rw [if_pos (by omega), if_pos (by omega), hlen, if_pos (by omega), rdZ l i hlt, w1n hlt hl, Int.toNat_natCast]
    have := set_copy (id : Int → Int) l 0 i n hlt
    rw [show id l[i] = l[i] from rfl] at this
    rw [this]
theorem toZ (l : List Int) (hl : l.length ≤ 1048576) : Ev (fun k => laws_toInt64S.f k l) l := by
  have h := toZ_l0 l (by omega) l.length 0 (by omega)
  rw [show l.map id = l from List.map_id l] at h
  refine Ev.congr (fun k => ?_) h
  unfold laws_toInt64S.f
  rw [if_pos (by omega), Int.toNat_natCast, if_pos (by omega)]
  simp
theorem toP_l0 (l : List LPn) (hl : l.length ≤ 1048576) (hs : ∀ s ∈ l, smallP (convP s)) : ∀ (n i : Nat), i + n = l.length →
    Ev (fun k => laws_toPNodeS.l0 k l ((l.take i).map convP ++ List.replicate n z49) (i : Int)) (l.map convP) := by
  intro n
  induction n with
  | zero =>
    intro i hi
    have e : (l.take i).map convP ++ List.replicate 0 z49 = l.map convP := by rw [List.take_of_length_le (by omega)]; simp
    rw [e]
    refine Ev.step (f := fun _ => some (l.map convP)) (fun k => ?_) (Ev.now _)
    unfold laws_toPNodeS.l0
    rw [if_neg (by omega)]
  | succ n ih =>
    intro i hi
    have hlt : i < l.length := by omega
    have hsm := hs _ (List.getElem_mem hlt)
    have ht := toZ l[i].f2 hsm.2
    have hlen : ((l.take i).map convP ++ List.replicate (n + 1) z49).length = l.length := by simp; omega
    have hset := set_copy convP l z49 i n hlt
    refine Ev.step (f := fun k => (laws_toInt64S.f k l[i].f2).bind fun t => laws_toPNodeS.l0 k l (((l.take i).map convP ++ List.replicate (n + 1) z49).set i (⟨l[i].f0, l[i].f1, t, l[i].f3⟩ : PM)) ((i + 1 : Nat) : Int)) (fun k => ?_) (Ev.bind ht ?_)
    · conv => lhs; unfold laws_toPNodeS.l0
      rw [if_pos (by omega), if_pos (by omega), rdLP l i hlt]
      unfold laws_toPNode.f
      cases laws_toInt64S.f k l[i].f2 with
      | none => rfl
      | some t =>
        simp only [Option.bind_some]
        rw [hlen, if_pos (by omega), w1n hlt (by omega), Int.toNat_natCast]
    · rw [show (⟨l[i].f0, l[i].f1, l[i].f2, l[i].f3⟩ : PM) = convP l[i] from rfl, hset]
      exact ih (i + 1) (by omega)
theorem toPS (l : List LPn) (hl : l.length ≤ 1048576) (hs : ∀ s ∈ l, smallP (convP s)) : Ev (fun k => laws_toPNodeS.f k l) (l.map convP) := by
  refine Ev.congr (f := fun k => laws_toPNodeS.l0 k l ((l.take 0).map convP ++ List.replicate l.length z49) ((0 : Nat) : Int)) (fun k => ?_) (toP_l0 l hl hs l.length 0 (by omega))
  unfold laws_toPNodeS.f
  rw [if_pos (by omega), Int.toNat_natCast, if_pos (by omega)]
  simp
/-! #### equal to themselves -/
theorem eqZ_l0 (l : List Int) (hl : l.length ≤ 1048576) : ∀ (n i : Nat), i + n = l.length → Ev (fun k => laws_eqInt64S.l0 k l l (i : Int)) true := by
  intro n
  induction n with
  | zero =>
    intro i hi
    refine Ev.step (f := fun _ => some true) (fun k => ?_) (Ev.now _)
    conv => lhs; unfold laws_eqInt64S.l0
    rw [if_neg (by omega)]
  | succ n ih =>
    intro i hi
    have hlt : i < l.length := by omega
    refine Ev.step (fun k => ?_) (ih (i + 1) (by omega))
    conv => lhs; unfold laws_eqInt64S.l0
    rw [if_pos (by omega), if_pos (by omega), if_pos (by omega), if_pos rfl, w1n hlt (by omega)]
theorem eqZ (l : List Int) (hl : l.length ≤ 1048576) : Ev (fun k => laws_eqInt64S.f k l l) true := by
  refine Ev.congr (fun k => ?_) (eqZ_l0 l hl l.length 0 (by omega))
  unfold laws_eqInt64S.f
  rw [if_pos rfl]
  rfl
theorem eqP_l0 (l : List PM) (hl : l.length ≤ 1048576) (hs : ∀ s ∈ l, smallP s) : ∀ (n i : Nat), i + n = l.length → Ev (fun k => laws_eqPNodeS.l0 k l l (i : Int)) true := by
  intro n
  induction n with
  | zero =>
    intro i hi
    refine Ev.step (f := fun _ => some true) (fun k => ?_) (Ev.now _)
    conv => lhs; unfold laws_eqPNodeS.l0
    rw [if_neg (by omega)]
  | succ n ih =>
    intro i hi
    have hlt : i < l.length := by omega
    have ha := eqZ l[i].f2 (hs _ (List.getElem_mem hlt)).2
    refine Ev.step (f := fun k => (laws_eqInt64S.f k l[i].f2 l[i].f2).bind fun t => (if t = true then (laws_eqPNodeS.l0 k l l ((i + 1 : Nat) : Int)) else (some false))) (fun k => ?_) (Ev.bind ha ?_)
    · conv => lhs; unfold laws_eqPNodeS.l0
      rw [if_pos (by omega), if_pos (by omega), if_pos (by omega), rdPn l i hlt]
      unfold laws_eqPNode.f
      rw [if_pos rfl, if_pos rfl, w1n hlt (by omega)]
      cases laws_eqInt64S.f k l[i].f2 l[i].f2 with
      | none => rfl
      | some t => cases t <;> simp
    · simp only [if_true]
      exact ih (i + 1) (by omega)
theorem eqPS (l : List PM) (hl : l.length ≤ 1048576) (hs : ∀ s ∈ l, smallP s) : Ev (fun k => laws_eqPNodeS.f k l l) true := by
  refine Ev.congr (fun k => ?_) (eqP_l0 l hl hs l.length 0 (by omega))
  unfold laws_eqPNodeS.f
  rw [if_pos rfl]
  rfl
/-! #### marks -/
theorem ba_size_app (a b : ByteArray) : (a ++ b).size = a.size + b.size := ByteArray.size_append
theorem digit_size (x : Int) : (strOfNums [x]).size = 1 := by
  unfold strOfNums
  rfl
theorem markText_l0 : ∀ (a : Nat) (s : ByteArray), s.size + a ≤ 4611686018427387904 → ∃ r, Ev (fun k => laws_markText.l0 k (a : Int) s) r := by
  intro a
  induction a using Nat.strongRecOn with
  | _ a ih =>
  intro s hs
  by_cases c : 0 < a
  · have e1 : wrap64 (Int.tdiv (a : Int) 10) = ((a / 10 : Nat) : Int) := by
      rw [show Int.tdiv (a : Int) 10 = ((a / 10 : Nat) : Int) from rfl]
      rw [w64] <;> omega
    obtain ⟨r, hr⟩ := ih (a / 10) (by omega) (strOfNums [(wrap64 (48 + (Int.tmod (a : Int) 10))) % 256] ++ s) (by rw [ba_size_app, digit_size]; omega)
    refine ⟨r, Ev.step (fun k => ?_) hr⟩
    conv => lhs; unfold laws_markText.l0
    rw [if_pos (by omega), Option.bind_some, if_pos (by rw [digit_size]; omega), e1]
  · refine ⟨(⟨#[109]⟩ : ByteArray) ++ s, Ev.step (f := fun _ => some ((⟨#[109]⟩ : ByteArray) ++ s)) (fun k => ?_) (Ev.now _)⟩
    conv => lhs; unfold laws_markText.l0
    rw [if_neg (by omega), if_pos (by omega)]
theorem markText_ev (a : Int) (h0 : 0 ≤ a) (h1 : a ≤ 4611686018427387904) : ∃ r, Ev (fun k => laws_markText.f k a) r := by
  by_cases c : a ≤ 0
  · refine ⟨⟨#[109, 48]⟩, Ev.congr (f := fun _ => some ⟨#[109, 48]⟩) (fun k => ?_) (Ev.now _)⟩
    unfold laws_markText.f
    rw [if_pos c]
  · obtain ⟨r, hr⟩ := markText_l0 a.toNat ⟨#[]⟩ (by simp only [ByteArray.size]; simp; omega)
    refine ⟨r, Ev.congr (fun k => ?_) hr⟩
    unfold laws_markText.f
    rw [if_neg c, show ((a.toNat : Nat) : Int) = a by omega]
theorem markZ_any : ∀ (n : Nat) (l : List Int) (i : Nat) (a : Int), i + n = l.length → l.length ≤ 1048576 → 0 ≤ a → a + n ≤ 4611686018427387904 → ∃ r, Ev (fun k => laws_markInt64S.l0 k l a (i : Int)) r ∧ r.1 = a + n := by
  intro n
  induction n with
  | zero =>
    intro l i a hi hl h0 h1
    refine ⟨(a, l), Ev.step (f := fun _ => some (a, l)) (fun k => ?_) (Ev.now _), by simp⟩
    conv => lhs; unfold laws_markInt64S.l0
    rw [if_neg (by omega)]
  | succ n ih =>
    intro l i a hi hl h0 h1
    obtain ⟨r, hr, hr1⟩ := ih (l.set i a) (i + 1) (a + 1) (by rw [List.length_set]; omega) (by rw [List.length_set]; omega) (by omega) (by omega)
    refine ⟨r, Ev.step (fun k => ?_) hr, by rw [hr1]; omega⟩
    conv => lhs; unfold laws_markInt64S.l0
    rw [if_pos (by omega), if_pos (by omega), Int.toNat_natCast, w64 (by omega) (by omega), w1n (show i < l.length by omega) (by omega)]
theorem markP_go : ∀ (l : List PM) (a : Int), (∀ x ∈ l, smallP x) → 0 ≤ a → a + 4194304 * l.length ≤ 4611686018427387904 → ∃ r, Ev (fun k => laws_markPNodeS.go k l a) r ∧ 0 ≤ r
  | [], a, _, h0, _ => ⟨a, Ev.now _, h0⟩
  | x :: l, a, hs, h0, h1 => by
    simp only [List.length_cons] at h1
    have hx := (hs x (by simp)).2
    have e1 : wrap64 (a + 1) = a + 1 := by rw [w64] <;> omega
    have e2 : wrap64 (a + 1 + 1) = a + 1 + 1 := by rw [w64] <;> omega
    obtain ⟨t1, ht1⟩ := markText_ev (a + 1) (by omega) (by omega)
    obtain ⟨p, hp, hp1⟩ := markZ_any x.f2.length x.f2 0 (a + 1 + 1) (by omega) hx (by omega) (by omega)
    have e3 : wrap64 (p.1 + 1) = p.1 + 1 := by rw [w64] <;> omega
    obtain ⟨r, hr, hr0⟩ := markP_go l (p.1 + 1) (fun y hy => hs y (by simp [hy])) (by omega) (by omega)
    refine ⟨r, ?_, hr0⟩
    unfold laws_markPNodeS.go
    simp only [e1, e2]
    refine Ev.bind ht1 (Ev.bind hp ?_)
    rw [e3]
    exact hr
theorem markPS (l : List PM) (hl : l.length ≤ 1048576) (hs : ∀ x ∈ l, smallP x) : ∃ r, Ev (fun k => laws_markPNodeS.f k l 1) r ∧ 0 ≤ r := markP_go l 1 hs (by omega) (by omega)
/-! numbers -/
def markL (n : Nat) : List Int := (List.range n).map (fun j => ((j + 1 : Nat) : Int))
theorem markL_len (n : Nat) : (markL n).length = n := by simp [markL]
theorem markL_next (n : Nat) : markL (n + 1) = markL n ++ [((n + 1 : Nat) : Int)] := by
  unfold markL
  rw [List.range_succ, List.map_append]
  rfl
theorem markZ_l0 (l : List Int) (hl : l.length ≤ 1048576) : ∀ (n i : Nat), i + n = l.length → Ev (fun k => laws_markInt64S.l0 k (markL i ++ l.drop i) ((i + 1 : Nat) : Int) (i : Int)) (((l.length + 1 : Nat) : Int), markL l.length) := by
  intro n
  induction n with
  | zero =>
    intro i hi
    rw [show i = l.length by omega, List.drop_length, List.append_nil]
    refine Ev.step (f := fun _ => some (((l.length + 1 : Nat) : Int), markL l.length)) (fun k => ?_) (Ev.now _)
    conv => lhs; unfold laws_markInt64S.l0
    rw [if_neg (by rw [markL_len]; omega)]
  | succ n ih =>
    intro i hi
    have hlt : i < l.length := by omega
    have hlen : (markL i ++ l.drop i).length = l.length := by rw [List.length_append, markL_len, List.length_drop]; omega
    have hset : (markL i ++ l.drop i).set i ((i + 1 : Nat) : Int) = markL (i + 1) ++ l.drop (i + 1) := by
      have := set_mid (markL i) l[i] ((i + 1 : Nat) : Int) (l.drop (i + 1))
      rw [markL_len, ← List.drop_eq_getElem_cons hlt] at this
      rw [this, markL_next, List.append_assoc]
      rfl
    refine Ev.step (fun k => ?_) (ih (i + 1) (by omega))
    conv => lhs; unfold laws_markInt64S.l0
    rw [if_pos (by omega), if_pos (by omega), Int.toNat_natCast, hset, w1n hlt (by omega), w1n (i := i + 1) (m := i + 2) (by omega) (by omega)]
theorem markZ (l : List Int) (hl : l.length ≤ 1048576) : Ev (fun k => laws_markInt64S.f k l 1) (((l.length + 1 : Nat) : Int), markL l.length) := by
  have := markZ_l0 l hl l.length 0 (by omega)
  exact this
theorem heldZ_l0 (m : Nat) (hm : m ≤ 1048576) : ∀ (n i : Nat), i + n = m → Ev (fun k => laws_heldInt64S.l0 k (markL m) ((i + 1 : Nat) : Int) (i : Int)) ((m + 1 : Nat) : Int) := by
  intro n
  induction n with
  | zero =>
    intro i hi
    rw [show i = m by omega]
    refine Ev.step (f := fun _ => some ((m + 1 : Nat) : Int)) (fun k => ?_) (Ev.now _)
    conv => lhs; unfold laws_heldInt64S.l0
    rw [if_neg (by rw [markL_len]; omega)]
  | succ n ih =>
    intro i hi
    have hlt : i < (markL m).length := by rw [markL_len]; omega
    refine Ev.step (fun k => ?_) (ih (i + 1) (by omega))
    conv => lhs; unfold laws_heldInt64S.l0
    rw [if_pos (by omega), if_pos (by omega), rdZ _ i hlt, if_pos (by simp [markL]), w1n hlt (by rw [markL_len]; omega), w1n (i := i + 1) (m := i + 2) (by omega) (by omega)]
theorem heldZ (m : Nat) (hm : m ≤ 1048576) : Ev (fun k => laws_heldInt64S.f k (markL m) 1) ((m + 1 : Nat) : Int) := heldZ_l0 m hm m 0 (by omega)
end Go.Proofs.Ytkflnbmmjnjgkaa.Pure

namespace Go.Proofs.Ytkflnbmmjnjgkaa.L
open Go.RowKit Go.Proofs.Ytkflnbmmjnjgkaa.O Go.Proofs.YtkflnbmmjnjgkaaW.PrintWords Go.Proofs.YtkflnbmmjnjgkaaW.PrintLast Go.Proofs.YtkflnbmmjnjgkaaW.PrintMore
set_option linter.unusedVariables false
def laws_FnExactFollowOf.Pure : Prop := ∀ (l : List S46) (a : Int) , l.length ≤ 9223372036854775807 → (∀ x ∈ l, okPn x) → ∃ k, laws_FnExactFollowOf.f k l a = some true
theorem laws_FnExactFollowOf.walk (P : laws_FnExactFollowOf.Pure) (A0 : Option Addr) (c0 : Nat) (l : List S46) (a : Int) (w : World) (hr : Kd.C k46 w A0 l.length l) (hc : l.length ≤ c0) (hl : l.length ≤ 9223372036854775807) (ok : ∀ x ∈ l, okPn x) :
    Calls Try.prog 5 #[.slice A0 l.length c0, .int .i64 a] w fun e w' => e = .returned (.bool true) ∧ Below w.heap.size w w' := by
  obtain ⟨k, h⟩ := P l a hl ok
  refine (laws_FnExactFollowOf.calls k A0 c0 l a true w hr hc h).mono ?_
  rintro e w' ⟨rfl, hd⟩
  exact ⟨rfl, hd⟩
end Go.Proofs.Ytkflnbmmjnjgkaa.L

namespace Go.Proofs.Ytkflnbmmjnjgkaa.Pure
open Go.RowKit Go.Proofs.Ytkflnbmmjnjgkaa.L Go.Proofs.Ytkflnbmmjnjgkaa.O Go.Proofs.YtkflnbmmjnjgkaaW.PrintWords Go.Proofs.YtkflnbmmjnjgkaaW.PrintLast Go.Proofs.YtkflnbmmjnjgkaaW.PrintMore
set_option linter.unusedVariables false
set_option linter.unusedSimpArgs false

theorem FnExactFollowOf : laws_FnExactFollowOf.Pure := by
  intro l a hl ok
  obtain ⟨v, hv, hr⟩ := szPS l hl ok
  suffices this : Ev (fun k => laws_FnExactFollowOf.f k l a) true from this.rounds
  rcases hr with h | ⟨h0, h1, hl2, hs⟩
  · refine (Ev.congr (fun k => rfl) (Ev.bind hv (Ev.congr (f := fun _ => some true) (fun k => ?_) (Ev.now true))))
    rw [if_pos h]
  · have hs2 : ∀ x ∈ l.map convP, smallP x := by
      intro x hx
      obtain ⟨y, hy, rfl⟩ := List.mem_map.1 hx
      exact hs y hy
    have hl3 : (l.map convP).length ≤ 1048576 := by rw [List.length_map]; exact hl2
    have hto := toPS l hl2 hs
    obtain ⟨R, hsp, him, hRl⟩ := follow_both (l.map convP) hs2 a
    obtain ⟨r, hm, hm0⟩ := markPS (l.map convP) hl3 hs2
    have he := eqZ R (by omega)
    have hep := eqPS (l.map convP) hl3 hs2
    have hmz := markZ R (by omega)
    have hhz := heldZ R.length (by omega)
    have hj : Ev (fun k => laws_FnExactFollowOf.j0 k l a R R false) true := by
      refine Ev.step (f := fun k => (laws_markInt64S.f k R 1).bind fun bt => ((laws_heldInt64S.f k bt.2 1).bind fun t => (if t < 0 then (some false) else (if t = bt.1 then ((laws_toPNodeS.f k l).bind fun u => ((impl_FollowOf.f k u a).bind fun v => ((laws_eqInt64S.f k v R).bind fun y => (if y = true then ((laws_heldInt64S.f k bt.2 1).bind fun z => (if z < 0 then (some false) else (if z = bt.1 then (some true) else (some false)))) else (some false))))) else (some false))))) (fun k => rfl) (Ev.bind hmz (Ev.bind hhz ?_))
      · simp only [if_neg (show ¬ ((R.length + 1 : Nat) : Int) < 0 by omega), if_true]
        refine Ev.bind hto (Ev.bind him (Ev.bind he ?_))
        simp only [if_true]
        refine Ev.bind hhz ?_
        simp only [if_neg (show ¬ ((R.length + 1 : Nat) : Int) < 0 by omega), if_true]
        exact Ev.now _
    refine (Ev.congr (fun k => rfl) (Ev.bind hv (Ev.congr (f := fun k => (laws_toPNodeS.f k l).bind fun p => (spec_FollowOf.f k p a).bind fun x => (laws_toPNodeS.f k l).bind fun q => (impl_FollowOf.f k q a).bind fun y => (laws_eqInt64S.f k y x).bind fun t => (if t = true then ((laws_toPNodeS.f k l).bind fun z => ((laws_eqPNodeS.f k q z).bind fun u => (if u = true then ((laws_markPNodeS.f k q 1).bind fun m => (if m < 0 then (laws_FnExactFollowOf.j0 k l a x y true) else ((laws_eqInt64S.f k y x).bind fun s => (laws_FnExactFollowOf.j0 k l a x y (!s))))) else (some false)))) else (some false))) (fun k => ?_) (Ev.bind hto (Ev.bind hsp (Ev.bind hto (Ev.bind him (Ev.bind he ?_))))))))
    · rw [if_neg (by omega)]
    · simp only [if_true]
      refine Ev.bind hto (Ev.bind hep ?_)
      simp only [if_true]
      refine Ev.bind hm ?_
      simp only [if_neg (show ¬ r < 0 by omega)]
      exact Ev.bind he hj
end Go.Proofs.Ytkflnbmmjnjgkaa.Pure
