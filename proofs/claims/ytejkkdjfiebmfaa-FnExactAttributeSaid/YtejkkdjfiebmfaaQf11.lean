/- Words and contracts for the row RowFnExactAttribute: what the Go functions answer that it calls; printed by programs of the kit and of this session, and merged. -/
import Derived.Test.YtejkkdjfiebmfaaQf10
import Derived.Lib.Hide
import Derived.Outline
import Derived.ChangeArms
import Derived.ChangeSlices
import Derived.DataElems
namespace Go.Proofs.Ytejkkdjfiebmfaa.Pure
open Go.RowKit Go.Proofs.Ytejkkdjfiebmfaa.L Go.Proofs.YtejkkdjfiebmfaaW.PrintWords Go.Proofs.YtejkkdjfiebmfaaW.PrintLast Go.Proofs.YtejkkdjfiebmfaaW.PrintMore
open MT
set_option linter.unusedVariables false
set_option linter.unusedSimpArgs false

def mdN (n : PM) : Nd := ⟨n.f0, n.f1, n.f2.map Int.toNat, n.f3⟩
def md (p : List PM) : Md := p.map mdN
def loT (p : List PM) (j : Nat) : Nat := (tf p j).getD 0
def ints (l : List Nat) : List Int := l.map fun n : Nat => (n : Int)
theorem nd_md {p : List PM} {i : Nat} (h : i < p.length) : nd (md p) i = mdN (at_ p i) := by
  unfold nd md
  rw [at_lt h]
  simp [h]
theorem md_len (p : List PM) : (md p).length = p.length := List.length_map _
theorem chF_chain {g : Nat → Option Nat} : ∀ (ks : List Int) (e f : Nat), chF g e ks.reverse = some f → Chain (fun j => (g j).getD 0) e (ks.map Int.toNat) f
  | [], e, f, h => (Option.some.inj h).symm
  | k :: ks, e, f, h => by
    rw [List.reverse_cons, chF_app] at h
    obtain ⟨m, h1, h2⟩ := Option.bind_eq_some_iff.1 h
    refine ⟨m, chF_chain ks e m h1, ?_⟩
    unfold chF at h2
    by_cases c : 0 < m ∧ k = (m : Int) - 1
    · rw [if_pos c] at h2
      obtain ⟨f1, h3, h4⟩ := Option.bind_eq_some_iff.1 h2
      have h5 : f1 = f := Option.some.inj h4
      refine ⟨by omega, ?_⟩
      show f = (g k.toNat).getD 0
      rw [show k.toNat = m - 1 by omega, h3, h5]
      rfl
    · rw [if_neg c] at h2; cases h2
structure OkP (p : List PM) : Prop where
  one : 1 ≤ p.length
  most : p.length ≤ 40
  ok : ∀ i, i < p.length → okN (at_ p i) = true
  tree : ∀ i, i < p.length → (tf p i).isSome = true
  root : tf p (p.length - 1) = some 0
  deep : dp p (p.length - 1) ≤ 9
  comp : posN (at_ p (p.length - 1)) = false
theorem okP {p : List PM} (h : okV p = true) : OkP p := by
  unfold okV at h
  simp only [Bool.and_eq_true, decide_eq_true_eq, List.all_eq_true, List.mem_range, Bool.not_eq_true', beq_iff_eq] at h
  obtain ⟨⟨⟨⟨⟨a, b⟩, c⟩, d⟩, e⟩, f⟩ := h
  exact ⟨a, b, fun i hi => (c i hi).1, fun i hi => (c i hi).2, d, f, e⟩
section
variable {p : List PM} (K : OkP p)
include K
theorem OkP.kinds {i : Nat} (hi : i < p.length) : (posB (at_ p i) = true ∧ (at_ p i).f2 = []) ∨ ((at_ p i).f0 = 2) ∨ ((at_ p i).f0 = 3 ∧ 2 ≤ (at_ p i).f2.length) := by
  have h := K.ok i hi
  unfold okN fitsN at h
  unfold posB
  by_cases k1 : (at_ p i).f0 = 1
  · rw [if_pos k1] at h
    simp only [Bool.and_eq_true, List.isEmpty_iff] at h
    exact .inl ⟨by rw [k1]; rfl, h.1.2⟩
  · by_cases k4 : (at_ p i).f0 = 4
    · rw [if_neg k1, if_pos k4] at h
      simp only [Bool.and_eq_true, List.isEmpty_iff] at h
      exact .inl ⟨by rw [k4]; rfl, h.1.2⟩
    · by_cases k2 : (at_ p i).f0 = 2
      · exact .inr (.inl k2)
      · by_cases k3 : (at_ p i).f0 = 3
        · rw [if_neg k1, if_neg k4, if_neg k2, if_pos k3] at h
          simp only [Bool.and_eq_true, decide_eq_true_eq] at h
          exact .inr (.inr ⟨k3, h.1.2⟩)
        · rw [if_neg k1, if_neg k4, if_neg k2, if_neg k3] at h
          simp at h
theorem OkP.tr : Tree (md p) (loT p) := by
  constructor
  · intro i hi
    rw [md_len] at hi
    rw [nd_md hi]
    obtain ⟨f, hf⟩ := Option.isSome_iff_exists.1 (K.tree i hi)
    have : loT p i = f := by unfold loT; rw [hf]; rfl
    rw [this]
    rw [tf_eq] at hf
    exact chF_chain _ _ _ hf
  · intro i hi
    rw [md_len] at hi
    rw [nd_md hi]
    rcases K.kinds hi with ⟨a, b⟩ | a | ⟨a, b⟩
    · exact .inl ⟨a, by show (at_ p i).f2.map Int.toNat = []; rw [b]; rfl⟩
    · exact .inr (.inl a)
    · exact .inr (.inr ⟨a, by show 2 ≤ ((at_ p i).f2.map Int.toNat).length; rw [List.length_map]; exact b⟩)
theorem OkP.f2 {i : Nat} (hi : i < p.length) : (at_ p i).f2 = ints (nd (md p) i).kids := by
  rw [nd_md hi]
  obtain ⟨f, hf⟩ := Option.isSome_iff_exists.1 (K.tree i hi)
  have h := tf_kids hf
  show _ = ints ((at_ p i).f2.map Int.toNat)
  unfold ints
  rw [List.map_map]
  generalize (at_ p i).f2 = ks at h
  clear K
  induction ks with
  | nil => rfl
  | cons k ks ih =>
    have := h k (by simp)
    rw [List.map_cons, ← ih (fun k' hk' => h k' (by simp [hk']))]
    congr 1
    show k = ((k.toNat : Nat) : Int)
    omega
end
theorem ints_app (a b : List Nat) : ints (a ++ b) = ints a ++ ints b := List.map_append
theorem ints_len (a : List Nat) : (ints a).length = a.length := List.length_map _
theorem mem_ints {a : List Nat} {x : Int} : x ∈ ints a ↔ ∃ b : Nat, x = (b : Int) ∧ b ∈ a := by
  unfold ints
  rw [List.mem_map]
  constructor
  · rintro ⟨b, h, rfl⟩; exact ⟨b, rfl, h⟩
  · rintro ⟨b, rfl, h⟩; exact ⟨b, h, rfl⟩
theorem nat_ints {a : List Nat} {b : Nat} : (b : Int) ∈ ints a ↔ b ∈ a := by
  rw [mem_ints]
  constructor
  · rintro ⟨c, h, hc⟩
    have : b = c := by omega
    rwa [this]
  · intro h; exact ⟨b, rfl, h⟩
theorem ints_nodup {a : List Nat} (h : a.Nodup) : (ints a).Nodup := by
  unfold ints
  exact List.Pairwise.map _ (fun x y hxy e => hxy (by omega)) h
theorem flat_len {lo : Nat → Nat} {F : Nat → List Nat} : ∀ {ks : List Nat} {e b : Nat}, Chain lo e ks b → (∀ k, k < e → lo k ≤ k) → (∀ k ∈ ks, (F k).length ≤ k + 1 - lo k) → (ks.flatMap F).length + b ≤ e
  | [], e, b, hc, _, _ => by
    have : b = e := hc
    simp [this]
  | k :: ks, e, b, hc, hl, h => by
    obtain ⟨m, h1, h2, h3⟩ := hc
    have a := flat_len h1 hl (fun k' hk' => h k' (by simp [hk']))
    have c := h k (by simp)
    have d := (Chain.facts hl h1).1
    have g := hl k (by omega)
    rw [List.flatMap_cons, List.length_append]
    omega
section
variable {q : Md} {lo : Nat → Nat} (T : Tree q lo)
include T
theorem edge_len (E : Md → Nat → List Nat) (hE : E = fst ∨ E = lst) : ∀ i, i < q.length → (E q i).length ≤ i + 1 - lo i := by
  intro i
  induction i using Nat.strongRecOn with
  | _ i ih =>
  intro hi
  have key := flat_len (F := E q) (T.chain i hi) (fun k hk => T.le k (by omega)) (fun k hk => ih k (T.kid hi hk).2 (by have := (T.kid hi hk).2; omega))
  have hle := T.le i hi
  rcases hE with rfl | rfl
  · rw [fst_eq T.ahead hi]
    split
    · simp; omega
    · split
      · omega
      · have := (pre_sub (N := nul q) (F := fst q) (nd q i).kids).length_le
        omega
  · rw [lst_eq T.ahead hi]
    split
    · simp; omega
    · split
      · omega
      · have := (suf_sub (N := nul q) (L := lst q) (nd q i).kids []).length_le
        simp only [List.nil_append] at this
        omega
theorem kids_len (E : Md → Nat → List Nat) (hE : E = fst ∨ E = lst) {i : Nat} (hi : i < q.length) {us vs : List Nat} (h : (nd q i).kids = us ++ vs) : (us.flatMap (E q)).length ≤ i := by
  have key := flat_len (F := E q) (T.chain i hi) (fun k hk => T.le k (by omega)) (fun k hk => edge_len T E hE k (by have := (T.kid hi hk).2; omega))
  rw [h, List.flatMap_append, List.length_append] at key
  omega
end
theorem pre_snoc {N : Nat → Bool} {F : Nat → List Nat} (k : Nat) : ∀ us : List Nat, pre N F (us ++ [k]) = pre N F us ++ (if us.all N = true then F k else [])
  | [] => by simp [pre]
  | u :: us => by
    rw [List.cons_append, pre, pre, pre_snoc k us, List.all_cons]
    cases N u <;> simp
theorem suf_snoc {N : Nat → Bool} {L : Nat → List Nat} (k : Nat) : ∀ (us acc : List Nat), suf N L acc (us ++ [k]) = (if N k = true then suf N L acc us else []) ++ L k
  | [], acc => rfl
  | u :: us, acc => by
    rw [List.cons_append, suf, suf_snoc k us]
    rfl
theorem snoc_split {us : List Nat} {k : Nat} {Q : List Nat → Nat → Prop} : (∃ u k' v, us ++ [k] = u ++ k' :: v ∧ Q u k') ↔ (∃ u k' v, us = u ++ k' :: v ∧ Q u k') ∨ Q us k := by
  constructor
  · rintro ⟨u, k', v, e, h⟩
    rcases List.eq_nil_or_concat v with rfl | ⟨v', x, rfl⟩
    · right
      have := List.append_inj' e rfl
      obtain ⟨rfl, h2⟩ := this
      simp only [List.cons.injEq, and_true] at h2
      subst h2
      exact h
    · left
      rw [List.concat_eq_append, ← List.cons_append, ← List.append_assoc] at e
      have := List.append_inj' e rfl
      exact ⟨u, k', v', this.1, h⟩
  · rintro (⟨u, k', v, e, h⟩ | h)
    · exact ⟨u, k', v ++ [k], by rw [e]; simp, h⟩
    · exact ⟨us, k, [], rfl, h⟩
structure FolP (n : Nat) (P : Nat → Nat → Prop) (fol : List (List Int)) : Prop where
  len : fol.length = n
  mem : ∀ a, a < n → ∀ x : Int, x ∈ rdL fol a ↔ ∃ b : Nat, x = (b : Int) ∧ P a b
theorem FolP.congr {n : Nat} {P P' : Nat → Nat → Prop} {fol : List (List Int)} (h : FolP n P fol) (e : ∀ a, a < n → ∀ b, P a b ↔ P' a b) : FolP n P' fol :=
  ⟨h.len, fun a ha x => by
    rw [h.mem a ha x]
    constructor
    · rintro ⟨b, h1, h2⟩; exact ⟨b, h1, (e a ha b).1 h2⟩
    · rintro ⟨b, h1, h2⟩; exact ⟨b, h1, (e a ha b).2 h2⟩⟩
theorem rd_leadTo {fol : List (List Int)} {a q : Nat} (ha : a < fol.length) (to_ : List Int) : rdL (leadTo fol (a : Int) to_) q = if q = a then rdL fol a ++ to_ else rdL fol q := by
  unfold rdL rdOf leadTo
  simp only [Int.toNat_natCast, List.getD_eq_getElem?_getD]
  by_cases c : q = a
  · subst c
    rw [if_pos rfl, List.getElem?_set_self ha]
    rfl
  · rw [if_neg c, List.getElem?_set_ne (fun e => c e.symm)]
theorem FolP.lead {n : Nat} : ∀ {A B : List Nat} {P : Nat → Nat → Prop} {fol : List (List Int)}, FolP n P fol → (∀ a ∈ A, a < n) → FolP n (fun a b => P a b ∨ (a ∈ A ∧ b ∈ B)) (leadL fol (ints A) (ints B))
  | [], B, P, fol, h, _ => h.congr (fun a ha b => by simp)
  | c :: A, B, P, fol, h, hA => by
    have hc := hA c (by simp)
    have h1 : FolP n (fun a b => P a b ∨ (a = c ∧ b ∈ B)) (leadTo fol (c : Int) (ints B)) := by
      refine ⟨by rw [leadTo_length, h.len], fun a ha x => ?_⟩
      rw [rd_leadTo (by rw [h.len]; exact hc)]
      by_cases e : a = c
      · subst e
        rw [if_pos rfl, List.mem_append, h.mem a ha, mem_ints]
        constructor
        · rintro (⟨b, h1, h2⟩ | ⟨b, h1, h2⟩)
          · exact ⟨b, h1, .inl h2⟩
          · exact ⟨b, h1, .inr ⟨rfl, h2⟩⟩
        · rintro ⟨b, h1, h2 | h2⟩
          · exact .inl ⟨b, h1, h2⟩
          · exact .inr ⟨b, h1, h2.2⟩
      · rw [if_neg e, h.mem a ha]
        constructor
        · rintro ⟨b, h1, h2⟩; exact ⟨b, h1, .inl h2⟩
        · rintro ⟨b, h1, h2 | h2⟩
          · exact ⟨b, h1, h2⟩
          · exact absurd h2.1 e
    have h2 := FolP.lead (A := A) (B := B) h1 (fun a ha => hA a (by simp [ha]))
    refine FolP.congr (fol := leadL fol (ints (c :: A)) (ints B)) h2 (fun a ha b => ?_)
    simp only [List.mem_cons]
    constructor
    · rintro ((h | ⟨h, h'⟩) | ⟨h, h'⟩)
      · exact .inl h
      · exact .inr ⟨.inl h, h'⟩
      · exact .inr ⟨.inr h, h'⟩
    · rintro (h | ⟨h | h, h'⟩)
      · exact .inl (.inl h)
      · exact .inl (.inr ⟨h, h'⟩)
      · exact .inr ⟨h, h'⟩
structure NetI (p : List PM) (i : Nat) (N : NetV) : Prop where
  nul : N.nul = (List.range i).map (nul (md p))
  fst : N.fst = (List.range i).map fun j => ints (fst (md p) j)
  lst : N.lst = (List.range i).map fun j => ints (lst (md p) j)
  fol : FolP i (fun a b => ∃ j, j < i ∧ led (md p) j a b) N.fol
theorem rd_range {α : Type} {F : Nat → α} {d : α} {i k : Nat} (h : k < i) : rdOf d ((List.range i).map F) (k : Int) = F k := by
  unfold rdOf
  simp [h]
section
variable {p : List PM} (K : OkP p) {i : Nat} (hi : i < p.length) {N : NetV} (H : NetI p i N)
include K hi H
theorem NetI.kids3 : ∀ (vs us : List Nat) (s : KS), (nd (md p) i).kids = us ++ vs → s.nu = us.any (MT.nul (md p)) → s.fi = ints (us.flatMap (MT.fst (md p))) → s.la = ints (us.flatMap (MT.lst (md p))) →
    kidsF 3 N (ints vs) s = some ⟨(nd (md p) i).kids.any (MT.nul (md p)), ints ((nd (md p) i).kids.flatMap (MT.fst (md p))), ints ((nd (md p) i).kids.flatMap (MT.lst (md p))), s.fol⟩
  | [], us, s, hk, h1, h2, h3 => by
    rw [List.append_nil] at hk
    rw [hk, ← h1, ← h2, ← h3]
    rfl
  | k :: vs, us, s, hk, h1, h2, h3 => by
    have him : i < (md p).length := by rw [md_len]; exact hi
    have hki : k < i := (K.tr.kid him (by rw [hk]; simp)).2
    have hk' : (nd (md p) i).kids = (us ++ [k]) ++ vs := by rw [hk]; simp
    have l1 := kids_len K.tr MT.fst (.inl rfl) him hk'
    have l2 := kids_len K.tr MT.lst (.inr rfl) him hk'
    rw [List.flatMap_append, List.length_append, List.flatMap_singleton] at l1 l2
    have e1 : rdL N.fst (k : Int) = ints (MT.fst (md p) k) := by rw [H.fst]; exact rd_range hki
    have e2 : rdL N.lst (k : Int) = ints (MT.lst (md p) k) := by rw [H.lst]; exact rd_range hki
    have e3 : rdOf false N.nul (k : Int) = MT.nul (md p) k := by rw [H.nul]; exact rd_range hki
    have hm := K.most
    have key := NetI.kids3 vs (us ++ [k]) ⟨s.nu || MT.nul (md p) k, s.fi ++ ints (MT.fst (md p) k), s.la ++ ints (MT.lst (md p) k), s.fol⟩ hk' (by rw [h1]; simp) (by rw [h2, List.flatMap_append, ints_app, List.flatMap_singleton]) (by rw [h3, List.flatMap_append, ints_app, List.flatMap_singleton])
    rw [← key]
    show (kidF 3 N s (k : Int)).bind (kidsF 3 N (ints vs)) = _
    have hg : (0 ≤ (k : Int) ∧ (k : Int) < N.nul.length ∧ (k : Int) < N.fst.length ∧ (k : Int) < N.lst.length) ∧ s.fi.length + (rdL N.fst (k : Int)).length < LIMK ∧ s.la.length + (rdL N.lst (k : Int)).length < LIMK := by
      rw [e1, e2, h2, h3, ints_len, ints_len, ints_len, ints_len, H.nul, H.fst, H.lst]
      simp only [List.length_map, List.length_range]
      unfold LIMK
      omega
    unfold kidF
    rw [if_pos hg, if_pos rfl, e1, e2, e3]
    rfl
theorem NetI.kids2 (P0 : Nat → Nat → Prop) : ∀ (vs us : List Nat) (s : KS), (nd (md p) i).kids = us ++ vs → s.nu = us.all (MT.nul (md p)) → s.fi = ints (pre (MT.nul (md p)) (MT.fst (md p)) us) → s.la = ints (suf (MT.nul (md p)) (MT.lst (md p)) [] us) →
    FolP (i + 1) (fun a b => P0 a b ∨ ∃ u k v, us = u ++ k :: v ∧ (a ∈ suf (MT.nul (md p)) (MT.lst (md p)) [] u ∧ b ∈ MT.fst (md p) k)) s.fol →
    ∃ fol, kidsF 2 N (ints vs) s = some ⟨(nd (md p) i).kids.all (MT.nul (md p)), ints (pre (MT.nul (md p)) (MT.fst (md p)) (nd (md p) i).kids), ints (suf (MT.nul (md p)) (MT.lst (md p)) [] (nd (md p) i).kids), fol⟩ ∧
      FolP (i + 1) (fun a b => P0 a b ∨ ∃ u k v, (nd (md p) i).kids = u ++ k :: v ∧ (a ∈ suf (MT.nul (md p)) (MT.lst (md p)) [] u ∧ b ∈ MT.fst (md p) k)) fol
  | [], us, s, hk, h1, h2, h3, h4 => by
    rw [List.append_nil] at hk
    rw [hk, ← h1, ← h2, ← h3]
    exact ⟨s.fol, rfl, h4⟩
  | k :: vs, us, s, hk, h1, h2, h3, h4 => by
    have him : i < (md p).length := by rw [md_len]; exact hi
    have hki : k < i := (K.tr.kid him (by rw [hk]; simp)).2
    have hk' : (nd (md p) i).kids = (us ++ [k]) ++ vs := by rw [hk]; simp
    have l1 := kids_len K.tr MT.fst (.inl rfl) him hk'
    have l2 := kids_len K.tr MT.lst (.inr rfl) him hk'
    rw [List.flatMap_append, List.length_append, List.flatMap_singleton] at l1 l2
    have s1 := (pre_sub (N := MT.nul (md p)) (F := MT.fst (md p)) us).length_le
    have s2 := (suf_sub (N := MT.nul (md p)) (L := MT.lst (md p)) us []).length_le
    simp only [List.nil_append] at s2
    have e1 : rdL N.fst (k : Int) = ints (MT.fst (md p) k) := by rw [H.fst]; exact rd_range hki
    have e2 : rdL N.lst (k : Int) = ints (MT.lst (md p) k) := by rw [H.lst]; exact rd_range hki
    have e3 : rdOf false N.nul (k : Int) = MT.nul (md p) k := by rw [H.nul]; exact rd_range hki
    have hm := K.most
    have hin : ∀ a ∈ suf (MT.nul (md p)) (MT.lst (md p)) [] us, a < i + 1 := by
      intro a ha
      rcases mem_suf.1 ha with ⟨h, _⟩ | ⟨x, k', y, e, _, h⟩
      · simp at h
      · have hk2 := (K.tr.kid him (k := k') (by rw [hk, e]; simp)).2
        have := edge_in K.tr MT.lst (.inr rfl) k' (by omega) a h
        omega
    obtain ⟨fol, key, hf⟩ := NetI.kids2 P0 vs (us ++ [k]) ⟨s.nu && MT.nul (md p) k, if s.nu = true then s.fi ++ ints (MT.fst (md p) k) else s.fi, (if MT.nul (md p) k = true then s.la else []) ++ ints (MT.lst (md p) k), leadL s.fol s.la (ints (MT.fst (md p) k))⟩ hk' (by rw [h1]; simp)
      (by
        rw [pre_snoc, ints_app, h1, h2]
        cases us.all (MT.nul (md p)) <;> simp [ints])
      (by
        rw [suf_snoc, ints_app, h3]
        cases MT.nul (md p) k <;> simp [ints])
      (by
        rw [h3]
        refine (h4.lead hin).congr (fun a ha b => ?_)
        rw [snoc_split, or_assoc])
    refine ⟨fol, ?_, hf⟩
    rw [← key]
    show (kidF 2 N s (k : Int)).bind (kidsF 2 N (ints vs)) = _
    have hg : (0 ≤ (k : Int) ∧ (k : Int) < N.nul.length ∧ (k : Int) < N.fst.length ∧ (k : Int) < N.lst.length) ∧ s.fi.length + (rdL N.fst (k : Int)).length < LIMK ∧ s.la.length + (rdL N.lst (k : Int)).length < LIMK := by
      rw [e1, e2, h2, h3, ints_len, ints_len, ints_len, ints_len, H.nul, H.fst, H.lst]
      simp only [List.length_map, List.length_range]
      unfold LIMK
      omega
    have hg2 : (∀ a ∈ s.la, 0 ≤ a ∧ a < (s.fol.length : Int)) ∧ (∀ b ∈ rdL N.fst (k : Int), 0 ≤ b ∧ b < 4096) := by
      rw [h3, e1, h4.len]
      constructor
      · intro x hx
        obtain ⟨a, rfl, ha⟩ := mem_ints.1 hx
        have := hin a ha
        omega
      · intro x hx
        obtain ⟨a, rfl, ha⟩ := mem_ints.1 hx
        have := edge_in K.tr MT.fst (.inl rfl) k (by omega) a ha
        omega
    unfold kidF
    rw [if_pos hg, if_neg (by decide), if_pos hg2, e1, e2, e3]
    rfl
omit hi H in
theorem led_le {a b j : Nat} (hj : j < p.length) (h : led (md p) j a b) : a ≤ j ∧ b ≤ j := by
  have hjm : j < (md p).length := by rw [md_len]; exact hj
  rcases h with ⟨c, us, k, vs, e, h1, h2⟩ | ⟨c, h1, h2⟩
  · have hk := (K.tr.kid hjm (k := k) (by rw [e]; simp)).2
    have hb := edge_in K.tr MT.fst (.inl rfl) k (by omega) b h2
    rcases mem_suf.1 h1 with ⟨h, _⟩ | ⟨x, k', y, e', _, h⟩
    · simp at h
    · have hk2 := (K.tr.kid hjm (k := k') (by rw [e, e']; simp)).2
      have := edge_in K.tr MT.lst (.inr rfl) k' (by omega) a h
      omega
  · have h3 := edge_in K.tr MT.fst (.inl rfl) j hjm b h2
    have h4 := edge_in K.tr MT.lst (.inr rfl) j hjm a h1
    omega
theorem NetI.node : ∃ N', nodeF i (at_ p i) N = some N' ∧ NetI p (i + 1) N' := by
  have him : i < (md p).length := by rw [md_len]; exact hi
  have e0 := nd_md hi
  have hm := K.most
  have hstart : FolP (i + 1) (fun a b => ∃ j, j < i ∧ led (md p) j a b) (N.fol ++ [[]]) := by
    refine ⟨by rw [List.length_append, H.fol.len]; rfl, fun a ha x => ?_⟩
    by_cases c : a < i
    · have : rdL (N.fol ++ [[]]) (a : Int) = rdL N.fol (a : Int) := by
        unfold rdL rdOf
        rw [List.getD_eq_getElem?_getD, List.getD_eq_getElem?_getD, List.getElem?_append_left (by rw [H.fol.len]; simpa using c)]
      rw [this, H.fol.mem a c]
    · obtain rfl : a = i := by omega
      have : rdL (N.fol ++ [[]]) (a : Int) = [] := by
        unfold rdL rdOf
        rw [List.getD_eq_getElem?_getD, List.getElem?_append_right (by rw [H.fol.len]; simp), H.fol.len]
        simp
      rw [this]
      constructor
      · intro h; simp at h
      · rintro ⟨b, _, j, hj, h⟩
        have := (led_le K (by omega) h).1
        omega
  /- behind the kids, the loop and the end are alike -/
  have fin : ∀ (nu : Bool) (fi la : List Nat) (fol : List (List Int)) (P : Nat → Nat → Prop), kidsF (at_ p i).f0 N (at_ p i).f2 (startF i (at_ p i) N) = some ⟨nu, ints fi, ints la, fol⟩ →
      FolP (i + 1) P fol → (nu || optB (at_ p i)) = MT.nul (md p) i → fi = MT.fst (md p) i → la = MT.lst (md p) i → (∀ a b, (P a b ∨ (oftB (at_ p i) = true ∧ a ∈ MT.lst (md p) i ∧ b ∈ MT.fst (md p) i)) ↔ ∃ j, j < i + 1 ∧ led (md p) j a b) →
      ∃ N', nodeF i (at_ p i) N = some N' ∧ NetI p (i + 1) N' := by
    rintro nu fi la fol P hk hf hn rfl rfl hP
    have hend : ∃ fol', loopF (at_ p i) ⟨nu, ints (MT.fst (md p) i), ints (MT.lst (md p) i), fol⟩ = some fol' ∧ FolP (i + 1) (fun a b => ∃ j, j < i + 1 ∧ led (md p) j a b) fol' := by
      unfold loopF
      have hA : ∀ a ∈ MT.lst (md p) i, a < i + 1 := fun a ha => by
        have := edge_in K.tr MT.lst (.inr rfl) i him a ha
        omega
      have hB : ∀ a ∈ MT.fst (md p) i, a < i + 1 := fun a ha => by
        have := edge_in K.tr MT.fst (.inl rfl) i him a ha
        omega
      by_cases ho : oftB (at_ p i) = true
      · rw [if_pos ho, if_pos ⟨fun x hx => by
          obtain ⟨a, rfl, ha⟩ := mem_ints.1 hx
          have := hA a ha
          show 0 ≤ (a : Int) ∧ (a : Int) < (fol.length : Int)
          rw [hf.len]
          omega, fun x hx => by
          obtain ⟨a, rfl, ha⟩ := mem_ints.1 hx
          have := hB a ha
          omega⟩]
        exact ⟨_, rfl, (hf.lead hA).congr (fun a _ b => by rw [← hP a b]; simp [ho])⟩
      · rw [if_neg ho]
        exact ⟨_, rfl, hf.congr (fun a _ b => by rw [← hP a b]; simp [ho])⟩
    obtain ⟨fol', h1, h2⟩ := hend
    refine ⟨⟨N.nul ++ [nu || optB (at_ p i)], N.fst ++ [ints (MT.fst (md p) i)], N.lst ++ [ints (MT.lst (md p) i)], fol'⟩, ?_, ?_⟩
    · unfold nodeF
      rw [hk]
      simp only [Option.bind_some]
      rw [h1]
      rfl
    · refine ⟨?_, ?_, ?_, h2⟩
      · rw [hn, H.nul, List.range_succ, List.map_append]; rfl
      · rw [H.fst, List.range_succ, List.map_append]; rfl
      · rw [H.lst, List.range_succ, List.map_append]; rfl
  have hlast : ∀ a b, (∃ j, j < i + 1 ∧ led (md p) j a b) ↔ (∃ j, j < i ∧ led (md p) j a b) ∨ led (md p) i a b := by
    intro a b
    constructor
    · rintro ⟨j, hj, h⟩
      by_cases c : j < i
      · exact .inl ⟨j, c, h⟩
      · obtain rfl : j = i := by omega
        exact .inr h
    · rintro (⟨j, hj, h⟩ | h)
      · exact ⟨j, by omega, h⟩
      · exact ⟨i, by omega, h⟩
  have hkind : (nd (md p) i).kind = (at_ p i).f0 := by rw [e0]; rfl
  have hpos : (nd (md p) i).pos = posB (at_ p i) := by rw [e0]; rfl
  have hopt : (nd (md p) i).opt = optB (at_ p i) := by rw [e0]; rfl
  have hoft : (nd (md p) i).oft = oftB (at_ p i) := by rw [e0]; rfl
  rcases K.kinds hi with ⟨a, b⟩ | a | ⟨a, b⟩
  · have hne2 : ¬ (at_ p i).f0 = 2 := by
      intro h
      unfold posB at a
      rw [h] at a
      revert a
      decide
    have hne3 : ¬ (at_ p i).f0 = 3 := by
      intro h
      unfold posB at a
      rw [h] at a
      revert a
      decide
    refine fin false [i] [i] (N.fol ++ [[]]) (fun a b => ∃ j, j < i ∧ led (md p) j a b) ?_ hstart ?_ ?_ ?_ ?_
    · rw [b]
      show some (startF i (at_ p i) N) = _
      unfold startF
      rw [if_pos a, beq_eq_false_iff_ne.2 hne2]
      rfl
    · rw [nul_eq K.tr.ahead him, hkind, if_neg hne2, if_neg hne3, hopt]
    · rw [fst_eq K.tr.ahead him, hpos, if_pos a]
    · rw [lst_eq K.tr.ahead him, hpos, if_pos a]
    · intro x y
      rw [hlast]
      unfold led
      rw [hkind, hoft]
      simp only [hne2, false_and, false_or]
  · have hnp : ¬ posB (at_ p i) = true := by
      unfold posB
      rw [a]
      decide
    have hne3 : ¬ (at_ p i).f0 = 3 := by omega
    obtain ⟨fol, hk, hf⟩ := NetI.kids2 K hi H (fun a b => ∃ j, j < i ∧ led (md p) j a b) (nd (md p) i).kids [] (startF i (at_ p i) N) rfl (by unfold startF; rw [a]; rfl) (by unfold startF; rw [if_neg hnp]; rfl) (by unfold startF; rw [if_neg hnp]; rfl)
      (hstart.congr (fun x _ y => by
        constructor
        · exact .inl
        · rintro (h | ⟨u, k, v, e, _⟩)
          · exact h
          · cases u <;> simp at e))
    refine fin _ _ _ fol _ (by rw [K.f2 hi, a]; exact hk) hf ?_ ?_ ?_ ?_
    · rw [nul_eq K.tr.ahead him, hkind, if_pos a, hopt]
    · rw [fst_eq K.tr.ahead him, hpos, if_neg hnp, hkind, if_neg hne3]
    · rw [lst_eq K.tr.ahead him, hpos, if_neg hnp, hkind, if_neg hne3]
    · intro x y
      rw [hlast]
      unfold led
      rw [hkind, hoft]
      simp only [a, true_and, or_assoc]
  · have hnp : ¬ posB (at_ p i) = true := by
      unfold posB
      rw [a]
      decide
    have hne2 : ¬ (at_ p i).f0 = 2 := by omega
    have hk := NetI.kids3 K hi H (nd (md p) i).kids [] (startF i (at_ p i) N) rfl (by unfold startF; rw [a]; rfl) (by unfold startF; rw [if_neg hnp]; rfl) (by unfold startF; rw [if_neg hnp]; rfl)
    refine fin _ _ _ (N.fol ++ [[]]) (fun a b => ∃ j, j < i ∧ led (md p) j a b) (by rw [K.f2 hi, a]; exact hk) hstart ?_ ?_ ?_ ?_
    · rw [nul_eq K.tr.ahead him, hkind, if_neg hne2, if_pos a, hopt]
    · rw [fst_eq K.tr.ahead him, hpos, if_neg hnp, hkind, if_pos a]
    · rw [lst_eq K.tr.ahead him, hpos, if_neg hnp, hkind, if_pos a]
    · intro x y
      rw [hlast]
      unfold led
      rw [hkind, hoft]
      simp only [hne2, false_and, false_or]
end
theorem net_from {p : List PM} (K : OkP p) : ∀ (m i : Nat) (N : NetV), i + m = p.length → NetI p i N → ∃ N', netL (p.drop i) i N = some N' ∧ NetI p p.length N'
  | 0, i, N, h, H => by
    obtain rfl : i = p.length := by omega
    rw [List.drop_length]
    exact ⟨N, rfl, H⟩
  | m + 1, i, N, h, H => by
    have hi : i < p.length := by omega
    have hm := K.most
    rw [List.drop_eq_getElem_cons hi, ← at_lt hi]
    unfold netL
    obtain ⟨N1, h1, h2⟩ := NetI.node K hi H
    rw [if_pos (by rw [H.nul, H.fst, H.lst, H.fol.len]; simp only [List.length_map, List.length_range]; unfold LIMK; omega), h1]
    exact net_from K m (i + 1) N1 (by omega) h2
theorem net_tells {p : List PM} (h : okV p = true) : ∃ N, netOfF p = some N ∧ NetI p p.length N := by
  have := net_from (okP h) p.length 0 ⟨[], [], [], []⟩ (Nat.zero_add _) ⟨rfl, rfl, rfl, rfl, fun a ha => by omega⟩
  exact this
theorem put1_len (x : Int) : ∀ l : List Int, (put1 x l).length ≤ l.length + 1
  | [] => by simp [put1]
  | y :: l => by
    have := put1_len x l
    unfold put1
    split
    · simp only [List.length_cons]; omega
    · split
      · simp only [List.length_cons]; omega
      · simp only [List.length_cons]; omega
theorem spec_put (xs : List Int) (i : Nat) (hi : i < xs.length) (hx : xs.length ≤ 1048576) (acc : List Int) (ha : acc.length ≤ i) (R : List Int) (hR : Ev (fun k => spec_l8Sorted.l0 k xs (put1 xs[i] acc) ((i + 1 : Nat) : Int)) R) : ∀ (n j : Nat), j + n = acc.length → put1 xs[i] acc = acc.take j ++ put1 xs[i] (acc.drop j) → Ev (fun k => spec_l8Sorted.l1 k xs acc (i : Int) (j : Int)) R := by
  intro n
  induction n with
  | zero =>
    intro j hj hput
    rw [List.drop_of_length_le (by omega), List.take_of_length_le (by omega)] at hput
    simp only [put1] at hput
    rw [hput] at hR
    refine Ev.step (fun k => ?_) hR
    conv => lhs; unfold spec_l8Sorted.l1
    rw [if_neg (by omega)]
    simp only [Option.bind_some, List.nil_append, List.length_nil]
    rw [if_pos (by omega), if_pos (by omega), Int.toNat_natCast, List.take_of_length_le (by omega), if_pos (by omega), if_pos (by omega), if_pos (by omega), if_pos (by omega), List.drop_of_length_le (by omega), if_pos (by simp; omega), List.append_nil, rdZ xs i hi, w1n hi (by omega)]
  | succ n ih =>
    intro j hj hput
    have hlt : j < acc.length := by omega
    have hd : acc.drop j = acc[j] :: acc.drop (j + 1) := List.drop_eq_getElem_cons hlt
    by_cases c1 : acc[j] < xs[i]
    · have := ih (j + 1) (by omega) (by
        rw [hput, hd]
        conv => lhs; unfold put1
        rw [if_pos c1, ← List.take_append_getElem hlt, List.append_assoc]
        rfl)
      refine Ev.step (fun k => ?_) this
      conv => lhs; unfold spec_l8Sorted.l1
      rw [if_pos (by omega), if_pos (by omega), if_pos (by omega), if_pos (by omega), rdZ xs i hi, rdZ acc j hlt, if_pos c1, w1n hlt (by omega)]
    · by_cases c2 : acc[j] = xs[i]
      · have e : put1 xs[i] acc = acc := by
          rw [hput, hd]
          unfold put1
          rw [if_neg c1, if_pos c2, ← hd, List.take_append_drop]
        rw [e] at hR
        refine Ev.step (fun k => ?_) hR
        conv => lhs; unfold spec_l8Sorted.l1
        rw [if_pos (by omega), if_pos (by omega), if_pos (by omega), if_pos (by omega), rdZ xs i hi, rdZ acc j hlt, if_neg c1, if_pos c2, w1n hi (by omega)]
      · have e : put1 xs[i] acc = acc.take j ++ [xs[i]] ++ acc.drop j := by
          rw [hput, hd]
          unfold put1
          rw [if_neg c1, if_neg c2]
          simp
        rw [e] at hR
        refine Ev.step (fun k => ?_) hR
        conv => lhs; unfold spec_l8Sorted.l1
        rw [if_pos (by omega), if_pos (by omega), if_pos (by omega), if_pos (by omega), rdZ xs i hi, rdZ acc j hlt, if_neg c1, if_neg c2]
        simp only [Option.bind_some, List.nil_append, List.length_nil, Int.toNat_natCast]
        rw [if_pos (by omega), if_pos (by rw [List.length_take]; omega), if_pos (by rw [List.length_take]; omega), if_pos (by simp only [List.length_append, List.length_take, List.length_drop, List.length_singleton]; omega), w1n hi (by omega)]
theorem spec_sorted_l0 (xs : List Int) (hx : xs.length ≤ 1048576) : ∀ (n i : Nat) (acc : List Int), i + n = xs.length → acc.length ≤ i → Ev (fun k => spec_l8Sorted.l0 k xs acc (i : Int)) ((xs.drop i).foldl (fun a x => put1 x a) acc) := by
  intro n
  induction n with
  | zero =>
    intro i acc hi ha
    rw [List.drop_of_length_le (by omega), List.foldl_nil]
    refine Ev.step (f := fun _ => some acc) (fun k => ?_) (Ev.now _)
    conv => lhs; unfold spec_l8Sorted.l0
    rw [if_neg (by omega)]
  | succ n ih =>
    intro i acc hi ha
    have hlt : i < xs.length := by omega
    rw [List.drop_eq_getElem_cons hlt, List.foldl_cons]
    have h1 := put1_len xs[i] acc
    have := spec_put xs i hlt hx acc ha _ (ih (i + 1) _ (by omega) (by omega)) acc.length 0 (by omega) (by simp)
    refine Ev.step (fun k => ?_) this
    conv => lhs; unfold spec_l8Sorted.l0
    rw [if_pos (by omega)]
    rfl
theorem spec_sorted (xs : List Int) (hx : xs.length ≤ 1048576) : Ev (fun k => spec_l8Sorted.f k xs) (srt xs) := by
  have := spec_sorted_l0 xs hx xs.length 0 [] (by omega) (by simp)
  rw [List.drop_zero] at this
  exact this
theorem Ev.step2' {α : Type} {g f : Nat → Option α} {r : α} (h : ∀ k, g (k + 1 + 1) = f k) (k : Ev f r) : Ev g r := Ev.step (f := fun k => g (k + 1)) (fun _ => rfl) (Ev.step h k)
theorem rd_ints {l : List Nat} {j : Nat} (h : j < l.length) : rd (ints l) (j : Int) = (l[j] : Int) := by
  rw [rdZ (ints l) j (by rw [ints_len]; exact h)]
  unfold ints
  simp
section
variable {p : List PM} (K : OkP p)
include K
theorem kids_small {i : Nat} (hi : i < p.length) : (nd (md p) i).kids.length ≤ i := by
  have him : i < (md p).length := by rw [md_len]; exact hi
  have h := flat_len (F := fun _ => [0]) (K.tr.chain i him) (fun k hk => K.tr.le k (by omega)) (fun k hk => by
    have h1 := (K.tr.kid him hk).2
    have := K.tr.le k (by omega)
    show 1 ≤ _
    omega)
  have e : ∀ l : List Nat, (l.flatMap fun _ => [0]).length = l.length := by
    intro l
    induction l with
    | nil => rfl
    | cons x l ih => rw [List.flatMap_cons, List.length_append, ih]; show 1 + l.length = l.length + 1; omega
  rw [e] at h
  omega
theorem spec_null : ∀ i, i < p.length → Ev (fun k => spec_l8Null.f k p (i : Int)) (nul (md p) i) := by
  intro i
  induction i using Nat.strongRecOn with
  | _ i ih =>
  intro hi
  have him : i < (md p).length := by rw [md_len]; exact hi
  have e : rd_T49 p (i : Int) = at_ p i := rfl
  have hk := K.f2 hi
  have e0 := nd_md hi
  have hkind : (nd (md p) i).kind = (at_ p i).f0 := by rw [e0]; rfl
  have hopt : (nd (md p) i).opt = optB (at_ p i) := by rw [e0]; rfl
  have hks := kids_small K hi
  have hm := K.most
  have hkid : ∀ k ∈ (nd (md p) i).kids, k < i := fun k hk => (K.tr.kid him hk).2
  rw [nul_eq K.tr.ahead him, hkind, hopt]
  have hall : ∀ (m j : Nat), j + m = (nd (md p) i).kids.length → Ev (fun k => spec_l8Null.l0 k p (j : Int) (at_ p i).f0 (at_ p i).f1 (at_ p i).f2 (at_ p i).f3) (((nd (md p) i).kids.drop j).all (nul (md p))) := by
    intro m
    induction m with
    | zero =>
      intro j hj
      rw [List.drop_of_length_le (by omega)]
      refine Ev.step (f := fun _ => some true) (fun k => ?_) (Ev.now _)
      conv => lhs; unfold spec_l8Null.l0
      rw [if_neg (by rw [hk, ints_len]; omega)]
    | succ m ihm =>
      intro j hj
      have hlt : j < (nd (md p) i).kids.length := by omega
      have hjk := hkid _ (List.getElem_mem hlt)
      rw [List.drop_eq_getElem_cons hlt, List.all_cons]
      refine Ev.step (f := fun k => (spec_l8Null.f k p ((nd (md p) i).kids[j] : Int)).bind fun t => (if t = true then (spec_l8Null.l0 k p ((j + 1 : Nat) : Int) (at_ p i).f0 (at_ p i).f1 (at_ p i).f2 (at_ p i).f3) else (some false))) (fun k => ?_) (Ev.bind (ih _ hjk (by omega)) ?_)
      · conv => lhs; unfold spec_l8Null.l0
        rw [if_pos (by rw [hk, ints_len]; omega), if_pos (by omega), w1n hlt (by omega)]
        rw [show rd (at_ p i).f2 (j : Int) = ((nd (md p) i).kids[j] : Int) by rw [hk]; exact rd_ints hlt]
      · cases nul (md p) (nd (md p) i).kids[j] with
        | true => simpa using ihm (j + 1) (by omega)
        | false => exact Ev.now _
  have hany : ∀ (m j : Nat), j + m = (nd (md p) i).kids.length → Ev (fun k => spec_l8Null.l1 k p (j : Int) (at_ p i).f0 (at_ p i).f1 (at_ p i).f2 (at_ p i).f3) (((nd (md p) i).kids.drop j).any (nul (md p))) := by
    intro m
    induction m with
    | zero =>
      intro j hj
      rw [List.drop_of_length_le (by omega)]
      refine Ev.step (f := fun _ => some false) (fun k => ?_) (Ev.now _)
      conv => lhs; unfold spec_l8Null.l1
      rw [if_neg (by rw [hk, ints_len]; omega)]
    | succ m ihm =>
      intro j hj
      have hlt : j < (nd (md p) i).kids.length := by omega
      have hjk := hkid _ (List.getElem_mem hlt)
      rw [List.drop_eq_getElem_cons hlt, List.any_cons]
      refine Ev.step (f := fun k => (spec_l8Null.f k p ((nd (md p) i).kids[j] : Int)).bind fun t => (if t = true then (some true) else (spec_l8Null.l1 k p ((j + 1 : Nat) : Int) (at_ p i).f0 (at_ p i).f1 (at_ p i).f2 (at_ p i).f3))) (fun k => ?_) (Ev.bind (ih _ hjk (by omega)) ?_)
      · conv => lhs; unfold spec_l8Null.l1
        rw [if_pos (by rw [hk, ints_len]; omega), if_pos (by omega), w1n hlt (by omega)]
        rw [show rd (at_ p i).f2 (j : Int) = ((nd (md p) i).kids[j] : Int) by rw [hk]; exact rd_ints hlt]
      · cases nul (md p) (nd (md p) i).kids[j] with
        | false => simpa using ihm (j + 1) (by omega)
        | true => exact Ev.now _
  have hyes : Ev (fun k => spec_l8Null.j0 k p true (at_ p i).f0 (at_ p i).f1 (at_ p i).f2 (at_ p i).f3) true := by
    refine Ev.step (f := fun _ => some true) (fun k => ?_) (Ev.now _)
    conv => lhs; unfold spec_l8Null.j0
    rw [if_pos rfl]
  by_cases c1 : (at_ p i).f3 = 1
  · have ho : optB (at_ p i) = true := by unfold optB; rw [c1]; rfl
    rw [ho, Bool.or_true]
    refine Ev.step (fun k => ?_) hyes
    conv => lhs; unfold spec_l8Null.f
    rw [if_pos (by omega), if_pos (by omega), e, if_pos c1]
  · by_cases c2 : (at_ p i).f3 = 2
    · have ho : optB (at_ p i) = true := by unfold optB; rw [c2]; rfl
      rw [ho, Bool.or_true]
      refine Ev.step (fun k => ?_) hyes
      conv => lhs; unfold spec_l8Null.f
      rw [if_pos (by omega), if_pos (by omega), e, if_neg c1, beq_iff_eq.2 c2]
    · have ho : optB (at_ p i) = false := by unfold optB; rw [beq_eq_false_iff_ne.2 c1, beq_eq_false_iff_ne.2 c2]; rfl
      rw [ho, Bool.or_false]
      refine Ev.step (f := fun k => spec_l8Null.j0 k p false (at_ p i).f0 (at_ p i).f1 (at_ p i).f2 (at_ p i).f3) (fun k => ?_) ?_
      · conv => lhs; unfold spec_l8Null.f
        rw [if_pos (by omega), if_pos (by omega), e, if_neg c1, beq_eq_false_iff_ne.2 c2]
      · by_cases k2 : (at_ p i).f0 = 2
        · rw [if_pos k2]
          refine Ev.step (fun k => ?_) (hall _ 0 (Nat.zero_add _))
          conv => lhs; unfold spec_l8Null.j0
          rw [if_neg (by decide), if_pos k2]
          rfl
        · rw [if_neg k2]
          by_cases k3 : (at_ p i).f0 = 3
          · rw [if_pos k3]
            refine Ev.step (fun k => ?_) (hany _ 0 (Nat.zero_add _))
            conv => lhs; unfold spec_l8Null.j0
            rw [if_neg (by decide), if_neg k2, if_pos k3]
            rfl
          · rw [if_neg k3]
            refine Ev.step (f := fun _ => some false) (fun k => ?_) (Ev.now _)
            conv => lhs; unfold spec_l8Null.j0
            rw [if_neg (by decide), if_neg k2, if_neg k3]
end
theorem rev_len (F : Nat → List Nat) : ∀ l : List Nat, (l.reverse.flatMap F).length = (l.flatMap F).length
  | [] => rfl
  | x :: l => by
    have h := rev_len F l
    simp only [List.reverse_cons, List.flatMap_append, List.length_append, List.flatMap_cons, List.flatMap_nil, List.append_nil, h]
    omega
theorem lstS_len {q : Md} {lo : Nat → Nat} (T : Tree q lo) : ∀ i, i < q.length → (lstS q i).length ≤ i + 1 - lo i := by
  intro i
  induction i using Nat.strongRecOn with
  | _ i ih =>
  intro hi
  have key := flat_len (F := lstS q) (T.chain i hi) (fun k hk => T.le k (by omega)) (fun k hk => ih k (T.kid hi hk).2 (by have := (T.kid hi hk).2; omega))
  have hle := T.le i hi
  rw [lstS_eq T.ahead hi]
  split
  · simp; omega
  · split
    · rw [rev_len]; omega
    · have := (pre_sub (N := nul q) (F := lstS q) (nd q i).kids.reverse).length_le
      rw [rev_len] at this
      omega
def edgS (q : Md) (last : Bool) (i : Nat) : List Nat := if last = true then lstS q i else fst q i
theorem edgS_len {q : Md} {lo : Nat → Nat} (T : Tree q lo) (last : Bool) (i : Nat) (hi : i < q.length) : (edgS q last i).length ≤ i + 1 - lo i := by
  unfold edgS
  split
  · exact lstS_len T i hi
  · exact edge_len T fst (.inl rfl) i hi
def goS (q : Md) (last : Bool) (kind : Int) (L : List Nat) : List Nat := if kind = 2 then pre (nul q) (edgS q last) L else L.flatMap (edgS q last)
theorem goS_cons (q : Md) (last : Bool) (kind : Int) (k : Nat) (L : List Nat) : goS q last kind (k :: L) = edgS q last k ++ (if kind = 2 ∧ ¬ nul q k = true then [] else goS q last kind L) := by
  unfold goS
  by_cases c : kind = 2
  · simp only [if_pos c]
    rw [pre]
    by_cases n : nul q k = true
    · rw [if_pos n, if_neg (fun h => h.2 n)]
    · rw [if_neg n, if_pos ⟨c, n⟩]
  · simp only [if_neg c]
    rw [List.flatMap_cons, if_neg (fun h => c h.1)]
section
variable {p : List PM} (K : OkP p)
include K
theorem edgS_eq (last : Bool) {i : Nat} (hi : i < p.length) : edgS (md p) last i = if posB (at_ p i) = true then [i] else goS (md p) last (at_ p i).f0 (if last = true then (nd (md p) i).kids.reverse else (nd (md p) i).kids) := by
  have him : i < (md p).length := by rw [md_len]; exact hi
  have e0 := nd_md hi
  have hkind : (nd (md p) i).kind = (at_ p i).f0 := by rw [e0]; rfl
  have hpos : (nd (md p) i).pos = posB (at_ p i) := by rw [e0]; rfl
  have hg : ∀ L, goS (md p) last (at_ p i).f0 L = if (at_ p i).f0 = 2 then pre (nul (md p)) (edgS (md p) last) L else L.flatMap (edgS (md p) last) := fun _ => rfl
  by_cases c : posB (at_ p i) = true
  · rw [if_pos c]
    unfold edgS
    split
    · rw [lstS_eq K.tr.ahead him, hpos, if_pos c]
    · rw [fst_eq K.tr.ahead him, hpos, if_pos c]
  · rw [if_neg c, hg]
    have h23 : (at_ p i).f0 = 2 ∨ (at_ p i).f0 = 3 := by
      rcases K.kinds hi with ⟨a, b⟩ | a | ⟨a, b⟩
      · exact absurd a c
      · exact .inl a
      · exact .inr a
    cases last with
    | true =>
      show lstS (md p) i = if _ then pre (nul (md p)) (lstS (md p)) _ else List.flatMap (lstS (md p)) _
      rw [lstS_eq K.tr.ahead him, hpos, if_neg c, hkind]
      rcases h23 with h | h
      · rw [if_pos h, if_neg (by omega)]; rfl
      · rw [if_pos h, if_neg (by omega)]; rfl
    | false =>
      show fst (md p) i = if _ then pre (nul (md p)) (fst (md p)) _ else List.flatMap (fst (md p)) _
      rw [fst_eq K.tr.ahead him, hpos, if_neg c, hkind]
      rcases h23 with h | h
      · rw [if_pos h, if_neg (by omega)]; rfl
      · rw [if_pos h, if_neg (by omega)]; rfl
theorem spec_edge (last : Bool) : ∀ i, i < p.length → Ev (fun k => spec_l8Edge.f k p (i : Int) last) (ints (edgS (md p) last i)) := by
  intro i
  induction i using Nat.strongRecOn with
  | _ i ih =>
  intro hi
  have him : i < (md p).length := by rw [md_len]; exact hi
  have e : rd_T49 p (i : Int) = at_ p i := rfl
  have hk := K.f2 hi
  have hks := kids_small K hi
  have hm := K.most
  have hkid : ∀ k ∈ (nd (md p) i).kids, k < i := fun k hk => (K.tr.kid him hk).2
  obtain ⟨L, hL⟩ : ∃ L, (if last = true then (nd (md p) i).kids.reverse else (nd (md p) i).kids) = L := ⟨_, rfl⟩
  have hLl : L.length = (nd (md p) i).kids.length := by rw [← hL]; split <;> simp
  have hLm : ∀ k ∈ L, k < i := by
    intro k hk'
    rw [← hL] at hk'
    split at hk'
    · exact hkid k (List.mem_reverse.1 hk')
    · exact hkid k hk'
  have hfl : (L.flatMap (edgS (md p) last)).length ≤ i := by
    have h := flat_len (F := edgS (md p) last) (K.tr.chain i him) (fun k hk => K.tr.le k (by omega)) (fun k hk => edgS_len K.tr last k (by have := hkid k hk; omega))
    rw [← hL]
    split
    · rw [rev_len]; omega
    · omega
  have loop : ∀ (m j : Nat) (acc : List Int), j + m = L.length → acc.length + ((L.drop j).flatMap (edgS (md p) last)).length ≤ 40 → Ev (fun k => spec_l8Edge.l0 k p last acc (j : Int) (at_ p i).f0 (at_ p i).f1 (at_ p i).f2 (at_ p i).f3) (acc ++ ints (goS (md p) last (at_ p i).f0 (L.drop j))) := by
    intro m
    induction m with
    | zero =>
      intro j acc hj hl
      rw [List.drop_of_length_le (by omega)]
      have h0 : goS (md p) last (at_ p i).f0 [] = [] := by unfold goS; split <;> rfl
      rw [h0]
      refine Ev.step (f := fun _ => some acc) (fun k => ?_) ?_
      · conv => lhs; unfold spec_l8Edge.l0
        rw [if_neg (by rw [hk, ints_len]; omega)]
      · rw [show acc ++ ints [] = acc from List.append_nil _]
        exact Ev.now _
    | succ m ihm =>
      intro j acc hj hl
      have hlt : j < L.length := by omega
      have hjk := hLm _ (List.getElem_mem hlt)
      rw [List.drop_eq_getElem_cons hlt] at hl ⊢
      rw [List.flatMap_cons, List.length_append] at hl
      rw [goS_cons, ints_app, ← List.append_assoc]
      obtain ⟨x10, hx0, hx1, hx2, hx3⟩ : ∃ x10 : Nat, (if last = true then wrap64 (wrap64 (((at_ p i).f2.length : Int) - 1) - (j : Int)) else (j : Int)) = (x10 : Int) ∧ x10 < (nd (md p) i).kids.length ∧ rd (at_ p i).f2 (x10 : Int) = (L[j] : Int) ∧ True := by
        cases last with
        | true =>
          refine ⟨(nd (md p) i).kids.length - 1 - j, ?_, by omega, ?_, trivial⟩
          · rw [if_pos rfl, hk, ints_len, w64 (n := ((nd (md p) i).kids.length : Int) - 1) (by omega) (by omega), w64 (by omega) (by omega)]
            omega
          · rw [hk, rd_ints (by omega)]
            simp only [if_true] at hL
            subst hL
            rw [List.getElem_reverse]
        | false =>
          refine ⟨j, rfl, by omega, ?_, trivial⟩
          rw [hk, rd_ints (by omega)]
          simp only [Bool.false_eq_true, if_false] at hL
          subst hL
          rfl
      refine Ev.step2' (f := fun k => (spec_l8Edge.f k p (L[j] : Int) last).bind fun t191 => (if acc.length + t191.length < 17592186044416 then (if (at_ p i).f0 = 2 then ((spec_l8Null.f k p (L[j] : Int)).bind fun t198 => (if t198 = true then (spec_l8Edge.l0 k p last (acc ++ t191) ((j + 1 : Nat) : Int) (at_ p i).f0 (at_ p i).f1 (at_ p i).f2 (at_ p i).f3) else (some (acc ++ t191)))) else (spec_l8Edge.l0 k p last (acc ++ t191) ((j + 1 : Nat) : Int) (at_ p i).f0 (at_ p i).f1 (at_ p i).f2 (at_ p i).f3)) else none)) (fun k => ?_) (Ev.bind (ih _ hjk (by omega)) ?_)
      · conv => lhs; unfold spec_l8Edge.l0
        rw [if_pos (by rw [hk, ints_len]; omega)]
        have hj2 : (if last = true then (spec_l8Edge.j2 (k + 1) p last acc (j : Int) (wrap64 ((wrap64 (((at_ p i).f2.length : Int) - 1)) - (j : Int))) (at_ p i).f0 (at_ p i).f1 (at_ p i).f2 (at_ p i).f3) else (spec_l8Edge.j2 (k + 1) p last acc (j : Int) (j : Int) (at_ p i).f0 (at_ p i).f1 (at_ p i).f2 (at_ p i).f3)) = spec_l8Edge.j2 (k + 1) p last acc (j : Int) (x10 : Int) (at_ p i).f0 (at_ p i).f1 (at_ p i).f2 (at_ p i).f3 := by
          rw [← hx0]
          split <;> rfl
        rw [hj2]
        conv => lhs; unfold spec_l8Edge.j2
        rw [if_pos (by omega), if_pos (by rw [hk, ints_len]; omega), hx2, w1n hlt (by omega)]
        rfl
      · rw [ints_len]
        have hacc : (acc ++ ints (edgS (md p) last L[j])).length = acc.length + (edgS (md p) last L[j]).length := by rw [List.length_append, ints_len]
        have hgo := ihm (j + 1) (acc ++ ints (edgS (md p) last L[j])) (by omega) (by rw [hacc]; omega)
        by_cases c2 : (at_ p i).f0 = 2
        · refine Ev.congr (f := fun k => (spec_l8Null.f k p (L[j] : Int)).bind fun t198 => (if t198 = true then (spec_l8Edge.l0 k p last (acc ++ ints (edgS (md p) last L[j])) ((j + 1 : Nat) : Int) (at_ p i).f0 (at_ p i).f1 (at_ p i).f2 (at_ p i).f3) else (some (acc ++ ints (edgS (md p) last L[j]))))) (fun k => ?_) (Ev.bind (spec_null K L[j] (by omega)) ?_)
          · rw [if_pos (by omega), if_pos c2]
          · by_cases n : nul (md p) L[j] = true
            · rw [if_neg (fun h => h.2 n)]
              simpa only [if_pos n] using hgo
            · rw [if_pos ⟨c2, n⟩]
              simp only [if_neg n]
              rw [show ints [] = [] from rfl, List.append_nil]
              exact Ev.now _
        · rw [if_neg (fun h => c2 h.1)]
          refine Ev.congr (fun k => ?_) hgo
          rw [if_pos (by omega), if_neg c2]
  rw [edgS_eq K last hi, hL]
  by_cases c : posB (at_ p i) = true
  · rw [if_pos c]
    have hnil : (at_ p i).f2 = [] := by
      rcases K.kinds hi with ⟨a, b⟩ | a | ⟨a, b⟩
      · exact b
      · unfold posB at c; rw [a] at c; exact absurd c (by decide)
      · unfold posB at c; rw [a] at c; exact absurd c (by decide)
    have hne : ((at_ p i).f0 != 2) = true := by
      rw [bne_iff_ne]
      intro h
      unfold posB at c; rw [h] at c; exact absurd c (by decide)
    refine Ev.step (f := fun k => spec_l8Edge.j0 k p (i : Int) last true (at_ p i).f0 (at_ p i).f1 (at_ p i).f2 (at_ p i).f3) (fun k => ?_) (Ev.step (f := fun _ => some [(i : Int)]) (fun k => ?_) (Ev.now _))
    · conv => lhs; unfold spec_l8Edge.f
      rw [if_pos (by omega), if_pos (by omega), e, if_pos (by rw [hnil]; rfl), hne]
    · conv => lhs; unfold spec_l8Edge.j0
      rw [if_pos rfl]
  · rw [if_neg c]
    have hgo := loop L.length 0 [] (Nat.zero_add _) (by rw [List.drop_zero]; show 0 + _ ≤ 40; omega)
    rw [List.drop_zero, List.nil_append] at hgo
    refine Ev.step (f := fun k => spec_l8Edge.j0 k p (i : Int) last false (at_ p i).f0 (at_ p i).f1 (at_ p i).f2 (at_ p i).f3) (fun k => ?_) (Ev.step (fun k => ?_) hgo)
    · conv => lhs; unfold spec_l8Edge.f
      rw [if_pos (by omega), if_pos (by omega), e]
      by_cases hz : (((at_ p i).f2).length : Int) = 0
      · have h2 : (at_ p i).f0 = 2 := by
          rcases K.kinds hi with ⟨a, b⟩ | a | ⟨a, b⟩
          · exact absurd a c
          · exact a
          · omega
        rw [if_pos hz, h2]
        rfl
      · rw [if_neg hz]
    · conv => lhs; unfold spec_l8Edge.j0
      rw [if_neg (by decide)]
      rfl
end
end Go.Proofs.Ytejkkdjfiebmfaa.Pure

namespace Go.Proofs.Ytejkkdjfiebmfaa.L
open Go.RowKit Go.Proofs.YtejkkdjfiebmfaaW.PrintWords Go.Proofs.YtejkkdjfiebmfaaW.PrintLast Go.Proofs.YtejkkdjfiebmfaaW.PrintMore
set_option linter.unusedVariables false
set_option linter.unusedSimpArgs false
def last_of.T4 : Bool × List (List Nat × List Nat) := (true, [([], []), ([0], [0]), ([1], [1]), ([2], [2]), ([], []), ([4], [4]), ([3, 5], [3, 5]), ([6], [6]), ([7, 5], [7]), ([8, 8, 0, 1, 2, 3, 4, 5, 6, 7, 8], [8])])
def last_of.B4 : List Nat := [0, 1, 3, 7, 0, 16, 63, 127, 255, 511]
theorem last_of.tab4 : rtab .any (opsOf Try.f19 4) = last_of.T4 := by kernel_rfl
theorem last_of.bits4 : waitsOk last_of.T4.2 last_of.B4 = true := by kernel_rfl

end Go.Proofs.Ytejkkdjfiebmfaa.L

namespace Go.Proofs.Ytejkkdjfiebmfaa.Pure
open Go.RowKit Go.Proofs.Ytejkkdjfiebmfaa.L Go.Proofs.YtejkkdjfiebmfaaW.PrintWords Go.Proofs.YtejkkdjfiebmfaaW.PrintLast Go.Proofs.YtejkkdjfiebmfaaW.PrintMore
open MT
set_option linter.unusedVariables false
set_option linter.unusedSimpArgs false

theorem spec_has (l : List Nat) (a : Nat) (hl : l.length ≤ 1048576) : Ev (fun k => spec_l8Has.f k (ints l) (a : Int)) (decide (a ∈ l)) := by
  have loop : ∀ (m j : Nat), j + m = l.length → Ev (fun k => spec_l8Has.l0 k (ints l) (a : Int) (j : Int)) (decide (a ∈ l.drop j)) := by
    intro m
    induction m with
    | zero =>
      intro j hj
      rw [List.drop_of_length_le (by omega)]
      refine Ev.step (f := fun _ => some false) (fun k => ?_) (Ev.now _)
      conv => lhs; unfold spec_l8Has.l0
      rw [if_neg (by rw [ints_len]; omega)]
    | succ m ih =>
      intro j hj
      have hlt : j < l.length := by omega
      rw [List.drop_eq_getElem_cons hlt]
      by_cases c : (l[j] : Int) = (a : Int)
      · rw [decide_eq_true (List.mem_cons.2 (.inl (by omega)) : a ∈ l[j] :: l.drop (j + 1))]
        refine Ev.step (f := fun _ => some true) (fun k => ?_) (Ev.now _)
        conv => lhs; unfold spec_l8Has.l0
        rw [if_pos (by rw [ints_len]; omega), if_pos (by omega), rd_ints hlt, if_pos c]
      · rw [show decide (a ∈ l[j] :: l.drop (j + 1)) = decide (a ∈ l.drop (j + 1)) from decide_eq_decide.2 (by
          rw [List.mem_cons]
          constructor
          · rintro (h | h)
            · exact absurd (by omega) c
            · exact h
          · exact .inr)]
        refine Ev.step (fun k => ?_) (ih (j + 1) (by omega))
        conv => lhs; unfold spec_l8Has.l0
        rw [if_pos (by rw [ints_len]; omega), if_pos (by omega), rd_ints hlt, if_neg c, w1n hlt (by omega)]
  have := loop l.length 0 (Nat.zero_add _)
  rw [List.drop_zero] at this
  exact this
section
variable {p : List PM} (K : OkP p)
include K
theorem e_false {i : Nat} (hi : i < p.length) : Ev (fun k => spec_l8Edge.f k p (i : Int) false) (ints (fst (md p) i)) := spec_edge K false i hi
theorem e_true {i : Nat} (hi : i < p.length) : Ev (fun k => spec_l8Edge.f k p (i : Int) true) (ints (lstS (md p) i)) := spec_edge K true i hi
theorem len_fst {i : Nat} (hi : i < p.length) : (fst (md p) i).length ≤ 40 := by
  have := edge_len K.tr fst (.inl rfl) i (by rw [md_len]; exact hi)
  have := K.most
  omega
theorem len_lstS {i : Nat} (hi : i < p.length) : (lstS (md p) i).length ≤ 40 := by
  have := lstS_len K.tr i (by rw [md_len]; exact hi)
  have := K.most
  omega
theorem len_pre {i : Nat} (hi : i < p.length) (j : Nat) : (pre (nul (md p)) (fst (md p)) ((nd (md p) i).kids.drop j)).length ≤ 40 := by
  have him : i < (md p).length := by rw [md_len]; exact hi
  have h1 := (pre_sub (N := nul (md p)) (F := fst (md p)) ((nd (md p) i).kids.drop j)).length_le
  have h2 := flat_len (F := fst (md p)) (K.tr.chain i him) (fun k hk => K.tr.le k (by omega)) (fun k hk => edge_len K.tr fst (.inl rfl) k (by have := (K.tr.kid him hk).2; omega))
  have h3 := congrArg List.length (congrArg (List.flatMap (fst (md p))) (List.take_append_drop j (nd (md p) i).kids))
  rw [List.flatMap_append, List.length_append] at h3
  have := K.most
  omega
theorem len_aftr {i : Nat} (hi : i < p.length) (n : Nat) : ∀ (m j : Nat), j + m = (nd (md p) i).kids.length → (aftr (md p) n ((nd (md p) i).kids.drop j)).length ≤ 40 * m
  | 0, j, h => by rw [List.drop_of_length_le (by omega)]; simp [aftr]
  | m + 1, j, h => by
    rw [List.drop_eq_getElem_cons (by omega), aftr, List.length_append]
    have h1 := len_aftr hi n m (j + 1) (by omega)
    have h2 := len_pre K hi (j + 1)
    split
    · omega
    · simp only [List.length_nil]; omega
theorem spec_follow_l2 {i a : Nat} (hi : i < p.length) (j B : Nat) (x8 : Int) (hx8 : wrap64 (x8 + 1) = ((j : Nat) : Int)) (hB : B ≤ 1048576) (R : List Int → List Int) (hR : ∀ acc : List Int, acc.length ≤ B → Ev (fun k => spec_l8Follow.l1 k p (a : Int) acc (i : Int) (j : Int) (at_ p i).f0 (at_ p i).f1 (at_ p i).f2 (at_ p i).f3) (R acc)) :
    ∀ (m q : Nat) (acc : List Int), q + m = (nd (md p) i).kids.length → acc.length + (pre (nul (md p)) (fst (md p)) ((nd (md p) i).kids.drop q)).length ≤ B → Ev (fun k => spec_l8Follow.l2 k p (a : Int) acc (i : Int) x8 (q : Int) (at_ p i).f0 (at_ p i).f1 (at_ p i).f2 (at_ p i).f3) (R (acc ++ ints (pre (nul (md p)) (fst (md p)) ((nd (md p) i).kids.drop q)))) := by
  have hk := K.f2 hi
  have him : i < (md p).length := by rw [md_len]; exact hi
  have hks := kids_small K hi
  have hm := K.most
  intro m
  induction m with
  | zero =>
    intro q acc hq hl
    rw [List.drop_of_length_le (by omega)] at hl ⊢
    rw [show acc ++ ints (pre (nul (md p)) (fst (md p)) []) = acc from List.append_nil _]
    refine Ev.step (fun k => ?_) (hR acc (by omega))
    conv => lhs; unfold spec_l8Follow.l2
    rw [if_neg (by rw [hk, ints_len]; omega), hx8]
  | succ m ih =>
    intro q acc hq hl
    have hlt : q < (nd (md p) i).kids.length := by omega
    have hki : (nd (md p) i).kids[q] < i := (K.tr.kid him (List.getElem_mem hlt)).2
    rw [List.drop_eq_getElem_cons hlt] at hl ⊢
    rw [pre] at hl ⊢
    rw [List.length_append] at hl
    have hf := len_fst K (show (nd (md p) i).kids[q] < p.length by omega)
    have hacc : (acc ++ ints (fst (md p) (nd (md p) i).kids[q])).length = acc.length + (fst (md p) (nd (md p) i).kids[q]).length := by rw [List.length_append, ints_len]
    refine Ev.step (f := fun k => (spec_l8Edge.f k p ((nd (md p) i).kids[q] : Int) false).bind fun t371 => (if acc.length + t371.length < 17592186044416 then ((some (acc ++ t371 : List Int)).bind fun y374 => ((spec_l8Null.f k p ((nd (md p) i).kids[q] : Int)).bind fun t378 => (if t378 = true then (spec_l8Follow.l2 k p (a : Int) y374 (i : Int) x8 ((q + 1 : Nat) : Int) (at_ p i).f0 (at_ p i).f1 (at_ p i).f2 (at_ p i).f3) else (spec_l8Follow.l1 k p (a : Int) y374 (i : Int) (j : Int) (at_ p i).f0 (at_ p i).f1 (at_ p i).f2 (at_ p i).f3)))) else (none))) (fun k => ?_) (Ev.bind (e_false K (show (nd (md p) i).kids[q] < p.length by omega)) ?_)
    · conv => lhs; unfold spec_l8Follow.l2
      rw [if_pos (by rw [hk, ints_len]; omega), if_pos (by omega), hx8, w1n hlt (by omega)]
      rw [show rd (at_ p i).f2 (q : Int) = ((nd (md p) i).kids[q] : Int) by rw [hk]; exact rd_ints hlt]
    · rw [ints_len]
      have hgo : Ev (fun k => (spec_l8Null.f k p ((nd (md p) i).kids[q] : Int)).bind fun t378 => (if t378 = true then (spec_l8Follow.l2 k p (a : Int) (acc ++ ints (fst (md p) (nd (md p) i).kids[q])) (i : Int) x8 ((q + 1 : Nat) : Int) (at_ p i).f0 (at_ p i).f1 (at_ p i).f2 (at_ p i).f3) else (spec_l8Follow.l1 k p (a : Int) (acc ++ ints (fst (md p) (nd (md p) i).kids[q])) (i : Int) (j : Int) (at_ p i).f0 (at_ p i).f1 (at_ p i).f2 (at_ p i).f3))) (R (acc ++ ints (fst (md p) (nd (md p) i).kids[q] ++ if nul (md p) (nd (md p) i).kids[q] = true then pre (nul (md p)) (fst (md p)) ((nd (md p) i).kids.drop (q + 1)) else []))) := by
        refine Ev.bind (spec_null K (nd (md p) i).kids[q] (by omega)) ?_
        by_cases n : nul (md p) (nd (md p) i).kids[q] = true
        · simp only [if_pos n] at hl ⊢
          rw [ints_app, ← List.append_assoc]
          exact ih (q + 1) _ (by omega) (by rw [hacc]; omega)
        · simp only [if_neg n, List.append_nil]
          exact hR _ (by rw [hacc]; omega)
      refine Ev.congr (fun k => ?_) hgo
      rw [if_pos (by omega)]
      rfl
theorem spec_follow_l1 {i a : Nat} (hi : i < p.length) (R : List Int → List Int) (hR : ∀ acc : List Int, acc.length ≤ 1640 * (i + 1) → Ev (fun k => spec_l8Follow.l0 k p (a : Int) acc ((i + 1 : Nat) : Int)) (R acc)) :
    ∀ (m j : Nat) (acc : List Int), j + m = (nd (md p) i).kids.length → acc.length + (aftr (md p) a ((nd (md p) i).kids.drop j)).length ≤ 1640 * (i + 1) → Ev (fun k => spec_l8Follow.l1 k p (a : Int) acc (i : Int) (j : Int) (at_ p i).f0 (at_ p i).f1 (at_ p i).f2 (at_ p i).f3) (R (acc ++ ints (aftr (md p) a ((nd (md p) i).kids.drop j)))) := by
  have hk := K.f2 hi
  have him : i < (md p).length := by rw [md_len]; exact hi
  have hks := kids_small K hi
  have hm := K.most
  intro m
  induction m with
  | zero =>
    intro j acc hj hl
    rw [List.drop_of_length_le (by omega)] at hl ⊢
    rw [show acc ++ ints (aftr (md p) a []) = acc from List.append_nil _]
    refine Ev.step (fun k => ?_) (hR acc (by omega))
    conv => lhs; unfold spec_l8Follow.l1
    rw [if_neg (by rw [hk, ints_len]; omega), w1n hi (by omega)]
  | succ m ih =>
    intro j acc hj hl
    have hlt : j < (nd (md p) i).kids.length := by omega
    have hki : (nd (md p) i).kids[j] < i := (K.tr.kid him (List.getElem_mem hlt)).2
    rw [List.drop_eq_getElem_cons hlt] at hl ⊢
    rw [aftr] at hl ⊢
    rw [List.length_append] at hl
    refine Ev.step (f := fun k => (spec_l8Edge.f k p ((nd (md p) i).kids[j] : Int) true).bind fun t366 => ((spec_l8Has.f k t366 (a : Int)).bind fun t369 => (if t369 = true then (spec_l8Follow.l2 k p (a : Int) acc (i : Int) (j : Int) ((j + 1 : Nat) : Int) (at_ p i).f0 (at_ p i).f1 (at_ p i).f2 (at_ p i).f3) else (spec_l8Follow.l1 k p (a : Int) acc (i : Int) ((j + 1 : Nat) : Int) (at_ p i).f0 (at_ p i).f1 (at_ p i).f2 (at_ p i).f3)))) (fun k => ?_) (Ev.bind (e_true K (show (nd (md p) i).kids[j] < p.length by omega)) (Ev.bind (spec_has _ a (by have := len_lstS K (show (nd (md p) i).kids[j] < p.length by omega); omega)) ?_))
    · conv => lhs; unfold spec_l8Follow.l1
      rw [if_pos (by rw [hk, ints_len]; omega), if_pos (by omega), w1n hlt (by omega)]
      rw [show rd (at_ p i).f2 (j : Int) = ((nd (md p) i).kids[j] : Int) by rw [hk]; exact rd_ints hlt]
    · by_cases n : a ∈ lstS (md p) (nd (md p) i).kids[j]
      · rw [if_pos n] at hl ⊢
        rw [decide_eq_true n, ints_app, ← List.append_assoc]
        simp only [if_true]
        refine spec_follow_l2 K hi (j + 1) (1640 * (i + 1) - (aftr (md p) a ((nd (md p) i).kids.drop (j + 1))).length) (j : Int) (w1n hlt (by omega)) (by omega) (fun acc => R (acc ++ ints (aftr (md p) a ((nd (md p) i).kids.drop (j + 1))))) (fun acc' hl' => ih (j + 1) acc' (by omega) (by omega)) m (j + 1) acc (by omega) (by omega)
      · rw [if_neg n] at hl ⊢
        rw [decide_eq_false n, List.nil_append]
        simpa using ih (j + 1) acc (by omega) (by simpa using hl)
theorem oft_three {i : Nat} (hi : i < p.length) : oftB (at_ p i) = decide ((at_ p i).f3 ≥ 2) := by
  have h := K.ok i hi
  unfold okN at h
  simp only [Bool.and_eq_true, decide_eq_true_eq] at h
  unfold oftB
  by_cases c : (at_ p i).f3 ≥ 2
  · rw [decide_eq_true c]
    by_cases c2 : (at_ p i).f3 = 2
    · rw [c2]; rfl
    · rw [show (at_ p i).f3 = 3 by omega]; rfl
  · rw [decide_eq_false c, beq_eq_false_iff_ne.2 (by omega), beq_eq_false_iff_ne.2 (by omega)]; rfl
theorem spec_follow (a : Nat) : Ev (fun k => spec_l8Follow.f k p (a : Int)) (srt (ints (folS (md p) a))) := by
  have hm := K.most
  have loop : ∀ (m i : Nat) (acc : List Int), i + m = p.length → acc.length ≤ 1640 * i → Ev (fun k => spec_l8Follow.l0 k p (a : Int) acc (i : Int)) (srt (acc ++ ints ((List.range' i m).flatMap (adds (md p) a)))) := by
    intro m
    induction m with
    | zero =>
      intro i acc hi hl
      rw [List.range'_zero, show acc ++ ints (List.flatMap (adds (md p) a) []) = acc from List.append_nil _]
      refine Ev.step (f := fun k => (spec_l8Sorted.f k acc).bind fun t350 => some t350) (fun k => ?_) (Ev.bind (spec_sorted acc (by omega)) (Ev.now _))
      conv => lhs; unfold spec_l8Follow.l0
      rw [if_neg (by omega)]
    | succ m ih =>
      intro i acc hi hl
      have hil : i < p.length := by omega
      have hil' : i < (md p).length := by rw [md_len]; exact hil
      have e : rd_T49 p (i : Int) = at_ p i := rfl
      have e0 := nd_md hil
      have hkind : (nd (md p) i).kind = (at_ p i).f0 := by rw [e0]; rfl
      have hoft : (nd (md p) i).oft = oftB (at_ p i) := by rw [e0]; rfl
      have hfl := len_fst K hil
      rw [List.range'_succ, List.flatMap_cons, ints_app, ← List.append_assoc]
      have hal := len_aftr K hil a (nd (md p) i).kids.length 0 (Nat.zero_add _)
      rw [List.drop_zero] at hal
      have hks := kids_small K hil
      have hj2 : ∀ acc2 : List Int, acc2.length ≤ 1640 * i + 40 → Ev (fun k => spec_l8Follow.j2 k p (a : Int) acc2 (i : Int) (at_ p i).f0 (at_ p i).f1 (at_ p i).f2 (at_ p i).f3) (srt ((acc2 ++ ints (if (nd (md p) i).kind = 2 then aftr (md p) a (nd (md p) i).kids else [])) ++ ints ((List.range' (i + 1) m).flatMap (adds (md p) a)))) := by
        intro acc2 hl2
        rw [hkind]
        by_cases k2 : (at_ p i).f0 = 2
        · rw [if_pos k2]
          have h1 := spec_follow_l1 K (a := a) hil (fun acc => srt (acc ++ ints ((List.range' (i + 1) m).flatMap (adds (md p) a)))) (fun acc' hl' => ih (i + 1) acc' (by omega) hl') (nd (md p) i).kids.length 0 acc2 (Nat.zero_add _) (by rw [List.drop_zero]; omega)
          rw [List.drop_zero] at h1
          refine Ev.step (fun k => ?_) h1
          conv => lhs; unfold spec_l8Follow.j2
          rw [if_pos k2]
          rfl
        · rw [if_neg k2, show acc2 ++ ints [] = acc2 from List.append_nil _]
          refine Ev.step (fun k => ?_) (ih (i + 1) acc2 (by omega) (by omega))
          conv => lhs; unfold spec_l8Follow.j2
          rw [if_neg k2, w1n hil (by omega)]
      unfold adds
      rw [ints_app, ← List.append_assoc, hoft, oft_three K hil]
      have hno : Ev (fun k => spec_l8Follow.j1 k p (a : Int) acc (i : Int) false (at_ p i).f0 (at_ p i).f1 (at_ p i).f2 (at_ p i).f3) (srt ((acc ++ ints (if (nd (md p) i).kind = 2 then aftr (md p) a (nd (md p) i).kids else [])) ++ ints ((List.range' (i + 1) m).flatMap (adds (md p) a)))) := by
        refine Ev.step (fun k => ?_) (hj2 acc (by omega))
        conv => lhs; unfold spec_l8Follow.j1
        rw [if_neg (by decide)]
      by_cases c3 : (at_ p i).f3 ≥ 2
      · refine Ev.step (f := fun k => (spec_l8Edge.f k p (i : Int) true).bind fun t355 => ((spec_l8Has.f k t355 (a : Int)).bind fun t358 => (spec_l8Follow.j1 k p (a : Int) acc (i : Int) t358 (at_ p i).f0 (at_ p i).f1 (at_ p i).f2 (at_ p i).f3))) (fun k => ?_) (Ev.bind (e_true K hil) (Ev.bind (spec_has _ a (by have := len_lstS K hil; omega)) ?_))
        · conv => lhs; unfold spec_l8Follow.l0
          rw [if_pos (by omega), if_pos (by omega), e, if_pos c3]
        · by_cases n : a ∈ lstS (md p) i
          · rw [decide_eq_true n, if_pos ⟨decide_eq_true c3, n⟩]
            refine Ev.step (f := fun k => (spec_l8Edge.f k p (i : Int) false).bind fun t359 => (if acc.length + t359.length < 17592186044416 then (spec_l8Follow.j2 k p (a : Int) (acc ++ t359) (i : Int) (at_ p i).f0 (at_ p i).f1 (at_ p i).f2 (at_ p i).f3) else (none))) (fun k => ?_) (Ev.bind (e_false K hil) ?_)
            · conv => lhs; unfold spec_l8Follow.j1
              rw [if_pos rfl]
            · refine Ev.congr (fun k => ?_) (hj2 (acc ++ ints (fst (md p) i)) (by rw [List.length_append, ints_len]; omega))
              rw [if_pos (by rw [ints_len]; omega)]
          · rw [decide_eq_false n, if_neg (fun h => n h.2), show acc ++ ints [] = acc from List.append_nil _]
            exact hno
      · rw [if_neg (fun h => c3 (of_decide_eq_true h.1)), show acc ++ ints [] = acc from List.append_nil _]
        refine Ev.step (fun k => ?_) hno
        conv => lhs; unfold spec_l8Follow.l0
        rw [if_pos (by omega), if_pos (by omega), e, if_neg c3]
  have := loop p.length 0 [] (Nat.zero_add _) (by simp)
  rw [← List.range_eq_range'] at this
  unfold folS
  rw [md_len]
  exact this
theorem spec_pos (a : Int) : spec_l8Pos.f p a = some (decide (0 ≤ a ∧ a < p.length) && posB (at_ p a.toNat)) := by
  have hm := K.most
  have h1 := K.one
  unfold spec_l8Pos.f
  rw [lin_ok, w64 (by omega) (by omega)]
  simp only [Option.bind_some]
  by_cases c : 0 ≤ a ∧ a < (p.length : Int)
  · rw [decide_eq_true (show 0 ≤ a ∧ a ≤ (p.length : Int) - 1 by omega), decide_eq_true c, if_pos rfl, if_pos c.1, if_pos c.2, Bool.true_and]
    have e : rd_T49 p a = at_ p a.toNat := by
      unfold at_
      congr 1
      omega
    rw [e]
    unfold posB
    by_cases k1 : (at_ p a.toNat).f0 = 1
    · rw [if_pos k1, k1]; rfl
    · rw [if_neg k1, beq_eq_false_iff_ne.2 k1]; rfl
  · rw [decide_eq_false (fun h => c (by omega)), decide_eq_false c]
    rfl
end
theorem ris_len : ∀ (n : Nat) (l : List Int), Ris l → (∀ x ∈ l, 0 ≤ x ∧ x < (n : Int)) → l.length ≤ n := by
  have key : ∀ (l : List Int) (lo hi : Int), Ris l → (∀ x ∈ l, lo ≤ x ∧ x < hi) → lo ≤ hi → (l.length : Int) ≤ hi - lo := by
    intro l
    induction l with
    | nil => intro lo hi _ _ h; simp; omega
    | cons x l ih =>
      intro lo hi hr hb h
      have hx := hb x (by simp)
      unfold Ris at hr
      rw [List.pairwise_cons] at hr
      have := ih (x + 1) hi hr.2 (fun y hy => ⟨by have := hr.1 y hy; omega, (hb y (by simp [hy])).2⟩) (by omega)
      simp only [List.length_cons]
      omega
  intro n l hr hb
  have := key l 0 n hr hb (by omega)
  omega
theorem spec_apart (p : List PM) (hp : p.length ≤ 40) (l : List Int) (hl : l.length ≤ 1048576) (hb : ∀ a ∈ l, 0 ≤ a ∧ a < (p.length : Int)) : Ev (fun k => spec_l8Apart.f k p l) (apartF p l) := by
  have hin : ∀ (i : Nat) (h : i < l.length), rd l (i : Int) = l[i] := fun i h => rdZ l i h
  have loop1 : ∀ (i : Nat) (hi : i < l.length) (R : Bool), Ev (fun k => spec_l8Apart.l0 k p l ((i + 1 : Nat) : Int)) R → ∀ (m j : Nat), j + m = i → Ev (fun k => spec_l8Apart.l1 k p l (i : Int) (j : Int)) (((List.range' j m).all fun j : Nat => !clashB p (rd l (i : Int)) (rd l (j : Int))) && R) := by
    intro i hi R hR m
    induction m with
    | zero =>
      intro j hj
      rw [List.range'_zero, List.all_nil, Bool.true_and]
      refine Ev.step (fun k => ?_) hR
      conv => lhs; unfold spec_l8Apart.l1
      rw [if_neg (by omega), w1n hi (by omega)]
    | succ m ih =>
      intro j hj
      have hjl : j < l.length := by omega
      have h1 := hb _ (List.getElem_mem hi)
      have h2 := hb _ (List.getElem_mem hjl)
      rw [← hin i hi] at h1
      rw [← hin j hjl] at h2
      rw [List.range'_succ, List.all_cons, Bool.and_assoc]
      have hgo := ih (j + 1) (by omega)
      refine Ev.step (f := fun k => if (rd_T49 p (rd l (i : Int))).f0 = 4 then some false else if (rd_T49 p (rd l (j : Int))).f0 = 4 then some false else if (rd_T49 p (rd l (i : Int))).f1.toList = (rd_T49 p (rd l (j : Int))).f1.toList then some false else spec_l8Apart.l1 k p l (i : Int) ((j + 1 : Nat) : Int)) (fun k => ?_) ?_
      · conv => lhs; unfold spec_l8Apart.l1
        rw [if_pos (by omega), if_pos (by omega), if_pos (by omega), if_pos h1.1, if_pos h1.2, if_pos (by omega), if_pos (by omega), if_pos h2.1, if_pos h2.2, w1n hjl (by omega)]
      · rw [show clashB p (rd l (i : Int)) (rd l (j : Int)) = (((rd_T49 p (rd l (i : Int))).f0 == 4) || (((rd_T49 p (rd l (j : Int))).f0 == 4) || decide ((rd_T49 p (rd l (i : Int))).f1.toList = (rd_T49 p (rd l (j : Int))).f1.toList))) from rfl]
        by_cases c1 : (rd_T49 p (rd l (i : Int))).f0 = 4
        · simp only [if_pos c1, beq_iff_eq.2 c1, Bool.true_or, Bool.not_true, Bool.false_and]
          exact Ev.now _
        · by_cases c2 : (rd_T49 p (rd l (j : Int))).f0 = 4
          · simp only [if_neg c1, if_pos c2, beq_iff_eq.2 c2, Bool.true_or, Bool.or_true, Bool.not_true, Bool.false_and]
            exact Ev.now _
          · by_cases c3 : (rd_T49 p (rd l (i : Int))).f1.toList = (rd_T49 p (rd l (j : Int))).f1.toList
            · simp only [if_neg c1, if_neg c2, if_pos c3, decide_eq_true c3, Bool.or_true, Bool.not_true, Bool.false_and]
              exact Ev.now _
            · simp only [if_neg c1, if_neg c2, if_neg c3, decide_eq_false c3, beq_eq_false_iff_ne.2 c1, beq_eq_false_iff_ne.2 c2, Bool.or_false, Bool.not_false, Bool.true_and]
              exact hgo
  have loop0 : ∀ (m i : Nat), i + m = l.length → Ev (fun k => spec_l8Apart.l0 k p l (i : Int)) ((List.range' i m).all fun i : Nat => (List.range i).all fun j : Nat => !clashB p (rd l (i : Int)) (rd l (j : Int))) := by
    intro m
    induction m with
    | zero =>
      intro i hi
      rw [List.range'_zero, List.all_nil]
      refine Ev.step (f := fun _ => some true) (fun k => ?_) (Ev.now _)
      conv => lhs; unfold spec_l8Apart.l0
      rw [if_neg (by omega)]
    | succ m ih =>
      intro i hi
      rw [List.range'_succ, List.all_cons]
      have h := loop1 i (by omega) _ (ih (i + 1) (by omega)) i 0 (Nat.zero_add _)
      rw [← List.range_eq_range'] at h
      refine Ev.step (fun k => ?_) h
      conv => lhs; unfold spec_l8Apart.l0
      rw [if_pos (by omega)]
      rfl
  have := loop0 l.length 0 (Nat.zero_add _)
  rw [← List.range_eq_range'] at this
  exact this
section
variable {p : List PM} (K : OkP p)
include K
theorem next_first {N : NetV} (HN : NetI p p.length N) : nextF N p.length (-1) = srt (ints (fst (md p) (p.length - 1))) := by
  have ho := K.one
  have hr : p.length - 1 < p.length := by omega
  have hnd := edge_nodup K.tr fst (.inl rfl) (p.length - 1) (by rw [md_len]; exact hr)
  have hrd : rdL N.fst ((p.length : Int) - 1) = ints (fst (md p) (p.length - 1)) := by
    rw [show (p.length : Int) - 1 = ((p.length - 1 : Nat) : Int) by omega, HN.fst]
    exact rd_range hr
  unfold nextF
  rw [if_pos (by decide), hrd]
  exact isort_srt (ints_nodup hnd) (fun _ => Iff.rfl)
theorem next_fol {N : NetV} (HN : NetI p p.length N) {n : Nat} (hn : n < p.length) : nextF N p.length (n : Int) = srt (ints (folS (md p) n)) := by
  unfold nextF
  rw [if_neg (by omega)]
  refine srt_congr (fun x => ?_)
  rw [HN.fol.mem n hn x, mem_ints]
  constructor
  · rintro ⟨b, e, hb⟩
    refine ⟨b, e, (mem_folS K.tr.ahead).2 ?_⟩
    obtain ⟨j, hj, hb⟩ := hb
    exact ⟨j, by rw [md_len]; exact hj, hb⟩
  · rintro ⟨b, e, hb⟩
    obtain ⟨j, hj, hb⟩ := (mem_folS K.tr.ahead).1 hb
    exact ⟨b, e, j, by rw [md_len] at hj; exact hj, hb⟩
theorem fst_in : ∀ a ∈ srt (ints (fst (md p) (p.length - 1))), 0 ≤ a ∧ a < (p.length : Int) := by
  intro x hx
  have ho := K.one
  obtain ⟨b, e, hb⟩ := mem_ints.1 (mem_srt.1 hx)
  have := edge_in K.tr fst (.inl rfl) (p.length - 1) (by rw [md_len]; omega) b hb
  omega
theorem fol_in (n : Nat) : ∀ a ∈ srt (ints (folS (md p) n)), 0 ≤ a ∧ a < (p.length : Int) := by
  intro x hx
  obtain ⟨b, e, hb⟩ := mem_ints.1 (mem_srt.1 hx)
  obtain ⟨j, hj, hb⟩ := (mem_folS K.tr.ahead).1 hb
  rw [md_len] at hj
  have := (led_le K hj hb).2
  omega
theorem srt_small {l : List Int} (h : ∀ a ∈ srt l, 0 ≤ a ∧ a < (p.length : Int)) : (srt l).length ≤ 40 := Nat.le_trans (ris_len p.length _ (up_srt _) h) K.most
def clearW (p : List PM) : Bool := apartF p (srt (ints (fst (md p) (p.length - 1)))) && ((List.range p.length).all fun i : Nat => !(posB (at_ p i) && !apartF p (srt (ints (folS (md p) i)))))
theorem clear_loop : ∀ (m i : Nat), i + m = p.length → Ev (fun k => spec_Clear.l0 k p (i : Int)) ((List.range' i m).all fun i : Nat => !(posB (at_ p i) && !apartF p (srt (ints (folS (md p) i))))) := by
  intro m
  induction m with
  | zero =>
    intro i hi
    rw [List.range'_zero, List.all_nil]
    refine Ev.step (f := fun _ => some true) (fun k => ?_) (Ev.now _)
    conv => lhs; unfold spec_Clear.l0
    rw [if_neg (by omega)]
  | succ m ih =>
    intro i hi
    have hil : i < p.length := by omega
    have hm := K.most
    have hsp := spec_pos K (i : Int)
    rw [decide_eq_true (show 0 ≤ (i : Int) ∧ (i : Int) < (p.length : Int) by omega), Bool.true_and, Int.toNat_natCast] at hsp
    rw [List.range'_succ, List.all_cons]
    refine Ev.step (f := fun k => if posB (at_ p i) = true then ((spec_l8Follow.f k p (i : Int)).bind fun t433 => ((spec_l8Apart.f k p t433).bind fun t436 => (if t436 = true then (spec_Clear.l0 k p ((i + 1 : Nat) : Int)) else (some false)))) else (spec_Clear.l0 k p ((i + 1 : Nat) : Int))) (fun k => ?_) ?_
    · conv => lhs; unfold spec_Clear.l0
      rw [if_pos (by omega), hsp, w1n hil (by omega)]
      rfl
    · cases hp : posB (at_ p i) with
      | false =>
        simp only [Bool.false_eq_true, if_false, Bool.false_and, Bool.not_false, Bool.true_and]
        exact ih (i + 1) (by omega)
      | true =>
        simp only [if_true, Bool.true_and, Bool.not_not]
        refine Ev.bind (spec_follow K i) (Ev.bind (spec_apart p hm _ (by have := srt_small K (fol_in K i); omega) (fol_in K i)) ?_)
        cases apartF p (srt (ints (folS (md p) i))) with
        | false =>
          simp only [Bool.false_eq_true, if_false, Bool.false_and]
          exact Ev.now _
        | true =>
          simp only [if_true, Bool.true_and]
          exact ih (i + 1) (by omega)
end
def clrV (p : List PM) : Bool := okV p && clearW p
theorem spec_clear (p : List PM) (hs : smallM p) : Ev (fun k => spec_Clear.f k p) (clrV p) := by
  have hno : Ev (fun k => spec_Clear.j0 k p true) false := by
    refine Ev.step (f := fun _ => some false) (fun k => ?_) (Ev.now _)
    show (if true = true then some false else spec_Clear.l0 k p 0) = some false
    rw [if_pos rfl]
  have h1 := spec_ok p hs
  unfold clrV
  cases h : okV p with
  | false =>
    rw [h] at h1
    rw [Bool.false_and]
    refine Ev.bind h1 ?_
    simp only [Bool.false_eq_true, if_false]
    exact hno
  | true =>
    rw [h] at h1
    rw [Bool.true_and]
    have K := okP h
    have hm := K.most
    have ho := K.one
    refine Ev.bind h1 ?_
    simp only [if_true]
    have hw : wrap64 ((p.length : Int) - 1) = ((p.length - 1 : Nat) : Int) := by rw [w64] <;> omega
    have hl := len_fst K (show p.length - 1 < p.length by omega)
    have hf : Ev (fun k => spec_FirstOf.f k p) (srt (ints (fst (md p) (p.length - 1)))) := by
      have h1' := spec_ok p hs
      rw [h] at h1'
      refine Ev.bind h1' ?_
      simp only [if_true]
      rw [hw]
      exact Ev.bind (e_false K (by omega)) (Ev.bind (spec_sorted _ (by rw [ints_len]; omega)) (Ev.now _))
    refine Ev.bind hf (Ev.bind (spec_apart p hm _ (by have := srt_small K (fst_in K); omega) (fst_in K)) ?_)
    unfold clearW
    cases apartF p (srt (ints (fst (md p) (p.length - 1)))) with
    | false =>
      rw [Bool.false_and]
      exact hno
    | true =>
      rw [Bool.true_and]
      have hlp := clear_loop K p.length 0 (Nat.zero_add _)
      rw [← List.range_eq_range'] at hlp
      refine Ev.step (fun k => ?_) hlp
      show (if (!true) = true then some false else spec_Clear.l0 k p 0) = _
      rw [if_neg (by decide)]
      rfl
theorem impl_clear (p : List PM) (hs : smallM p) : Ev (fun k => impl_Clear.f k p) (clrV p) := by
  have h2 := impl_ok p hs
  unfold clrV
  cases h : okV p with
  | false =>
    rw [h] at h2
    rw [Bool.false_and]
    exact Ev.bind h2 (Ev.now _)
  | true =>
    rw [h] at h2
    rw [Bool.true_and]
    have K := okP h
    have hm := K.most
    have ho := K.one
    obtain ⟨N, hN, HN⟩ := net_tells h
    refine Ev.bind h2 ?_
    simp only [if_true]
    rw [hN]
    simp only [Option.bind_some]
    rw [if_pos ⟨by omega, by rw [HN.fst]; simp, fun l hl => by
      rw [HN.fst] at hl
      obtain ⟨j, hj, rfl⟩ := List.mem_map.1 hl
      have := len_fst K (List.mem_range.1 hj)
      rw [ints_len]
      unfold LIMK
      omega, by rw [HN.fol.len], fun i hi => by
      rw [next_fol K HN hi]
      exact fol_in K i, by
      rw [next_first K HN]
      exact fst_in K⟩]
    have : clearV p N = clearW p := by
      unfold clearV clearW
      rw [next_first K HN, Bool.and_comm]
      congr 1
      apply Bool.eq_iff_iff.2
      rw [List.all_eq_true, List.all_eq_true]
      constructor
      · intro h i hi
        have := h i hi
        rw [next_fol K HN (List.mem_range.1 hi)] at this
        exact this
      · intro h i hi
        have := h i hi
        rw [next_fol K HN (List.mem_range.1 hi)]
        exact this
    rw [this]
    exact Ev.now _
end Go.Proofs.Ytejkkdjfiebmfaa.Pure

namespace Go.Proofs.Ytejkkdjfiebmfaa.Pure
set_option linter.unusedVariables false
set_option linter.unusedSimpArgs false
namespace MT
variable {α : Type} {N : Nat → Prop} {F L D : Nat → Nat → Prop} {R : Nat → Nat → Nat → Prop} {t : Nat → α → Prop}
def Lnk (R : Nat → Nat → Prop) : List Nat → Prop
  | [] => True
  | [_] => True
  | a :: b :: l => R a b ∧ Lnk R (b :: l)
theorem Lnk.imp {R R' : Nat → Nat → Prop} (h : ∀ a b, R a b → R' a b) : ∀ {l : List Nat}, Lnk R l → Lnk R' l
  | [], _ => trivial
  | [_], _ => trivial
  | a :: b :: l, hl => ⟨h a b hl.1, Lnk.imp h hl.2⟩
def Fit (t : Nat → α → Prop) : List Nat → List α → Prop
  | [], [] => True
  | c :: cs, x :: w => t c x ∧ Fit t cs w
  | _, _ => False
def PL (t : Nat → α → Prop) (N : Prop) (F L : Nat → Prop) (R : Nat → Nat → Prop) (w : List α) : Prop :=
  (w = [] ∧ N) ∨ ∃ c m z, F c ∧ L z ∧ (∃ cs, cs = m ++ [z] ∧ cs.head? = some c ∧ Lnk R cs ∧ Fit t cs w)
theorem PL.congr {t : Nat → α → Prop} {N N' : Prop} {F F' L L' : Nat → Prop} {R R' : Nat → Nat → Prop} {w : List α} (hN : N ↔ N') (hF : ∀ a, F a ↔ F' a) (hL : ∀ a, L a ↔ L' a) (hR : ∀ a b, R a b ↔ R' a b) : PL t N F L R w ↔ PL t N' F' L' R' w := by
  obtain rfl : N = N' := propext hN
  obtain rfl : F = F' := funext fun a => propext (hF a)
  obtain rfl : L = L' := funext fun a => propext (hL a)
  obtain rfl : R = R' := funext fun a => funext fun b => propext (hR a b)
  exact Iff.rfl
section
variable {t : Nat → α → Prop} {N : Nat → Prop} {F L D : Nat → Nat → Prop} {R : Nat → Nat → Nat → Prop}
def SF (N : Nat → Prop) (F : Nat → Nat → Prop) (ks : List Nat) (a : Nat) : Prop := ∃ us k vs, ks = us ++ k :: vs ∧ (∀ u ∈ us, N u) ∧ F k a
def SL (N : Nat → Prop) (L : Nat → Nat → Prop) (ks : List Nat) (a : Nat) : Prop := ∃ us k vs, ks = us ++ k :: vs ∧ (∀ v ∈ vs, N v) ∧ L k a
def SR (N : Nat → Prop) (F L : Nat → Nat → Prop) (R : Nat → Nat → Nat → Prop) (ks : List Nat) (a b : Nat) : Prop :=
  (∃ k ∈ ks, R k a b) ∨ ∃ us k mid k' vs, ks = us ++ k :: (mid ++ k' :: vs) ∧ (∀ u ∈ mid, N u) ∧ L k a ∧ F k' b
theorem SF.cons {k : Nat} {ks : List Nat} {a : Nat} (h : SF N F (k :: ks) a) : F k a ∨ (N k ∧ SF N F ks a) := by
  obtain ⟨us, k', vs, e, hu, ha⟩ := h
  cases us with
  | nil =>
    simp only [List.nil_append, List.cons.injEq] at e
    exact .inl (e.1 ▸ ha)
  | cons u us =>
    simp only [List.cons_append, List.cons.injEq] at e
    obtain ⟨rfl, rfl⟩ := e
    exact .inr ⟨hu _ (by simp), us, k', vs, rfl, fun x hx => hu x (by simp [hx]), ha⟩
theorem SL.cons {k : Nat} {ks : List Nat} {a : Nat} (h : SL N L (k :: ks) a) : (L k a ∧ ∀ u ∈ ks, N u) ∨ SL N L ks a := by
  obtain ⟨us, k', vs, e, hu, ha⟩ := h
  cases us with
  | nil =>
    simp only [List.nil_append, List.cons.injEq] at e
    obtain ⟨rfl, rfl⟩ := e
    exact .inl ⟨ha, hu⟩
  | cons u us =>
    simp only [List.cons_append, List.cons.injEq] at e
    obtain ⟨rfl, rfl⟩ := e
    exact .inr ⟨us, k', vs, rfl, hu, ha⟩
theorem SR.cons {k : Nat} {ks : List Nat} {a b : Nat} (h : SR N F L R (k :: ks) a b) : R k a b ∨ (L k a ∧ SF N F ks b) ∨ SR N F L R ks a b := by
  rcases h with ⟨k', hk, h⟩ | ⟨us, k1, mid, k2, vs, e, hm, ha, hb⟩
  · rcases List.mem_cons.1 hk with rfl | hk
    · exact .inl h
    · exact .inr (.inr (.inl ⟨k', hk, h⟩))
  · cases us with
    | nil =>
      simp only [List.nil_append, List.cons.injEq] at e
      obtain ⟨rfl, rfl⟩ := e
      exact .inr (.inl ⟨ha, mid, k2, vs, rfl, hm, hb⟩)
    | cons u us =>
      simp only [List.cons_append, List.cons.injEq] at e
      obtain ⟨rfl, rfl⟩ := e
      exact .inr (.inr (.inr ⟨us, k1, mid, k2, vs, rfl, hm, ha, hb⟩))
theorem SF.up {k : Nat} {ks : List Nat} {a : Nat} (hN : N k) (h : SF N F ks a) : SF N F (k :: ks) a := by
  obtain ⟨us, k', vs, e, hu, ha⟩ := h
  refine ⟨k :: us, k', vs, by rw [e]; rfl, fun u hu' => ?_, ha⟩
  rcases List.mem_cons.1 hu' with rfl | h'
  · exact hN
  · exact hu u h'
theorem SL.up {k : Nat} {ks : List Nat} {a : Nat} (h : SL N L ks a) : SL N L (k :: ks) a := by
  obtain ⟨us, k', vs, e, hu, ha⟩ := h
  exact ⟨k :: us, k', vs, by rw [e]; rfl, hu, ha⟩
theorem SR.up {k : Nat} {ks : List Nat} {a b : Nat} (h : SR N F L R ks a b) : SR N F L R (k :: ks) a b := by
  rcases h with ⟨k', hk, h⟩ | ⟨us, k1, mid, k2, vs, e, hm, ha, hb⟩
  · exact .inl ⟨k', by simp [hk], h⟩
  · exact .inr ⟨k :: us, k1, mid, k2, vs, by rw [e]; rfl, hm, ha, hb⟩
structure Apart (N : Nat → Prop) (F L D : Nat → Nat → Prop) (R : Nat → Nat → Nat → Prop) (ks : List Nat) : Prop where
  f : ∀ k ∈ ks, ∀ a, F k a → D k a
  l : ∀ k ∈ ks, ∀ a, L k a → D k a
  r : ∀ k ∈ ks, ∀ a b, R k a b → D k a ∧ D k b
  d : ks.Pairwise (fun k k' => ∀ a, D k a → ¬ D k' a)
def SD (D : Nat → Nat → Prop) (ks : List Nat) (a : Nat) : Prop := ∃ k ∈ ks, D k a
theorem Apart.tail {k : Nat} {ks : List Nat} (h : Apart N F L D R (k :: ks)) : Apart N F L D R ks :=
  ⟨fun k' hk => h.f k' (by simp [hk]), fun k' hk => h.l k' (by simp [hk]), fun k' hk => h.r k' (by simp [hk]), (List.pairwise_cons.1 h.d).2⟩
theorem Apart.sf {ks : List Nat} (h : Apart N F L D R ks) {a : Nat} (ha : SF N F ks a) : SD D ks a := by
  obtain ⟨us, k, vs, e, _, ha⟩ := ha
  exact ⟨k, by rw [e]; simp, h.f k (by rw [e]; simp) a ha⟩
theorem Apart.sr {ks : List Nat} (h : Apart N F L D R ks) {a b : Nat} (hr : SR N F L R ks a b) : SD D ks a ∧ SD D ks b := by
  rcases hr with ⟨k, hk, hr⟩ | ⟨us, k1, mid, k2, vs, e, _, ha, hb⟩
  · exact ⟨⟨k, hk, (h.r k hk a b hr).1⟩, ⟨k, hk, (h.r k hk a b hr).2⟩⟩
  · exact ⟨⟨k1, by rw [e]; simp, h.l k1 (by rw [e]; simp) a ha⟩, ⟨k2, by rw [e]; simp, h.f k2 (by rw [e]; simp) b hb⟩⟩
theorem Apart.no {k : Nat} {ks : List Nat} (h : Apart N F L D R (k :: ks)) {a : Nat} (h1 : D k a) (h2 : SD D ks a) : False := by
  obtain ⟨k', hk, h2⟩ := h2
  exact (List.pairwise_cons.1 h.d).1 k' hk a h1 h2
theorem Apart.behind {k : Nat} {ks : List Nat} (h : Apart N F L D R (k :: ks)) : ∀ {l : List Nat} {a : Nat}, SD D ks a → Lnk (SR N F L R (k :: ks)) (a :: l) → Lnk (SR N F L R ks) (a :: l) ∧ ∀ z ∈ a :: l, SD D ks z
  | [], a, ha, _ => ⟨trivial, by simpa using ha⟩
  | b :: l, a, ha, hl => by
    have hr : SR N F L R ks a b := by
      rcases SR.cons hl.1 with h1 | ⟨h1, _⟩ | h1
      · exact (h.no (h.r k (by simp) a b h1).1 ha).elim
      · exact (h.no (h.l k (by simp) a h1) ha).elim
      · exact h1
    obtain ⟨h1, h2⟩ := Apart.behind h (h.tail.sr hr).2 hl.2
    exact ⟨⟨hr, h1⟩, fun z hz => by
      rcases List.mem_cons.1 hz with rfl | hz
      · exact ha
      · exact h2 z hz⟩
theorem Apart.split {k : Nat} {ks : List Nat} (h : Apart N F L D R (k :: ks)) : ∀ {l : List Nat} {a : Nat}, D k a → Lnk (SR N F L R (k :: ks)) (a :: l) →
    (Lnk (R k) (a :: l) ∧ ∀ z ∈ a :: l, D k z) ∨ ∃ m z b n, a :: l = m ++ z :: b :: n ∧ Lnk (R k) (m ++ [z]) ∧ L k z ∧ SF N F ks b ∧ Lnk (SR N F L R ks) (b :: n) ∧ ∀ x ∈ b :: n, SD D ks x
  | [], a, ha, _ => .inl ⟨trivial, by simpa using ha⟩
  | b :: l, a, ha, hl => by
    rcases SR.cons hl.1 with h1 | ⟨h1, h2⟩ | h1
    · have hb := (h.r k (by simp) a b h1).2
      rcases Apart.split h hb hl.2 with ⟨h3, h4⟩ | ⟨m, z, b', n, e, h3, h4, h5, h6, h7⟩
      · refine .inl ⟨⟨h1, h3⟩, fun z hz => ?_⟩
        rcases List.mem_cons.1 hz with rfl | hz
        · exact ha
        · exact h4 z hz
      · refine .inr ⟨a :: m, z, b', n, by rw [e]; rfl, ?_, h4, h5, h6, h7⟩
        cases m with
        | nil =>
          simp only [List.nil_append, List.cons.injEq] at e
          exact ⟨e.1 ▸ h1, trivial⟩
        | cons y m =>
          simp only [List.cons_append, List.cons.injEq] at e
          exact ⟨e.1 ▸ h1, h3⟩
    · obtain ⟨h3, h4⟩ := Apart.behind h (h.tail.sf h2) hl.2
      exact .inr ⟨[], a, b, l, rfl, trivial, h1, h2, h3, h4⟩
    · exact (h.no ha (h.tail.sr h1).1).elim
end
end MT
namespace MT
theorem Chain.cover {lo : Nat → Nat} : ∀ {ks : List Nat} {e b : Nat}, Chain lo e ks b → ∀ j, b ≤ j → j < e → ∃ k ∈ ks, lo k ≤ j ∧ j ≤ k
  | [], e, b, h, j, h1, h2 => by have : b = e := h; omega
  | k :: ks, e, b, h, j, h1, h2 => by
    obtain ⟨m, hc, hm, hb⟩ := h
    by_cases c : j ≤ k
    · exact ⟨k, by simp, by omega, c⟩
    · obtain ⟨k', hk, h3⟩ := Chain.cover hc j (by omega) h2
      exact ⟨k', by simp [hk], h3⟩
def tk (p : Md) (c : Nat) (nm : ByteArray) : Prop := (nd p c).kind = 4 ∨ (nd p c).name = nm
def RL (p : Md) (lo : Nat → Nat) (i a b : Nat) : Prop := ∃ j, lo i ≤ j ∧ j ≤ i ∧ led p j a b
def GL (p : Md) (lo : Nat → Nat) (i : Nat) (w : List ByteArray) : Prop := PL (tk p) (nul p i = true) (fun a => a ∈ fst p i) (fun a => a ∈ lst p i) (RL p lo i) w
def nul1 (p : Md) (i : Nat) : Prop := (if (nd p i).kind = 2 then (nd p i).kids.all (nul p) else if (nd p i).kind = 3 then (nd p i).kids.any (nul p) else false) = true
def R1 (p : Md) (lo : Nat → Nat) (i a b : Nat) : Prop :=
  (∃ k ∈ (nd p i).kids, RL p lo k a b) ∨ ((nd p i).kind = 2 ∧ ∃ us k vs, (nd p i).kids = us ++ k :: vs ∧ a ∈ suf (nul p) (lst p) [] us ∧ b ∈ fst p k)
def G1 (p : Md) (lo : Nat → Nat) (i : Nat) (w : List ByteArray) : Prop := PL (tk p) (nul1 p i) (fun a => a ∈ fst p i) (fun a => a ∈ lst p i) (R1 p lo i) w
section
variable {p : Md} {lo : Nat → Nat} (T : Tree p lo)
include T
theorem Tree.inner : ∀ i, i < p.length → ∀ j, lo i ≤ j → j ≤ i → lo i ≤ lo j := by
  intro i
  induction i using Nat.strongRecOn with
  | _ i ih =>
  intro hi j h1 h2
  by_cases e : j = i
  · subst e; exact Nat.le_refl _
  · obtain ⟨k, hk, h3, h4⟩ := Chain.cover (T.chain i hi) j h1 (by omega)
    have := T.kid hi hk
    have := ih k this.2 (by omega) j h3 h4
    omega
end
end MT
end Go.Proofs.Ytejkkdjfiebmfaa.Pure

namespace Go.Proofs.Ytejkkdjfiebmfaa.Pure
open Go.RowKit Go.Proofs.Ytejkkdjfiebmfaa.L Go.Proofs.YtejkkdjfiebmfaaW.PrintWords Go.Proofs.YtejkkdjfiebmfaaW.PrintLast Go.Proofs.YtejkkdjfiebmfaaW.PrintMore
open MT
set_option linter.unusedVariables false
set_option linter.unusedSimpArgs false

theorem lnk_snoc {R : Nat → Nat → Prop} : ∀ {l : List Nat} {a b : Nat}, Lnk R (l ++ [a, b]) ↔ Lnk R (l ++ [a]) ∧ R a b
  | [], a, b => by simp [Lnk]
  | [x], a, b => by simp [Lnk, and_assoc]
  | x :: y :: l, a, b => by
    have := lnk_snoc (R := R) (l := y :: l) (a := a) (b := b)
    show (R x y ∧ Lnk R (y :: l ++ [a, b])) ↔ (R x y ∧ Lnk R (y :: l ++ [a])) ∧ R a b
    rw [this, and_assoc]
theorem fit_snoc {t : Nat → ByteArray → Prop} : ∀ {c : List Nat} {z : Nat} {w : List ByteArray} {x : ByteArray}, Fit t (c ++ [z]) (w ++ [x]) ↔ Fit t c w ∧ t z x
  | [], z, [], x => by simp [Fit]
  | [], z, y :: w, x => by
    constructor
    · rintro ⟨_, h⟩
      cases w <;> exact h.elim
    · rintro ⟨h, _⟩; exact h.elim
  | d :: c, z, [], x => by
    constructor
    · rintro ⟨_, h⟩
      cases c <;> exact h.elim
    · rintro ⟨h, _⟩; exact h.elim
  | d :: c, z, y :: w, x => by
    show (t d y ∧ Fit t (c ++ [z]) (w ++ [x])) ↔ (t d y ∧ Fit t c w) ∧ t z x
    rw [fit_snoc, and_assoc]
theorem fit_nil {t : Nat → ByteArray → Prop} {c : List Nat} : Fit t c [] ↔ c = [] := by
  cases c with
  | nil => simp [Fit]
  | cons x c => simp [Fit]
def Rch (q : Md) (w : List ByteArray) (z : Nat) : Prop := ∃ m c, (m ++ [z]).head? = some c ∧ c ∈ fst q (q.length - 1) ∧ Lnk (fol q) (m ++ [z]) ∧ Fit (tk q) (m ++ [z]) w
theorem rch_nil {q : Md} {z : Nat} : ¬ Rch q [] z := by
  rintro ⟨m, c, _, _, _, h⟩
  rw [fit_nil] at h
  cases m <;> cases h
theorem rch_snoc {q : Md} {w : List ByteArray} {nm : ByteArray} {z : Nat} : Rch q (w ++ [nm]) z ↔ tk q z nm ∧ ((w = [] ∧ z ∈ fst q (q.length - 1)) ∨ ∃ y, Rch q w y ∧ fol q y z) := by
  constructor
  · rintro ⟨m, c, h1, h2, h3, h4⟩
    obtain ⟨h5, h6⟩ := fit_snoc.1 h4
    refine ⟨h6, ?_⟩
    rcases List.eq_nil_or_concat m with rfl | ⟨m', y, rfl⟩
    · left
      refine ⟨?_, ?_⟩
      · cases w with
        | nil => rfl
        | cons x w => exact h5.elim
      · have : z = c := by simpa using h1
        rw [this]; exact h2
    · right
      rw [List.concat_eq_append] at h1 h3 h5
      rw [List.append_assoc] at h3
      obtain ⟨h7, h8⟩ := lnk_snoc.1 h3
      refine ⟨y, ⟨m', c, ?_, h2, h7, h5⟩, h8⟩
      rw [← h1]
      cases m' <;> rfl
  · rintro ⟨h1, ⟨rfl, h2⟩ | ⟨y, ⟨m, c, h2, h3, h4, h5⟩, h6⟩⟩
    · exact ⟨[], z, rfl, h2, trivial, ⟨h1, trivial⟩⟩
    · refine ⟨m ++ [y], c, ?_, h3, ?_, fit_snoc.2 ⟨h5, h1⟩⟩
      · rw [← h2]
        cases m <;> rfl
      · rw [List.append_assoc]
        exact lnk_snoc.2 ⟨h4, h6⟩
theorem mem_addK {p : List PM} {nm : ByteArray} {x : Int} : ∀ {row out : List Int}, x ∈ row.foldl (addK p nm) out ↔ x ∈ out ∨ (x ∈ row ∧ takesB p x nm = true)
  | [], out => by simp
  | k :: row, out => by
    rw [List.foldl_cons, mem_addK, List.mem_cons]
    unfold addK
    by_cases c : (takesB p k nm && !decide (k ∈ out)) = true
    · rw [if_pos c, List.mem_append, List.mem_singleton]
      simp only [Bool.and_eq_true, Bool.not_eq_true', decide_eq_false_iff_not] at c
      constructor
      · rintro ((h | rfl) | h)
        · exact .inl h
        · exact .inr ⟨.inl rfl, c.1⟩
        · exact .inr ⟨.inr h.1, h.2⟩
      · rintro (h | ⟨rfl | h, h2⟩)
        · exact .inl (.inl h)
        · exact .inl (.inr rfl)
        · exact .inr ⟨h, h2⟩
    · rw [if_neg c]
      simp only [Bool.and_eq_true, Bool.not_eq_true', decide_eq_false_iff_not, not_and, Decidable.not_not] at c
      constructor
      · rintro (h | h)
        · exact .inl h
        · exact .inr ⟨.inr h.1, h.2⟩
      · rintro (h | ⟨rfl | h, h2⟩)
        · exact .inl h
        · exact .inl (c h2)
        · exact .inr ⟨h, h2⟩
theorem nd_addK {p : List PM} {nm : ByteArray} : ∀ {row out : List Int}, out.Nodup → (row.foldl (addK p nm) out).Nodup
  | [], out, h => h
  | k :: row, out, h => by
    rw [List.foldl_cons]
    refine nd_addK ?_
    unfold addK
    by_cases c : (takesB p k nm && !decide (k ∈ out)) = true
    · rw [if_pos c]
      simp only [Bool.and_eq_true, Bool.not_eq_true', decide_eq_false_iff_not] at c
      refine List.nodup_append.2 ⟨h, by simp, ?_⟩
      intro a ha b hb e
      have : b = k := by simpa using hb
      subst this
      subst e
      exact c.2 ha
    · rw [if_neg c]; exact h
theorem mem_rows {p : List PM} {N : NetV} {n : Nat} {nm : ByteArray} {x : Int} : ∀ {at_ out : List Int}, x ∈ at_.foldl (stepRow p N n nm) out ↔ x ∈ out ∨ ∃ q ∈ at_, x ∈ nextF N n q ∧ takesB p x nm = true
  | [], out => by simp
  | k :: at_, out => by
    rw [List.foldl_cons, mem_rows]
    unfold stepRow
    rw [mem_addK]
    constructor
    · rintro ((h | h) | ⟨q, hq, h⟩)
      · exact .inl h
      · exact .inr ⟨k, by simp, h⟩
      · exact .inr ⟨q, by simp [hq], h⟩
    · rintro (h | ⟨q, hq, h⟩)
      · exact .inl (.inl h)
      · rcases List.mem_cons.1 hq with rfl | hq
        · exact .inl (.inr h)
        · exact .inr ⟨q, hq, h⟩
theorem nd_rows {p : List PM} {N : NetV} {n : Nat} {nm : ByteArray} : ∀ {at_ out : List Int}, out.Nodup → (at_.foldl (stepRow p N n nm) out).Nodup
  | [], out, h => h
  | k :: at_, out, h => by
    rw [List.foldl_cons]
    exact nd_rows (nd_addK h)
structure AtI (p : List PM) (w : List ByteArray) (at_ : List Int) : Prop where
  mem : ∀ x, x ∈ at_ ↔ (w = [] ∧ x = -1) ∨ ∃ z : Nat, x = (z : Int) ∧ Rch (md p) w z
  few : at_.length ≤ 41
section
variable {p : List PM} (K : OkP p) {N : NetV} (HN : NetI p p.length N)
include K HN
omit K HN in
theorem takes_tk {z : Nat} (hz : z < p.length) (nm : ByteArray) : takesB p (z : Int) nm = true ↔ tk (md p) z nm := by
  have e : rd_T49 p (z : Int) = at_ p z := rfl
  unfold takesB tk
  rw [nd_md hz, e, Bool.or_eq_true, beq_iff_eq, beq_iff_eq]
  show (at_ p z).f0 = 4 ∨ (at_ p z).f1.toList = nm.toList ↔ (at_ p z).f0 = 4 ∨ (at_ p z).f1 = nm
  constructor
  · rintro (h | h)
    · exact .inl h
    · right
      rw [Lib.toList_data, Lib.toList_data] at h
      exact ba_ext h
  · rintro (h | h)
    · exact .inl h
    · exact .inr (by rw [h])
omit HN in
theorem rch_lt {w : List ByteArray} {z : Nat} (h : Rch (md p) w z) : z < p.length := by
  obtain ⟨m, c, h1, h2, h3, h4⟩ := h
  have ho := K.one
  rcases List.eq_nil_or_concat m with rfl | ⟨m', y, rfl⟩
  · have : z = c := by simpa using h1
    rw [this]
    rw [md_len] at h2
    have := edge_in K.tr fst (.inl rfl) (p.length - 1) (by rw [md_len]; omega) c h2
    omega
  · rw [List.concat_eq_append, List.append_assoc] at h3
    obtain ⟨j, hj, hl⟩ := (lnk_snoc.1 h3).2
    rw [md_len] at hj
    have := (led_le K hj hl).2
    omega
theorem next_mem {w : List ByteArray} {at_ : List Int} (H : AtI p w at_) {q : Int} (hq : q ∈ at_) : q < (N.fol.length : Int) ∧ inB p.length (nextF N p.length q) ∧ (nextF N p.length q).length ≤ 40 := by
  have ho := K.one
  rcases (H.mem q).1 hq with ⟨_, rfl⟩ | ⟨z, rfl, hz⟩
  · rw [next_first K HN, HN.fol.len]
    exact ⟨by omega, fst_in K, srt_small K (fst_in K)⟩
  · have hl := rch_lt K hz
    rw [next_fol K HN hl, HN.fol.len]
    exact ⟨by omega, fol_in K z, srt_small K (fol_in K z)⟩
omit K HN in
theorem sum_few : ∀ {l : List Int}, (∀ q ∈ l, (nextF N p.length q).length ≤ 40) → sumN N p.length l ≤ 40 * l.length
  | [], _ => Nat.le_refl _
  | q :: l, h => by
    have h1 := h q (by simp)
    have h2 := sum_few (l := l) (fun y hy => h y (by simp [hy]))
    show (nextF N p.length q).length + sumN N p.length l ≤ 40 * (l.length + 1)
    omega
theorem at_step {w : List ByteArray} {at_ : List Int} (H : AtI p w at_) (nm : ByteArray) : stepOk N p.length at_ ∧ AtI p (w ++ [nm]) (stepF p N p.length nm at_) := by
  have hm := K.most
  have hs := sum_few (l := at_) (fun q hq => (next_mem K HN H hq).2.2)
  have hmem : ∀ x, x ∈ stepF p N p.length nm at_ ↔ ∃ z : Nat, x = (z : Int) ∧ Rch (md p) (w ++ [nm]) z := by
    intro x
    unfold stepF
    rw [mem_isort, mem_rows]
    constructor
    · rintro (h | ⟨q, hq, h1, h2⟩)
      · simp at h
      · have hb := ((next_mem K HN H hq).2.1).at_ x h1
        obtain ⟨z, rfl⟩ : ∃ z : Nat, x = (z : Int) := ⟨x.toNat, by omega⟩
        refine ⟨z, rfl, rch_snoc.2 ⟨(takes_tk (by omega) nm).1 h2, ?_⟩⟩
        rcases (H.mem q).1 hq with ⟨hw, rfl⟩ | ⟨y, rfl, hy⟩
        · left
          rw [next_first K HN] at h1
          obtain ⟨b, e, hb⟩ := mem_ints.1 (mem_srt.1 h1)
          refine ⟨hw, ?_⟩
          rw [md_len, show z = b by omega]
          exact hb
        · right
          rw [next_fol K HN (rch_lt K hy)] at h1
          obtain ⟨b, e, hb⟩ := mem_ints.1 (mem_srt.1 h1)
          refine ⟨y, hy, ?_⟩
          rw [show z = b by omega]
          exact (mem_folS K.tr.ahead).1 hb
    · rintro ⟨z, rfl, hz⟩
      right
      have hzl := rch_lt K hz
      obtain ⟨h1, ⟨hw, h2⟩ | ⟨y, hy, h2⟩⟩ := rch_snoc.1 hz
      · refine ⟨-1, (H.mem (-1)).2 (.inl ⟨hw, rfl⟩), ?_, (takes_tk hzl nm).2 h1⟩
        rw [next_first K HN]
        rw [md_len] at h2
        exact mem_srt.2 (mem_ints.2 ⟨z, rfl, h2⟩)
      · refine ⟨(y : Int), (H.mem _).2 (.inr ⟨y, rfl, hy⟩), ?_, (takes_tk hzl nm).2 h1⟩
        rw [next_fol K HN (rch_lt K hy)]
        exact mem_srt.2 (mem_ints.2 ⟨z, rfl, (mem_folS K.tr.ahead).2 h2⟩)
  refine ⟨⟨fun q hq => ⟨(next_mem K HN H hq).1, (next_mem K HN H hq).2.1⟩, by have := H.few; unfold LIMK; omega⟩, ⟨fun x => ?_, ?_⟩⟩
  · rw [hmem x]
    constructor
    · exact .inr
    · rintro (⟨h, _⟩ | h)
      · cases w <;> cases h
      · exact h
  · have hnd : (at_.foldl (stepRow p N p.length nm) []).Nodup := nd_rows List.nodup_nil
    unfold stepF
    rw [isort_length]
    have e := isort_srt hnd (l := at_.foldl (stepRow p N p.length nm) []) (fun _ => Iff.rfl)
    have hb : ∀ a ∈ srt (at_.foldl (stepRow p N p.length nm) []), 0 ≤ a ∧ a < (p.length : Int) := by
      intro a ha
      rw [← e] at ha
      obtain ⟨z, rfl, hz⟩ := (hmem a).1 ha
      have := rch_lt K hz
      omega
    have hl := srt_small K hb
    rw [← e, isort_length] at hl
    omega
theorem run_all : ∀ (names w : List ByteArray) (at_ : List Int), AtI p w at_ → ∃ fin, runO p N p.length names at_ = some fin ∧ AtI p (w ++ names) fin
  | [], w, at_, H => ⟨at_, rfl, by rw [List.append_nil]; exact H⟩
  | nm :: names, w, at_, H => by
    obtain ⟨h1, h2⟩ := at_step K HN H nm
    obtain ⟨fin, h3, h4⟩ := run_all names (w ++ [nm]) _ h2
    refine ⟨fin, ?_, by rw [List.append_assoc] at h4; exact h4⟩
    unfold runO
    rw [if_pos h1]
    exact h3
theorem may_path {w : List ByteArray} {fin : List Int} (H : AtI p w fin) : mayF N p.length fin = true ↔ GL (md p) (loT p) (p.length - 1) w := by
  have ho := K.one
  have hr : p.length - 1 < p.length := by omega
  have hnul : rdOf false N.nul ((p.length : Int) - 1) = nul (md p) (p.length - 1) := by
    rw [show (p.length : Int) - 1 = ((p.length - 1 : Nat) : Int) by omega, HN.nul]
    exact rd_range hr
  have hlst : rdL N.lst ((p.length : Int) - 1) = ints (lst (md p) (p.length - 1)) := by
    rw [show (p.length : Int) - 1 = ((p.length - 1 : Nat) : Int) by omega, HN.lst]
    exact rd_range hr
  have hlo : loT p (p.length - 1) = 0 := by unfold loT; rw [K.root]; rfl
  have hRL : ∀ a b, RL (md p) (loT p) (p.length - 1) a b ↔ fol (md p) a b := by
    intro a b
    unfold RL fol
    rw [hlo, md_len]
    constructor
    · rintro ⟨j, _, h1, h2⟩; exact ⟨j, by omega, h2⟩
    · rintro ⟨j, h1, h2⟩; exact ⟨j, Nat.zero_le _, by omega, h2⟩
  have hGL : GL (md p) (loT p) (p.length - 1) w ↔ (w = [] ∧ nul (md p) (p.length - 1) = true) ∨ ∃ z, Rch (md p) w z ∧ z ∈ lst (md p) (p.length - 1) := by
    unfold GL
    rw [PL.congr (N' := nul (md p) (p.length - 1) = true) (F' := fun a => a ∈ fst (md p) (p.length - 1)) (L' := fun a => a ∈ lst (md p) (p.length - 1)) (R' := fol (md p)) Iff.rfl (fun _ => Iff.rfl) (fun _ => Iff.rfl) hRL]
    unfold PL Rch
    rw [md_len]
    constructor
    · rintro (h | ⟨c, m, z, h1, h2, cs, rfl, h3, h4, h5⟩)
      · exact .inl h
      · exact .inr ⟨z, ⟨m, c, h3, h1, h4, h5⟩, h2⟩
    · rintro (h | ⟨z, ⟨m, c, h3, h1, h4, h5⟩, h2⟩)
      · exact .inl h
      · exact .inr ⟨c, m, z, h1, h2, _, rfl, h3, h4, h5⟩
  rw [hGL]
  unfold mayF
  rw [List.any_eq_true]
  constructor
  · rintro ⟨q, hq, h⟩
    unfold endB at h
    rcases (H.mem q).1 hq with ⟨hw, rfl⟩ | ⟨z, rfl, hz⟩
    · rw [if_pos (by decide), hnul] at h
      exact .inl ⟨hw, h⟩
    · rw [if_neg (by omega), hlst] at h
      exact .inr ⟨z, hz, nat_ints.1 (of_decide_eq_true h)⟩
  · rintro (⟨hw, h⟩ | ⟨z, hz, h⟩)
    · refine ⟨-1, (H.mem _).2 (.inl ⟨hw, rfl⟩), ?_⟩
      unfold endB
      rw [if_pos (by decide), hnul]
      exact h
    · refine ⟨(z : Int), (H.mem _).2 (.inr ⟨z, rfl, hz⟩), ?_⟩
      unfold endB
      rw [if_neg (by omega), hlst]
      exact decide_eq_true (nat_ints.2 h)
end
open Classical in
noncomputable def accV (p : List PM) (w : List ByteArray) : Bool := okV p && (decide (w.length ≤ 200) && decide (GL (md p) (loT p) (p.length - 1) w))
open Classical in
theorem impl_accepts (p : List PM) (hs : smallM p) (w : List ByteArray) : Ev (fun k => impl_Accepts.f k p w) (accV p w) := by
  have h2 := impl_ok p hs
  unfold accV
  cases h : okV p with
  | false =>
    rw [h] at h2
    rw [Bool.false_and]
    exact Ev.bind h2 (Ev.now _)
  | true =>
    rw [h] at h2
    rw [Bool.true_and]
    have K := okP h
    have ho := K.one
    obtain ⟨N, hN, HN⟩ := net_tells h
    refine Ev.bind h2 ?_
    simp only [if_true]
    by_cases hl : w.length ≤ 200
    · rw [if_pos hl, decide_eq_true hl, Bool.true_and, hN]
      simp only [Option.bind_some]
      rw [if_pos ⟨by omega, by rw [HN.fst]; simp, fun l hl => by
        rw [HN.fst] at hl
        obtain ⟨j, hj, rfl⟩ := List.mem_map.1 hl
        have := len_fst K (List.mem_range.1 hj)
        rw [ints_len]
        unfold LIMK
        omega, by rw [HN.nul]; simp, by rw [HN.lst]; simp⟩]
      obtain ⟨fin, h3, h4⟩ := run_all K HN w [] [-1] ⟨fun x => by
        rw [List.mem_singleton]
        constructor
        · intro h; exact .inl ⟨rfl, h⟩
        · rintro (⟨_, h⟩ | ⟨z, _, h⟩)
          · exact h
          · exact absurd h rch_nil, by simp⟩
      rw [h3]
      have h5 := may_path K HN h4
      rw [List.nil_append] at h5
      have : mayF N p.length fin = decide (GL (md p) (loT p) (p.length - 1) w) := Bool.eq_iff_iff.2 (by rw [h5, decide_eq_true_eq])
      show Ev (fun _ => some (mayF N p.length fin)) _
      rw [this]
      exact Ev.now _
    · rw [if_neg hl, decide_eq_false hl, Bool.false_and]
      exact Ev.now _
theorem spec_hasZ (l : List Int) (a : Int) (hl : l.length ≤ 1048576) : Ev (fun k => spec_l8Has.f k l a) (decide (a ∈ l)) := by
  have loop : ∀ (m j : Nat), j + m = l.length → Ev (fun k => spec_l8Has.l0 k l a (j : Int)) (decide (a ∈ l.drop j)) := by
    intro m
    induction m with
    | zero =>
      intro j hj
      rw [List.drop_of_length_le (by omega)]
      refine Ev.step (f := fun _ => some false) (fun k => ?_) (Ev.now _)
      conv => lhs; unfold spec_l8Has.l0
      rw [if_neg (by omega)]
    | succ m ih =>
      intro j hj
      have hlt : j < l.length := by omega
      rw [List.drop_eq_getElem_cons hlt]
      by_cases c : l[j] = a
      · rw [decide_eq_true (List.mem_cons.2 (.inl c.symm) : a ∈ l[j] :: l.drop (j + 1))]
        refine Ev.step (f := fun _ => some true) (fun k => ?_) (Ev.now _)
        conv => lhs; unfold spec_l8Has.l0
        rw [if_pos (by omega), if_pos (by omega), rdZ l j hlt, if_pos c]
      · rw [show decide (a ∈ l[j] :: l.drop (j + 1)) = decide (a ∈ l.drop (j + 1)) from decide_eq_decide.2 (by
          rw [List.mem_cons]
          constructor
          · rintro (h | h)
            · exact absurd h.symm c
            · exact h
          · exact .inr)]
        refine Ev.step (fun k => ?_) (ih (j + 1) (by omega))
        conv => lhs; unfold spec_l8Has.l0
        rw [if_pos (by omega), if_pos (by omega), rdZ l j hlt, if_neg c, w1n hlt (by omega)]
  have := loop l.length 0 (Nat.zero_add _)
  rw [List.drop_zero] at this
  exact this
def pickL (p : List PM) (nm : ByteArray) (b : Int) (l : List Int) : Int := l.foldl (fun a x => if takesB p x nm = true then x else a) b
theorem pickL_filter (p : List PM) (nm : ByteArray) : ∀ (l : List Int) (b : Int), pickL p nm b l = (l.filter fun x => takesB p x nm).getLast?.getD b
  | [], b => rfl
  | x :: l, b => by
    show pickL p nm (if takesB p x nm = true then x else b) l = _
    rw [pickL_filter p nm l]
    cases c : takesB p x nm with
    | false => rw [if_neg (by decide), List.filter_cons_of_neg (by simp [c])]
    | true =>
      rw [if_pos rfl, List.filter_cons_of_pos (by simp [c])]
      rw [List.getLast?_cons]
      rfl
theorem addK_filter {p : List PM} {nm : ByteArray} : ∀ {row out : List Int}, (out ++ row).Nodup → row.foldl (addK p nm) out = out ++ row.filter fun x => takesB p x nm
  | [], out, _ => by simp
  | k :: row, out, h => by
    have hk : k ∉ out := by
      intro hk
      exact (List.nodup_append.1 h).2.2 k hk k (by simp) rfl
    rw [List.foldl_cons]
    cases c : takesB p k nm with
    | true =>
      rw [show addK p nm out k = out ++ [k] by unfold addK; rw [if_pos (by simp [c, hk])]]
      have h2 : ((out ++ [k]) ++ row).Nodup := by rw [List.append_assoc]; exact h
      rw [addK_filter h2, List.filter_cons_of_pos (by simp [c]), List.append_assoc]
      rfl
    | false =>
      rw [show addK p nm out k = out by unfold addK; rw [if_neg (by simp [c])]]
      have h2 : (out ++ row).Nodup := by
        refine List.Sublist.nodup ?_ h
        exact (List.Sublist.refl out).append (List.sublist_cons_self k row)
      rw [addK_filter h2, List.filter_cons_of_neg (by simp [c])]
theorem clash_takes {p : List PM} {a b : Int} {nm : ByteArray} (h1 : takesB p a nm = true) (h2 : takesB p b nm = true) : clashB p a b = true := by
  unfold takesB at h1 h2
  unfold clashB
  simp only [Bool.or_eq_true, beq_iff_eq, decide_eq_true_eq] at h1 h2 ⊢
  rcases h1 with h1 | h1
  · exact .inl h1
  · rcases h2 with h2 | h2
    · exact .inr (.inl h2)
    · exact .inr (.inr (h1.trans h2.symm))
theorem apart_one {p : List PM} {l : List Int} (h : apartF p l = true) (nm : ByteArray) : (l.filter fun x => takesB p x nm) = [] ∨ ∃ z, (l.filter fun x => takesB p x nm) = [z] := by
  have hp : l.Pairwise fun a b => clashB p b a = false := by
    rw [List.pairwise_iff_getElem]
    intro i j hi hj hij
    unfold apartF at h
    rw [List.all_eq_true] at h
    have h1 := h j (List.mem_range.2 hj)
    rw [List.all_eq_true] at h1
    have h2 := h1 i (List.mem_range.2 hij)
    rw [rdZ l j hj, rdZ l i hi] at h2
    simpa using h2
  have hf := hp.filter (fun x => takesB p x nm)
  have ht : ∀ x ∈ l.filter (fun x => takesB p x nm), takesB p x nm = true := fun x hx => (List.mem_filter.1 hx).2
  match e : l.filter (fun x => takesB p x nm) with
  | [] => exact .inl rfl
  | [z] => exact .inr ⟨z, rfl⟩
  | a :: b :: r =>
    rw [e] at hf ht
    have h1 := (List.pairwise_cons.1 hf).1 b (by simp)
    rw [clash_takes (ht b (by simp)) (ht a (by simp))] at h1
    cases h1
theorem isort_nil : isort [] = [] := by simp [isort]
theorem isort_one (z : Int) : isort [z] = [z] := by simp [isort]
section
variable {p : List PM} (K : OkP p)
include K
theorem fol_pos {a b : Nat} (h : fol (md p) a b) : b < p.length ∧ posB (at_ p b) = true := by
  obtain ⟨j, hj, h⟩ := h
  have hj' : j < p.length := by rw [md_len] at hj; exact hj
  have key : ∀ i, i < (md p).length → b ∈ fst (md p) i → b < p.length ∧ posB (at_ p b) = true := by
    intro i hi hb
    have h1 := edge_in K.tr fst (.inl rfl) i hi b hb
    rw [md_len] at hi
    have hl : b < p.length := by omega
    refine ⟨hl, ?_⟩
    have := h1.2.2
    rw [nd_md hl] at this
    exact this
  rcases h with ⟨_, us, k, vs, e, _, hb⟩ | ⟨_, _, hb⟩
  · have hk : k ∈ (nd (md p) j).kids := by rw [e]; simp
    have h1 := K.tr.kid hj hk
    exact key k (by omega) hb
  · exact key j hj hb
theorem rch_pos {w : List ByteArray} {z : Nat} (h : Rch (md p) w z) : posB (at_ p z) = true := by
  have ho := K.one
  obtain ⟨m, c, h1, h2, h3, h4⟩ := h
  rcases List.eq_nil_or_concat m with rfl | ⟨m', y, rfl⟩
  · have e : z = c := by simpa using h1
    rw [← e] at h2
    rw [md_len] at h2
    have h5 := edge_in K.tr fst (.inl rfl) (p.length - 1) (by rw [md_len]; omega) z h2
    have hl : z < p.length := by omega
    have := h5.2.2
    rw [nd_md hl] at this
    exact this
  · rw [List.concat_eq_append, List.append_assoc] at h3
    exact (fol_pos K (lnk_snoc.1 h3).2).2
omit K in
theorem sattr_pick {w : List ByteArray} {out : List Int} {i : Nat} {L : List Int} (hi : i < w.length) (hL : L.length ≤ 1048576) (hb : ∀ a ∈ L, 0 ≤ a ∧ a < (p.length : Int)) {R : List Int × Bool} :
    ∀ (m j : Nat) (b : Int), j + m = L.length → Ev (fun k => if pickL p (w[i]) b (L.drop j) < 0 then some (([] : List Int), false) else if out.length < 17592186044416 then ((spec_l8Follow.f k p (pickL p (w[i]) b (L.drop j))).bind fun t => spec_Attribute.l0 k p w (out ++ [pickL p (w[i]) b (L.drop j)]) t (wrap64 ((i : Int) + 1))) else none) R →
    Ev (fun k => spec_Attribute.l1 k p w out L (i : Int) b (j : Int)) R := by
  intro m
  induction m with
  | zero =>
    intro j b hj hR
    rw [List.drop_of_length_le (by omega)] at hR
    refine Ev.step (fun k => ?_) hR
    conv => lhs; unfold spec_Attribute.l1
    rw [if_neg (by omega)]
    rfl
  | succ m ih =>
    intro j b hj hR
    have hlt : j < L.length := by omega
    have h1 := hb _ (List.getElem_mem hlt)
    rw [List.drop_eq_getElem_cons hlt] at hR
    have hR' := ih (j + 1) (if takesB p L[j] w[i] = true then L[j] else b) (by omega) hR
    refine Ev.step (fun k => ?_) hR'
    conv => lhs; unfold spec_Attribute.l1
    rw [if_pos (by omega), if_pos (by omega), rdZ L j hlt, if_pos h1.1, if_pos h1.2, w1n hlt (by omega)]
    by_cases c1 : (rd_T49 p L[j]).f0 = 4
    · rw [if_pos c1, show takesB p L[j] w[i] = true by unfold takesB; simp [c1], if_pos rfl]
    · rw [if_neg c1, if_pos (by omega), if_pos (by omega)]
      have e : rdOf ByteArray.empty w (i : Int) = w[i] := by unfold rdOf; simp [hi]
      rw [e]
      by_cases c2 : (rd_T49 p L[j]).f1.toList = (w[i]).toList
      · rw [if_pos c2, show takesB p L[j] w[i] = true by unfold takesB; simp [c2], if_pos rfl]
      · rw [if_neg c2, show takesB p L[j] w[i] = false by unfold takesB; simp [c1, c2], if_neg (by decide)]
omit K in
theorem run_nil (N : NetV) (n : Nat) : ∀ names : List ByteArray, runO p N n names [] = some []
  | [] => rfl
  | nm :: names => by
    unfold runO
    rw [if_pos ⟨by simp, by unfold sumN LIMK; omega⟩, show stepF p N n nm [] = [] from isort_nil]
    exact run_nil N n names
theorem next_nodup {N : NetV} (HN : NetI p p.length N) {w : List ByteArray} {at_ : List Int} (H : AtI p w at_) {q : Int} (hq : q ∈ at_) : (nextF N p.length q).Nodup := by
  have key : ∀ l : List Int, (srt l).Nodup := fun l => by
    have := up_srt l
    unfold Ris at this
    exact this.imp (fun h => by omega)
  rcases (H.mem q).1 hq with ⟨_, rfl⟩ | ⟨z, rfl, hz⟩
  · rw [next_first K HN]; exact key _
  · rw [next_fol K HN (rch_lt K hz)]; exact key _
theorem next_apart {N : NetV} (HN : NetI p p.length N) (hc : clearW p = true) {w : List ByteArray} {at_ : List Int} (H : AtI p w at_) {q : Int} (hq : q ∈ at_) : apartF p (nextF N p.length q) = true := by
  unfold clearW at hc
  rw [Bool.and_eq_true] at hc
  rcases (H.mem q).1 hq with ⟨_, rfl⟩ | ⟨z, rfl, hz⟩
  · rw [next_first K HN]; exact hc.1
  · have hl := rch_lt K hz
    rw [next_fol K HN hl]
    have h2 := List.all_eq_true.1 hc.2 z (List.mem_range.2 hl)
    rw [rch_pos K hz, Bool.true_and, Bool.not_not] at h2
    exact h2
theorem spec_lastE (hs : smallM p) (hok : okV p = true) : Ev (fun k => spec_LastOf.f k p) (srt (ints (lstS (md p) (p.length - 1)))) := by
  have h1 := spec_ok p hs
  rw [hok] at h1
  have hm := K.most
  have ho := K.one
  have hr : p.length - 1 < p.length := by omega
  have hlS := len_lstS K hr
  have hw : wrap64 ((p.length : Int) - 1) = ((p.length - 1 : Nat) : Int) := by rw [w64] <;> omega
  refine Ev.bind h1 ?_
  simp only [if_true]
  rw [hw]
  exact Ev.bind (e_true K hr) (Ev.bind (spec_sorted _ (by rw [ints_len]; omega)) (Ev.now _))
theorem sattr_all {N : NetV} (HN : NetI p p.length N) (hc : clearW p = true) (hsm : smallM p) (hok : okV p = true) (w : List ByteArray) (hw : w.length ≤ 200) : ∀ (rest done : List ByteArray) (q : Int) (out : List Int), w = done ++ rest → AtI p done [q] → out.length = done.length → (done = [] → q = -1) → (done ≠ [] → out.getLast? = some q) →
    (runO p N p.length rest [q] = some [] ∧ Ev (fun k => spec_Attribute.l0 k p w out (nextF N p.length q) (done.length : Int)) ([], false)) ∨
    (∃ z o, runO p N p.length rest [q] = some [z] ∧ attrO p N p.length rest [q] out = some o ∧ o.length ≤ 200 ∧ Ev (fun k => spec_Attribute.l0 k p w out (nextF N p.length q) (done.length : Int)) (if mayF N p.length [z] = true then (o, true) else ([], false)))
  | [], done, q, out, hwe, H, hol, hq0, hql => by
    right
    have ho := K.one
    have hr : p.length - 1 < p.length := by omega
    rw [List.append_nil] at hwe
    subst hwe
    refine ⟨q, out, rfl, rfl, by omega, ?_⟩
    have hmo := K.most
    have hwr : wrap64 ((p.length : Int) - 1) = ((p.length - 1 : Nat) : Int) := by rw [w64] <;> omega
    have hmay : mayF N p.length [q] = endB N p.length q := by unfold mayF; simp
    rw [hmay]
    by_cases hd : w = []
    · have hq := hq0 hd
      subst hq
      have hnul : endB N p.length (-1) = nul (md p) (p.length - 1) := by
        unfold endB
        rw [if_pos (by decide), show (p.length : Int) - 1 = ((p.length - 1 : Nat) : Int) by omega, HN.nul]
        exact rd_range hr
      rw [hnul]
      have h1 := spec_ok p hsm
      rw [hok] at h1
      have h2 : Ev (fun k => spec_Nullable.f k p) (nul (md p) (p.length - 1)) := by
        refine Ev.bind h1 ?_
        simp only [if_true]
        rw [hwr]
        exact Ev.bind (spec_null K _ hr) (Ev.now _)
      subst hd
      refine Ev.step (f := fun k => (spec_Nullable.f k p).bind fun t => if t = true then some (out, true) else some (([] : List Int), false)) (fun k => ?_) (Ev.bind h2 ?_)
      · conv => lhs; unfold spec_Attribute.l0
        rfl
      · cases nul (md p) (p.length - 1) with
        | false => exact Ev.now _
        | true => exact Ev.now _
    · have hl := hql hd
      have hpos : 0 < w.length := List.length_pos_iff.2 hd
      have hg : out[out.length - 1]'(by omega) = q := by
        rw [List.getLast?_eq_getElem?, List.getElem?_eq_getElem (by omega)] at hl
        exact Option.some.inj hl
      have hrd : rd out ((out.length - 1 : Nat) : Int) = q := by rw [rdZ out _ (by omega), hg]
      have hwo : wrap64 ((out.length : Int) - 1) = ((out.length - 1 : Nat) : Int) := by rw [w64] <;> omega
      rcases (H.mem q).1 (by simp) with ⟨h, _⟩ | ⟨z, rfl, hz⟩
      · exact absurd h hd
      · have hend : endB N p.length (z : Int) = decide ((z : Int) ∈ srt (ints (lstS (md p) (p.length - 1)))) := by
          unfold endB
          rw [if_neg (by omega), show (p.length : Int) - 1 = ((p.length - 1 : Nat) : Int) by omega, HN.lst]
          rw [show rdL ((List.range p.length).map fun j => ints (lst (md p) j)) ((p.length - 1 : Nat) : Int) = ints (lst (md p) (p.length - 1)) from rd_range hr]
          apply decide_eq_decide.2
          rw [mem_srt, nat_ints, nat_ints]
          exact (mem_lstS K.tr.ahead _ (by rw [md_len]; exact hr)).symm
        rw [hend]
        have h3 : (srt (ints (lstS (md p) (p.length - 1)))).length ≤ 1048576 := by
          have := srt_small K (l := ints (lstS (md p) (p.length - 1))) (fun a ha => by
            obtain ⟨b, rfl, hb⟩ := mem_ints.1 (mem_srt.1 ha)
            have hb2 := (mem_lstS K.tr.ahead _ (by rw [md_len]; exact hr)).1 hb
            have := edge_in K.tr lst (.inr rfl) (p.length - 1) (by rw [md_len]; exact hr) b hb2
            omega)
          omega
        refine Ev.step (f := fun k => (spec_LastOf.f k p).bind fun t => (spec_l8Has.f k t (z : Int)).bind fun t485 => if t485 = true then some (out, true) else some (([] : List Int), false)) (fun k => ?_) (Ev.bind (spec_lastE K hsm hok) (Ev.bind (spec_hasZ _ (z : Int) h3) ?_))
        · conv => lhs; unfold spec_Attribute.l0
          rw [if_neg (by omega), if_neg (by omega), if_pos (by omega), hwo]
          simp only [if_pos (show (0 : Int) ≤ ((out.length - 1 : Nat) : Int) by omega), if_pos (show ((out.length - 1 : Nat) : Int) < (out.length : Int) by omega), hrd]
        · cases decide ((z : Int) ∈ srt (ints (lstS (md p) (p.length - 1)))) with
          | false => exact Ev.now _
          | true => exact Ev.now _
  | nm :: rest, done, q, out, hwe, H, hol, hq0, hql => by
    have hi : done.length < w.length := by rw [hwe]; simp
    have hwi : w[done.length] = nm := by
      subst hwe
      simp
    have hnx := next_mem K HN H (q := q) (by simp)
    have hnd := next_nodup K HN H (q := q) (by simp)
    have hap := next_apart K HN hc H (q := q) (by simp)
    obtain ⟨hst, H2⟩ := at_step K HN H nm
    have hsF : stepF p N p.length nm [q] = isort ((nextF N p.length q).filter fun x => takesB p x nm) := by
      show isort ((nextF N p.length q).foldl (addK p nm) []) = _
      rw [addK_filter (by rw [List.nil_append]; exact hnd), List.nil_append]
    have hpk := pickL_filter p nm (nextF N p.length q) (-1)
    have hgo : ∀ {R : List Int × Bool}, Ev (fun k => if pickL p nm (-1) (nextF N p.length q) < 0 then some (([] : List Int), false) else if out.length < 17592186044416 then ((spec_l8Follow.f k p (pickL p nm (-1) (nextF N p.length q))).bind fun t => spec_Attribute.l0 k p w (out ++ [pickL p nm (-1) (nextF N p.length q)]) t (wrap64 ((done.length : Int) + 1))) else none) R → Ev (fun k => spec_Attribute.l0 k p w out (nextF N p.length q) (done.length : Int)) R := by
      intro R hR
      have h1 := sattr_pick (w := w) (out := out) (L := nextF N p.length q) hi (by omega) hnx.2.1.at_ (R := R) (nextF N p.length q).length 0 (-1) (Nat.zero_add _) (by rw [List.drop_zero, hwi]; exact hR)
      refine Ev.step (fun k => ?_) h1
      conv => lhs; unfold spec_Attribute.l0
      rw [if_pos (by omega)]
      rfl
    have hrun : runO p N p.length (nm :: rest) [q] = runO p N p.length rest (stepF p N p.length nm [q]) := by
      conv => lhs; unfold runO
      rw [if_pos hst]
    rcases apart_one hap nm with e | ⟨z, e⟩
    · left
      rw [e] at hsF hpk
      have hs0 : stepF p N p.length nm [q] = [] := hsF.trans isort_nil
      have hp0 : pickL p nm (-1) (nextF N p.length q) = -1 := hpk
      refine ⟨by rw [hrun, hs0]; exact run_nil N p.length rest, hgo ?_⟩
      rw [hp0]
      exact Ev.now _
    · rw [e] at hsF hpk
      have hs1 : stepF p N p.length nm [q] = [z] := hsF.trans (isort_one z)
      have hp1 : pickL p nm (-1) (nextF N p.length q) = z := hpk
      have hz : z ∈ nextF N p.length q := by
        have : z ∈ (nextF N p.length q).filter fun x => takesB p x nm := by rw [e]; simp
        exact (List.mem_filter.1 this).1
      have hzb := hnx.2.1.at_ z hz
      rw [hs1] at H2 hrun
      obtain ⟨y, rfl⟩ : ∃ y : Nat, z = (y : Int) := ⟨z.toNat, by omega⟩
      have hdl : (done ++ [nm]).length = done.length + 1 := by simp
      have hwl : done.length + 1 ≤ w.length := hi
      have hat : attrO p N p.length (nm :: rest) [q] out = attrO p N p.length rest [(y : Int)] (out ++ [(y : Int)]) := by
        conv => lhs; unfold attrO
        rw [if_pos ⟨hst, by rw [hs1]; simp, by unfold LIMK; omega⟩, hs1]
        rfl
      rw [hrun, hat]
      have hnf := next_fol K HN (n := y) (by omega)
      have ih := sattr_all HN hc hsm hok w hw rest (done ++ [nm]) (y : Int) (out ++ [(y : Int)]) (by rw [hwe, List.append_assoc]; rfl) H2 (by simp [hol]) (by simp) (fun _ => by simp)
      have hgo2 : ∀ {R : List Int × Bool}, Ev (fun k => spec_Attribute.l0 k p w (out ++ [(y : Int)]) (nextF N p.length (y : Int)) ((done ++ [nm]).length : Int)) R → Ev (fun k => spec_Attribute.l0 k p w out (nextF N p.length q) (done.length : Int)) R := by
        intro R hR
        apply hgo
        rw [hp1]
        rw [hdl] at hR
        rw [hnf] at hR
        rw [show wrap64 ((done.length : Int) + 1) = ((done.length + 1 : Nat) : Int) by rw [w64] <;> omega]
        simp only [if_neg (show ¬ (y : Int) < 0 by omega), if_pos (show out.length < 17592186044416 by omega)]
        exact Ev.bind (spec_follow K y) hR
      rcases ih with ⟨h1, h2⟩ | ⟨z', o, h1, h2, h3, h4⟩
      · exact .inl ⟨h1, hgo2 h2⟩
      · exact .inr ⟨z', o, h1, h2, h3, hgo2 h4⟩
end
open Classical in
theorem attr_both (p : List PM) (hs : smallM p) (w : List ByteArray) : ∃ R : List Int × Bool, Ev (fun k => spec_Attribute.f k p w) R ∧ Ev (fun k => impl_Attribute.f k p w) R ∧ R.1.length ≤ 200 := by
  have h1 := spec_clear p hs
  have h2 := impl_clear p hs
  have h3 := impl_accepts p hs w
  have hno : Ev (fun k => spec_Attribute.j0 k p w true) ([], false) := by
    refine Ev.step (f := fun _ => some ([], false)) (fun k => ?_) (Ev.now _)
    rfl
  cases hcl : clrV p with
  | false =>
    rw [hcl] at h1 h2
    refine ⟨([], false), Ev.bind h1 ?_, Ev.bind h2 ?_, by simp⟩
    · simp only [Bool.false_eq_true, if_false]
      exact hno
    · simp only [Bool.false_eq_true, if_false]
      exact Ev.now _
  | true =>
    rw [hcl] at h1 h2
    unfold clrV at hcl
    rw [Bool.and_eq_true] at hcl
    obtain ⟨hok, hcw⟩ := hcl
    have K := okP hok
    have ho := K.one
    have hmo := K.most
    unfold accV at h3
    rw [hok, Bool.true_and] at h3
    by_cases hl : w.length ≤ 200
    · obtain ⟨N, hN, HN⟩ := net_tells hok
      have H0 : AtI p [] [-1] := ⟨fun x => by
        rw [List.mem_singleton]
        constructor
        · intro h; exact .inl ⟨rfl, h⟩
        · rintro (⟨_, h⟩ | ⟨z, _, h⟩)
          · exact h
          · exact absurd h rch_nil, by simp⟩
      obtain ⟨fin, h5, h6⟩ := run_all K HN w [] [-1] H0
      have h7 := may_path K HN h6
      rw [List.nil_append] at h7
      rw [decide_eq_true hl, Bool.true_and] at h3
      have h8 := sattr_all K HN hcw hs hok w hl w [] (-1) [] rfl H0 rfl (fun _ => rfl) (fun h => absurd rfl h)
      have hf : Ev (fun k => spec_FirstOf.f k p) (nextF N p.length (-1)) := by
        have h1' := spec_ok p hs
        rw [hok] at h1'
        have hw : wrap64 ((p.length : Int) - 1) = ((p.length - 1 : Nat) : Int) := by rw [w64] <;> omega
        have hl := len_fst K (show p.length - 1 < p.length by omega)
        rw [next_first K HN]
        refine Ev.bind h1' ?_
        simp only [if_true]
        rw [hw]
        exact Ev.bind (e_false K (by omega)) (Ev.bind (spec_sorted _ (by rw [ints_len]; omega)) (Ev.now _))
      have hS : ∀ {R : List Int × Bool}, Ev (fun k => spec_Attribute.l0 k p w [] (nextF N p.length (-1)) 0) R → Ev (fun k => spec_Attribute.f k p w) R := by
        intro R hR
        refine Ev.bind h1 ?_
        simp only [if_true]
        rw [decide_eq_false (show ¬ (w.length : Int) > 200 by omega)]
        refine Ev.step (f := fun k => (spec_FirstOf.f k p).bind fun t => spec_Attribute.l0 k p w [] t 0) (fun k => ?_) (Ev.bind hf hR)
        rfl
      rcases h8 with ⟨h9, h10⟩ | ⟨z, o, h9, h10, h11, h12⟩
      · rw [h5] at h9
        obtain rfl := Option.some.inj h9
        have : ¬ GL (md p) (loT p) (p.length - 1) w := by
          rw [← h7]
          unfold mayF
          simp
        rw [decide_eq_false this] at h3
        refine ⟨([], false), hS h10, Ev.bind h2 ?_, by simp⟩
        simp only [if_true]
        refine Ev.bind h3 ?_
        simp only [Bool.false_eq_true, if_false]
        exact Ev.now _
      · rw [h5] at h9
        obtain rfl := Option.some.inj h9
        by_cases hm : mayF N p.length [z] = true
        · rw [if_pos hm] at h12
          rw [decide_eq_true (h7.1 hm)] at h3
          refine ⟨(o, true), hS h12, Ev.bind h2 ?_, h11⟩
          simp only [if_true]
          refine Ev.bind h3 ?_
          simp only [if_true]
          rw [hN]
          simp only [Option.bind_some]
          rw [if_pos ⟨by omega, by rw [HN.fst]; simp, fun l hl => by
            rw [HN.fst] at hl
            obtain ⟨j, hj, rfl⟩ := List.mem_map.1 hl
            have := len_fst K (List.mem_range.1 hj)
            rw [ints_len]
            unfold LIMK
            omega⟩, h10]
          exact Ev.now _
        · rw [if_neg hm] at h12
          rw [decide_eq_false (fun h => hm (h7.2 h))] at h3
          refine ⟨([], false), hS h12, Ev.bind h2 ?_, by simp⟩
          simp only [if_true]
          refine Ev.bind h3 ?_
          simp only [Bool.false_eq_true, if_false]
          exact Ev.now _
    · rw [decide_eq_false hl, Bool.false_and] at h3
      refine ⟨([], false), Ev.bind h1 ?_, Ev.bind h2 ?_, by simp⟩
      · simp only [if_true]
        rw [decide_eq_true (show (w.length : Int) > 200 by omega)]
        exact hno
      · simp only [if_true]
        refine Ev.bind h3 ?_
        simp only [Bool.false_eq_true, if_false]
        exact Ev.now _
end Go.Proofs.Ytejkkdjfiebmfaa.Pure

namespace Go.Proofs.Ytejkkdjfiebmfaa.O
open Go.RowKit Go.Proofs.Ytejkkdjfiebmfaa.L Go.Proofs.YtejkkdjfiebmfaaW.PrintWords Go.Proofs.YtejkkdjfiebmfaaW.PrintLast Go.Proofs.YtejkkdjfiebmfaaW.PrintMore
set_option linter.unusedVariables false
set_option linter.unusedSimpArgs false

def Opens {H α : Type} (enc : TypeId × Value → H) (P : Program) (w : World) (base : Nat) (sp : Nat → Bool) (held : Bool) (t : TypeId) (d : Kd α) (ok : α → Prop) : Prop :=
 ∀ n cs x, DataW.trod enc P w base sp held n t cs = some x → ∃ a, d.K w a cs ∧ ok a
section
variable {H : Type} {enc : TypeId × Value → H} {P : Program} {w : World} {base : Nat} {sp : Nat → Bool} {held : Bool} {t : TypeId}
theorem opens_string (ht : P.underlying t = some .string) : Opens enc P w base sp held t Kd.string (fun s => s.size ≤ maxLen) := by
 intro n cs x h
 obtain ⟨s, rfl, _, hs⟩ := DataW.trod_string ht h
 exact ⟨s, rfl, hs⟩
theorem opens_int {k : IntKind} (ht : P.underlying t = some (.int k)) : Opens enc P w base sp held t (Kd.int k) (fun n => (Lit.int k n).wf = true) := by
 intro n cs x h
 obtain ⟨s, rfl, _, hs⟩ := DataW.trod_int ht h
 exact ⟨s, rfl, hs⟩
theorem rows_of {α : Type} {d : Kd α} {ok : α → Prop} {a : Addr} (len : Nat) (h : ∀ i, i < len → ∃ cs x, w.cells? base (a.add (i * d.sz)) d.sz = some cs ∧ d.K w x cs ∧ ok x) :
  ∃ xs : List α, xs.length = len ∧ ∀ i x, xs[i]? = some x → ok x ∧ ∃ cs, w.cells? base (a.add (i * d.sz)) d.sz = some cs ∧ d.K w x cs := by
 induction len with
 | zero => exact ⟨[], rfl, fun i x hx => by simp at hx⟩
 | succ m ih =>
  obtain ⟨xs, hl, hx⟩ := ih fun i hi => h i (by omega)
  obtain ⟨cs, x, hc, hk, ho⟩ := h m (by omega)
  refine ⟨xs ++ [x], by simp [hl], fun i y hy => ?_⟩
  by_cases hi : i < m
  ·rw [List.getElem?_append_left (by omega)] at hy
   exact hx i y hy
  ·have hlt := (List.getElem?_eq_some_iff.1 hy).1
   simp only [List.length_append, List.length_singleton, hl] at hlt
   have : i = m := by omega
   subst this
   rw [List.getElem?_append_right (by omega), hl] at hy
   simp at hy
   subst hy
   exact ⟨ho, cs, hc, hk⟩
theorem opens_slice {α : Type} {e : TypeId} {d : Kd α} {ok : α → Prop} (e' : Nat) (ht : P.underlying t = some (.slice e)) (hc : P.cellsOf e = d.sz)
  (ho : Opens enc P w base sp held e d ok) : Opens enc P w base sp held t (Kd.slice e' d) (fun xs => xs.length ≤ maxLen ∧ ∀ x ∈ xs, ok x) := by
 intro n cs x h
 rcases DataW.trod_slice ht h with ⟨rfl, _⟩ | ⟨a, len, cap, elems, rest, m, _, rfl, _, hb, hl, hm, hlen, hel, _, _⟩
 ·exact ⟨[], ⟨none, 0, rfl, by simp, Kd.C_nil d w⟩, by simp [maxLen], fun x hx => by cases hx⟩
 ·rw [hc] at hel
  obtain ⟨xs, hxl, hx⟩ := rows_of (w := w) (base := base) (d := d) (ok := ok) (a := a) len (fun i hi => by
   have h1 := hel i hi
   rw [List.getElem?_eq_getElem (by omega), Option.bind_eq_some_iff] at h1
   obtain ⟨cs, hcs, htr⟩ := h1
   obtain ⟨y, hk, hok⟩ := ho m cs _ htr
   exact ⟨cs, y, hcs, hk, hok⟩)
  refine ⟨xs, ⟨some a, cap, by rw [hxl], by omega, ?_⟩, by omega, fun x hx' => ?_⟩
  ·refine ⟨rfl, by unfold maxLen at hm; omega, fun _ => ⟨a, rfl, fun j p hp => ?_⟩⟩
   obtain ⟨_, cs, hcs, hk⟩ := hx j p hp
   obtain ⟨_, hcl, hcell⟩ := World.cells?_some hcs
   refine ⟨cs, hcl, hk, fun i u hu => ?_⟩
   have hlt := (List.getElem?_eq_some_iff.1 hu).1
   have := hcell i (by omega)
   rw [hu] at this
   rw [← this]
   have e : a.add (j * d.sz + i) = (a.add (j * d.sz)).add i := (Addr.add_add a _ _).symm
   rw [e]
  ·obtain ⟨i, hi⟩ := List.getElem?_of_mem hx'
   exact (hx i x hi).1
theorem field_cell {fs : Array Field} {cs : List Value} {x : DataW H × List MemPlace} {fuel : Nat} (ht : P.underlying t = some (.struct fs)) (h : DataW.trod enc P w base sp held fuel t cs = some x)
  (i : Nat) (f : Field) (hf : fs[i]? = some f) (hof : f.offset = i) (hcf : P.cellsOf f.type = 1) : ∃ n y, DataW.trod enc P w base sp held n f.type ((cs.drop i).take 1) = some y := by
 obtain ⟨xs, n, _, _, _, hxl, hall⟩ := DataW.trod_struct ht h
 have := hall i f hf
 have hlt := (Array.getElem?_eq_some_iff.1 hf).1
 rw [hof, hcf, List.getElem?_eq_getElem (by omega)] at this
 exact ⟨n, _, this⟩
end
def okPn (x : S46) : Prop := x.f1.size ≤ maxLen ∧ x.f2.length ≤ maxLen
theorem opens_pnode {H : Type} {enc : TypeId × Value → H} {w : World} {base : Nat} {sp : Nat → Bool} {held : Bool} :
  Opens enc Try.prog w base sp held 46 k46 okPn := by
 intro n cs x h
 have hl : cs.length = 4 := by
  obtain ⟨_, _, _, _, hcl, _, _⟩ := DataW.trod_struct Try.underlying46 h
  exact hcl.trans (by kernel_rfl)
 obtain ⟨n0, y0, h0⟩ := field_cell Try.underlying46 h 0 _ rfl rfl (by kernel_rfl)
 obtain ⟨n1, y1, h1⟩ := field_cell Try.underlying46 h 1 _ rfl rfl (by kernel_rfl)
 obtain ⟨n2, y2, h2⟩ := field_cell Try.underlying46 h 2 _ rfl rfl (by kernel_rfl)
 obtain ⟨n3, y3, h3⟩ := field_cell Try.underlying46 h 3 _ rfl rfl (by kernel_rfl)
 clear h
 obtain ⟨s0, e0, o0⟩ := opens_int (enc := enc) (base := base) (sp := sp) (held := held) (w := w) (k := .i64) Try.underlying2 _ _ _ h0
 obtain ⟨s1, e1, o1⟩ := opens_string (enc := enc) (base := base) (sp := sp) (held := held) (w := w) Try.underlying9 _ _ _ h1
 obtain ⟨s2, ⟨A2, c2, e2, l2, g2⟩, o2⟩ := opens_slice (enc := enc) (base := base) (sp := sp) (held := held) (w := w) 2 Try.underlying24 (by kernel_rfl) (opens_int (k := .i64) Try.underlying2) _ _ _ h2
 obtain ⟨s3, e3, o3⟩ := opens_int (enc := enc) (base := base) (sp := sp) (held := held) (w := w) (k := .i64) Try.underlying2 _ _ _ h3
 match cs, hl with
 | [c0, c1, c2', c3], _ =>
  obtain rfl : c0 = Value.int .i64 s0 := (List.cons.inj (show [c0] = [Value.int .i64 s0] from e0)).1
  obtain rfl : c1 = Value.string s1 := (List.cons.inj (show [c1] = [Value.string s1] from e1)).1
  obtain rfl : c2' = Value.slice A2 s2.length c2 := (List.cons.inj (show [c2'] = [Value.slice A2 s2.length c2] from e2)).1
  obtain rfl : c3 = Value.int .i64 s3 := (List.cons.inj (show [c3] = [Value.int .i64 s3] from e3)).1
  exact ⟨⟨s0, s1, s2, s3⟩, k46_mk w ⟨s0, s1, s2, s3⟩ l2 g2, o1, o2.1⟩
end Go.Proofs.Ytejkkdjfiebmfaa.O

namespace Go.Proofs.Ytejkkdjfiebmfaa.Pure
open Go.RowKit Go.Proofs.Ytejkkdjfiebmfaa.L Go.Proofs.Ytejkkdjfiebmfaa.O Go.Proofs.YtejkkdjfiebmfaaW.PrintWords Go.Proofs.YtejkkdjfiebmfaaW.PrintLast Go.Proofs.YtejkkdjfiebmfaaW.PrintMore
set_option linter.unusedVariables false
set_option linter.unusedSimpArgs false

abbrev LPn : Type := S46
theorem rdLP (l : List LPn) (i : Nat) (h : i < l.length) : rd_T46 l (i : Int) = l[i] := by
  unfold rd_T46
  simp [h]
theorem rdPn (l : List PM) (i : Nat) (h : i < l.length) : rd_T49 l (i : Int) = l[i] := at_lt h
theorem wsub {c : Int} {m : Nat} (h0 : 0 ≤ c) (h1 : c ≤ 1048576) (hm : m ≤ 9223372036854775807) : wrap64 (c - (m : Int)) = c - m := by rw [w64] <;> omega
theorem mxLen : maxLen = 9223372036854775807 := by decide
def convP (x : LPn) : PM := ⟨x.f0, x.f1, x.f2, x.f3⟩
def smallP (x : PM) : Prop := x.f1.data.toList.length ≤ 1048576 ∧ x.f2.length ≤ 1048576
theorem set_mid {α : Type} (u : List α) (z v : α) (r : List α) : (u ++ z :: r).set u.length v = u ++ v :: r := by
  induction u with
  | nil => rfl
  | cons a u ih => simp [ih]
theorem set_copy {α β : Type} (f : α → β) (l : List α) (z : β) (i m : Nat) (h : i < l.length) : ((l.take i).map f ++ List.replicate (m + 1) z).set i (f l[i]) = (l.take (i + 1)).map f ++ List.replicate m z := by
  have hl : ((l.take i).map f).length = i := by simp; omega
  have := set_mid ((l.take i).map f) z (f l[i]) (List.replicate m z)
  rw [hl] at this
  rw [List.replicate_succ, this]
  rw [List.take_succ_eq_append_getElem h, List.map_append]
  simp
/-! #### sizes -/
theorem szZ (l : List Int) (hl : l.length ≤ 9223372036854775807) (c : Int) (h0 : 0 ≤ c) (h1 : c ≤ 1048576) : ∃ v, laws_szInt64S.f l c = some v ∧ (v < 0 ∨ (0 ≤ v ∧ v ≤ c ∧ l.length ≤ 1048576)) := by
  have hw := wsub h0 h1 hl
  unfold laws_szInt64S.f
  rw [hw]
  by_cases c0 : c - (l.length : Int) < 0
  · exact ⟨-1, by rw [if_pos c0], .inl (by decide)⟩
  · exact ⟨c - (l.length : Int), by rw [if_neg c0], .inr ⟨by omega, by omega, by omega⟩⟩
theorem szPn (x : LPn) (ok : okPn x) (c : Int) (h0 : 0 ≤ c) (h1 : c ≤ 1048576) :
    ∃ v, laws_szPNode.f x.f0 x.f1 x.f2 x.f3 c = some v ∧ (v < 0 ∨ (0 ≤ v ∧ v ≤ c ∧ smallP (convP x))) := by
  obtain ⟨o1, o2⟩ := ok
  rw [mxLen] at o1 o2
  have hw := wsub h0 h1 o1
  unfold laws_szPNode.f
  rw [hw]
  by_cases c0 : c - (x.f1.size : Int) < 0
  · exact ⟨-1, by rw [if_pos c0], .inl (by decide)⟩
  · obtain ⟨v, hv, hr⟩ := szZ x.f2 o2 (c - (x.f1.size : Int)) (by omega) (by omega)
    rw [if_neg c0, hv]
    simp only [Option.bind_some]
    rcases hr with h | ⟨a, b, d⟩
    · exact ⟨-1, by rw [if_pos h], .inl (by decide)⟩
    · exact ⟨v, by rw [if_neg (by omega)], .inr ⟨a, by omega, by show x.f1.data.toList.length ≤ _; rw [← sz]; omega, d⟩⟩
theorem szPS_l0 (l : List LPn) (hl : l.length ≤ 9223372036854775807) (hs : ∀ s ∈ l, okPn s) : ∀ (n i : Nat) (c : Int), i + n = l.length → 0 ≤ c → c ≤ 1048576 →
    ∃ v, Ev (fun k => laws_szPNodeS.l0 k l c (i : Int)) v ∧ (v < 0 ∨ (0 ≤ v ∧ v ≤ c ∧ ∀ s ∈ l.drop i, smallP (convP s))) := by
  intro n
  induction n with
  | zero =>
    intro i c hi h0 h1
    refine ⟨c, Ev.step (f := fun _ => some c) (fun k => ?_) (Ev.now _), .inr ⟨h0, Int.le_refl _, ?_⟩⟩
    · unfold laws_szPNodeS.l0
      rw [if_neg (by omega)]
    · rw [List.drop_of_length_le (by omega)]; intro s hs; cases hs
  | succ n ih =>
    intro i c hi h0 h1
    have hlt : i < l.length := by omega
    obtain ⟨v, hv, hr⟩ := szPn l[i] (hs _ (List.getElem_mem hlt)) c h0 h1
    have hf : ∀ k, laws_szPNodeS.l0 (k + 1) l c (i : Int) = if v < 0 then (some (-1)) else (laws_szPNodeS.l0 k l v ((i + 1 : Nat) : Int)) := by
      intro k
      conv => lhs; unfold laws_szPNodeS.l0
      rw [if_pos (by omega), if_pos (by omega), rdLP l i hlt, w1n hlt hl, hv, Option.bind_some]
    rcases hr with h | ⟨a, b, d⟩
    · refine ⟨-1, Ev.step hf ?_, .inl (by decide)⟩
      simp only [if_pos h]
      exact Ev.now _
    · obtain ⟨v2, hv2, hr2⟩ := ih (i + 1) v (by omega) a (by omega)
      refine ⟨v2, Ev.step hf ?_, ?_⟩
      · simp only [if_neg (show ¬ v < 0 by omega)]
        exact hv2
      · rcases hr2 with h | ⟨a2, b2, d2⟩
        · exact .inl h
        · refine .inr ⟨a2, by omega, fun s hs => ?_⟩
          rw [List.drop_eq_getElem_cons hlt] at hs
          rcases List.mem_cons.1 hs with e | e
          · subst e; exact d
          · exact d2 s e
theorem szPS (l : List LPn) (hl : l.length ≤ 9223372036854775807) (hs : ∀ s ∈ l, okPn s) :
    ∃ v, Ev (fun k => laws_szPNodeS.f k l 1048576) v ∧ (v < 0 ∨ (0 ≤ v ∧ v ≤ 1048576 ∧ l.length ≤ 1048576 ∧ ∀ s ∈ l, smallP (convP s))) := by
  have hw := wsub (c := 1048576) (by decide) (by decide) hl
  by_cases c0 : (1048576 : Int) - (l.length : Int) < 0
  · refine ⟨-1, Ev.congr (f := fun _ => some (-1)) (fun k => ?_) (Ev.now _), .inl (by decide)⟩
    unfold laws_szPNodeS.f
    rw [hw, if_pos c0]
  · obtain ⟨v, hv, hr⟩ := szPS_l0 l hl hs l.length 0 (1048576 - (l.length : Int)) (by omega) (by omega) (by omega)
    refine ⟨v, Ev.congr (f := fun k => laws_szPNodeS.l0 k l (1048576 - (l.length : Int)) ((0 : Nat) : Int)) (fun k => ?_) hv, ?_⟩
    · unfold laws_szPNodeS.f
      rw [hw, if_neg c0]
      rfl
    · rcases hr with h | ⟨a, b, d⟩
      · exact .inl h
      · exact .inr ⟨a, by omega, by omega, by simpa using d⟩
/-! #### copies -/
theorem toZ_l0 (l : List Int) (hl : l.length ≤ 9223372036854775807) : ∀ (n i : Nat), i + n = l.length →
    Ev (fun k => laws_toInt64S.l0 k l ((l.take i).map id ++ List.replicate n 0) (i : Int)) (l.map id) := by
  intro n
  induction n with
  | zero =>
    intro i hi
    have e : (l.take i).map id ++ List.replicate 0 (0 : Int) = l.map id := by rw [List.take_of_length_le (by omega)]; simp
    rw [e]
    refine Ev.step (f := fun _ => some (l.map id)) (fun k => ?_) (Ev.now _)
    unfold laws_toInt64S.l0
    rw [if_neg (by omega)]
  | succ n ih =>
    intro i hi
    have hlt : i < l.length := by omega
    refine Ev.step (f := fun k => laws_toInt64S.l0 k l ((l.take (i + 1)).map id ++ List.replicate n 0) ((i + 1 : Nat) : Int)) (fun k => ?_) (ih (i + 1) (by omega))
    conv => lhs; unfold laws_toInt64S.l0
    have hlen : ((l.take i).map id ++ List.replicate (n + 1) (0 : Int)).length = l.length := by simp; omega
    rw [if_pos (by omega), if_pos (by omega), hlen, if_pos (by omega), rdZ l i hlt, w1n hlt hl, Int.toNat_natCast]
    have := set_copy (id : Int → Int) l 0 i n hlt
    rw [show id l[i] = l[i] from rfl] at this
    rw [this]
theorem toZ (l : List Int) (hl : l.length ≤ 1048576) : Ev (fun k => laws_toInt64S.f k l) l := by
  have h := toZ_l0 l (by omega) l.length 0 (by omega)
  rw [show l.map id = l from List.map_id l] at h
  refine Ev.congr (fun k => ?_) h
  unfold laws_toInt64S.f
  rw [if_pos (by omega), Int.toNat_natCast, if_pos (by omega)]
  simp
theorem toP_l0 (l : List LPn) (hl : l.length ≤ 1048576) (hs : ∀ s ∈ l, smallP (convP s)) : ∀ (n i : Nat), i + n = l.length →
    Ev (fun k => laws_toPNodeS.l0 k l ((l.take i).map convP ++ List.replicate n z49) (i : Int)) (l.map convP) := by
  intro n
  induction n with
  | zero =>
    intro i hi
    have e : (l.take i).map convP ++ List.replicate 0 z49 = l.map convP := by rw [List.take_of_length_le (by omega)]; simp
    rw [e]
    refine Ev.step (f := fun _ => some (l.map convP)) (fun k => ?_) (Ev.now _)
    unfold laws_toPNodeS.l0
    rw [if_neg (by omega)]
  | succ n ih =>
    intro i hi
    have hlt : i < l.length := by omega
    have hsm := hs _ (List.getElem_mem hlt)
    have ht := toZ l[i].f2 hsm.2
    have hlen : ((l.take i).map convP ++ List.replicate (n + 1) z49).length = l.length := by simp; omega
    have hset := set_copy convP l z49 i n hlt
    refine Ev.step (f := fun k => (laws_toInt64S.f k l[i].f2).bind fun t => laws_toPNodeS.l0 k l (((l.take i).map convP ++ List.replicate (n + 1) z49).set i (⟨l[i].f0, l[i].f1, t, l[i].f3⟩ : PM)) ((i + 1 : Nat) : Int)) (fun k => ?_) (Ev.bind ht ?_)
    · conv => lhs; unfold laws_toPNodeS.l0
      rw [if_pos (by omega), if_pos (by omega), rdLP l i hlt]
      unfold laws_toPNode.f
      cases laws_toInt64S.f k l[i].f2 with
      | none => rfl
      | some t =>
        simp only [Option.bind_some]
        rw [hlen, if_pos (by omega), w1n hlt (by omega), Int.toNat_natCast]
    · rw [show (⟨l[i].f0, l[i].f1, l[i].f2, l[i].f3⟩ : PM) = convP l[i] from rfl, hset]
      exact ih (i + 1) (by omega)
theorem toPS (l : List LPn) (hl : l.length ≤ 1048576) (hs : ∀ s ∈ l, smallP (convP s)) : Ev (fun k => laws_toPNodeS.f k l) (l.map convP) := by
  refine Ev.congr (f := fun k => laws_toPNodeS.l0 k l ((l.take 0).map convP ++ List.replicate l.length z49) ((0 : Nat) : Int)) (fun k => ?_) (toP_l0 l hl hs l.length 0 (by omega))
  unfold laws_toPNodeS.f
  rw [if_pos (by omega), Int.toNat_natCast, if_pos (by omega)]
  simp
/-! #### equal to themselves -/
theorem eqZ_l0 (l : List Int) (hl : l.length ≤ 1048576) : ∀ (n i : Nat), i + n = l.length → Ev (fun k => laws_eqInt64S.l0 k l l (i : Int)) true := by
  intro n
  induction n with
  | zero =>
    intro i hi
    refine Ev.step (f := fun _ => some true) (fun k => ?_) (Ev.now _)
    conv => lhs; unfold laws_eqInt64S.l0
    rw [if_neg (by omega)]
  | succ n ih =>
    intro i hi
    have hlt : i < l.length := by omega
    refine Ev.step (fun k => ?_) (ih (i + 1) (by omega))
    conv => lhs; unfold laws_eqInt64S.l0
    rw [if_pos (by omega), if_pos (by omega), if_pos (by omega), if_pos rfl, w1n hlt (by omega)]
theorem eqZ (l : List Int) (hl : l.length ≤ 1048576) : Ev (fun k => laws_eqInt64S.f k l l) true := by
  refine Ev.congr (fun k => ?_) (eqZ_l0 l hl l.length 0 (by omega))
  unfold laws_eqInt64S.f
  rw [if_pos rfl]
  rfl
theorem eqP_l0 (l : List PM) (hl : l.length ≤ 1048576) (hs : ∀ s ∈ l, smallP s) : ∀ (n i : Nat), i + n = l.length → Ev (fun k => laws_eqPNodeS.l0 k l l (i : Int)) true := by
  intro n
  induction n with
  | zero =>
    intro i hi
    refine Ev.step (f := fun _ => some true) (fun k => ?_) (Ev.now _)
    conv => lhs; unfold laws_eqPNodeS.l0
    rw [if_neg (by omega)]
  | succ n ih =>
    intro i hi
    have hlt : i < l.length := by omega
    have ha := eqZ l[i].f2 (hs _ (List.getElem_mem hlt)).2
    refine Ev.step (f := fun k => (laws_eqInt64S.f k l[i].f2 l[i].f2).bind fun t => (if t = true then (laws_eqPNodeS.l0 k l l ((i + 1 : Nat) : Int)) else (some false))) (fun k => ?_) (Ev.bind ha ?_)
    · conv => lhs; unfold laws_eqPNodeS.l0
      rw [if_pos (by omega), if_pos (by omega), if_pos (by omega), rdPn l i hlt]
      unfold laws_eqPNode.f
      rw [if_pos rfl, if_pos rfl, w1n hlt (by omega)]
      cases laws_eqInt64S.f k l[i].f2 l[i].f2 with
      | none => rfl
      | some t => cases t <;> simp
    · simp only [if_true]
      exact ih (i + 1) (by omega)
theorem eqPS (l : List PM) (hl : l.length ≤ 1048576) (hs : ∀ s ∈ l, smallP s) : Ev (fun k => laws_eqPNodeS.f k l l) true := by
  refine Ev.congr (fun k => ?_) (eqP_l0 l hl hs l.length 0 (by omega))
  unfold laws_eqPNodeS.f
  rw [if_pos rfl]
  rfl
/-! #### marks -/
theorem ba_size_app (a b : ByteArray) : (a ++ b).size = a.size + b.size := ByteArray.size_append
theorem digit_size (x : Int) : (strOfNums [x]).size = 1 := by
  unfold strOfNums
  rfl
theorem markText_l0 : ∀ (a : Nat) (s : ByteArray), s.size + a ≤ 4611686018427387904 → ∃ r, Ev (fun k => laws_markText.l0 k (a : Int) s) r := by
  intro a
  induction a using Nat.strongRecOn with
  | _ a ih =>
  intro s hs
  by_cases c : 0 < a
  · have e1 : wrap64 (Int.tdiv (a : Int) 10) = ((a / 10 : Nat) : Int) := by
      rw [show Int.tdiv (a : Int) 10 = ((a / 10 : Nat) : Int) from rfl]
      rw [w64] <;> omega
    obtain ⟨r, hr⟩ := ih (a / 10) (by omega) (strOfNums [(wrap64 (48 + (Int.tmod (a : Int) 10))) % 256] ++ s) (by rw [ba_size_app, digit_size]; omega)
    refine ⟨r, Ev.step (fun k => ?_) hr⟩
    conv => lhs; unfold laws_markText.l0
    rw [if_pos (by omega), Option.bind_some, if_pos (by rw [digit_size]; omega), e1]
  · refine ⟨(⟨#[109]⟩ : ByteArray) ++ s, Ev.step (f := fun _ => some ((⟨#[109]⟩ : ByteArray) ++ s)) (fun k => ?_) (Ev.now _)⟩
    conv => lhs; unfold laws_markText.l0
    rw [if_neg (by omega), if_pos (by omega)]
theorem markText_ev (a : Int) (h0 : 0 ≤ a) (h1 : a ≤ 4611686018427387904) : ∃ r, Ev (fun k => laws_markText.f k a) r := by
  by_cases c : a ≤ 0
  · refine ⟨⟨#[109, 48]⟩, Ev.congr (f := fun _ => some ⟨#[109, 48]⟩) (fun k => ?_) (Ev.now _)⟩
    unfold laws_markText.f
    rw [if_pos c]
  · obtain ⟨r, hr⟩ := markText_l0 a.toNat ⟨#[]⟩ (by simp only [ByteArray.size]; simp; omega)
    refine ⟨r, Ev.congr (fun k => ?_) hr⟩
    unfold laws_markText.f
    rw [if_neg c, show ((a.toNat : Nat) : Int) = a by omega]
theorem markZ_any : ∀ (n : Nat) (l : List Int) (i : Nat) (a : Int), i + n = l.length → l.length ≤ 1048576 → 0 ≤ a → a + n ≤ 4611686018427387904 → ∃ r, Ev (fun k => laws_markInt64S.l0 k l a (i : Int)) r ∧ r.1 = a + n := by
  intro n
  induction n with
  | zero =>
    intro l i a hi hl h0 h1
    refine ⟨(a, l), Ev.step (f := fun _ => some (a, l)) (fun k => ?_) (Ev.now _), by simp⟩
    conv => lhs; unfold laws_markInt64S.l0
    rw [if_neg (by omega)]
  | succ n ih =>
    intro l i a hi hl h0 h1
    obtain ⟨r, hr, hr1⟩ := ih (l.set i a) (i + 1) (a + 1) (by rw [List.length_set]; omega) (by rw [List.length_set]; omega) (by omega) (by omega)
    refine ⟨r, Ev.step (fun k => ?_) hr, by rw [hr1]; omega⟩
    conv => lhs; unfold laws_markInt64S.l0
    rw [if_pos (by omega), if_pos (by omega), Int.toNat_natCast, w64 (by omega) (by omega), w1n (show i < l.length by omega) (by omega)]
theorem markP_go : ∀ (l : List PM) (a : Int), (∀ x ∈ l, smallP x) → 0 ≤ a → a + 4194304 * l.length ≤ 4611686018427387904 → ∃ r, Ev (fun k => laws_markPNodeS.go k l a) r ∧ 0 ≤ r ∧ r ≤ a + 4194304 * l.length
  | [], a, _, h0, _ => ⟨a, Ev.now _, h0, by simp⟩
  | x :: l, a, hs, h0, h1 => by
    simp only [List.length_cons] at h1
    have hx := (hs x (by simp)).2
    have e1 : wrap64 (a + 1) = a + 1 := by rw [w64] <;> omega
    have e2 : wrap64 (a + 1 + 1) = a + 1 + 1 := by rw [w64] <;> omega
    obtain ⟨t1, ht1⟩ := markText_ev (a + 1) (by omega) (by omega)
    obtain ⟨p, hp, hp1⟩ := markZ_any x.f2.length x.f2 0 (a + 1 + 1) (by omega) hx (by omega) (by omega)
    have e3 : wrap64 (p.1 + 1) = p.1 + 1 := by rw [w64] <;> omega
    obtain ⟨r, hr, hr0, hr1⟩ := markP_go l (p.1 + 1) (fun y hy => hs y (by simp [hy])) (by omega) (by omega)
    refine ⟨r, ?_, hr0, by simp only [List.length_cons]; omega⟩
    unfold laws_markPNodeS.go
    simp only [e1, e2]
    refine Ev.bind ht1 (Ev.bind hp ?_)
    rw [e3]
    exact hr
theorem markPS2 (l : List PM) (hl : l.length ≤ 1048576) (hs : ∀ x ∈ l, smallP x) : ∃ r, Ev (fun k => laws_markPNodeS.f k l 1) r ∧ 0 ≤ r ∧ r ≤ 4398046511105 := by
  obtain ⟨r, h1, h2, h3⟩ := markP_go l 1 hs (by omega) (by omega)
  exact ⟨r, h1, h2, by omega⟩
/-! numbers -/
def markL (n : Nat) : List Int := (List.range n).map (fun j => ((j + 1 : Nat) : Int))
theorem markL_len (n : Nat) : (markL n).length = n := by simp [markL]
theorem markL_next (n : Nat) : markL (n + 1) = markL n ++ [((n + 1 : Nat) : Int)] := by
  unfold markL
  rw [List.range_succ, List.map_append]
  rfl
theorem markZ_l0 (l : List Int) (hl : l.length ≤ 1048576) : ∀ (n i : Nat), i + n = l.length → Ev (fun k => laws_markInt64S.l0 k (markL i ++ l.drop i) ((i + 1 : Nat) : Int) (i : Int)) (((l.length + 1 : Nat) : Int), markL l.length) := by
  intro n
  induction n with
  | zero =>
    intro i hi
    rw [show i = l.length by omega, List.drop_length, List.append_nil]
    refine Ev.step (f := fun _ => some (((l.length + 1 : Nat) : Int), markL l.length)) (fun k => ?_) (Ev.now _)
    conv => lhs; unfold laws_markInt64S.l0
    rw [if_neg (by rw [markL_len]; omega)]
  | succ n ih =>
    intro i hi
    have hlt : i < l.length := by omega
    have hlen : (markL i ++ l.drop i).length = l.length := by rw [List.length_append, markL_len, List.length_drop]; omega
    have hset : (markL i ++ l.drop i).set i ((i + 1 : Nat) : Int) = markL (i + 1) ++ l.drop (i + 1) := by
      have := set_mid (markL i) l[i] ((i + 1 : Nat) : Int) (l.drop (i + 1))
      rw [markL_len, ← List.drop_eq_getElem_cons hlt] at this
      rw [this, markL_next, List.append_assoc]
      rfl
    refine Ev.step (fun k => ?_) (ih (i + 1) (by omega))
    conv => lhs; unfold laws_markInt64S.l0
    rw [if_pos (by omega), if_pos (by omega), Int.toNat_natCast, hset, w1n hlt (by omega), w1n (i := i + 1) (m := i + 2) (by omega) (by omega)]
theorem markZ (l : List Int) (hl : l.length ≤ 1048576) : Ev (fun k => laws_markInt64S.f k l 1) (((l.length + 1 : Nat) : Int), markL l.length) := by
  have := markZ_l0 l hl l.length 0 (by omega)
  exact this
theorem heldZ_l0 (m : Nat) (hm : m ≤ 1048576) : ∀ (n i : Nat), i + n = m → Ev (fun k => laws_heldInt64S.l0 k (markL m) ((i + 1 : Nat) : Int) (i : Int)) ((m + 1 : Nat) : Int) := by
  intro n
  induction n with
  | zero =>
    intro i hi
    rw [show i = m by omega]
    refine Ev.step (f := fun _ => some ((m + 1 : Nat) : Int)) (fun k => ?_) (Ev.now _)
    conv => lhs; unfold laws_heldInt64S.l0
    rw [if_neg (by rw [markL_len]; omega)]
  | succ n ih =>
    intro i hi
    have hlt : i < (markL m).length := by rw [markL_len]; omega
    refine Ev.step (fun k => ?_) (ih (i + 1) (by omega))
    conv => lhs; unfold laws_heldInt64S.l0
    rw [if_pos (by omega), if_pos (by omega), rdZ _ i hlt, if_pos (by simp [markL]), w1n hlt (by rw [markL_len]; omega), w1n (i := i + 1) (m := i + 2) (by omega) (by omega)]
theorem heldZ (m : Nat) (hm : m ≤ 1048576) : Ev (fun k => laws_heldInt64S.f k (markL m) 1) ((m + 1 : Nat) : Int) := heldZ_l0 m hm m 0 (by omega)
end Go.Proofs.Ytejkkdjfiebmfaa.Pure
