/- Words and contracts for the row RowFnExactAccepts: what the Go functions answer that it calls; printed by programs of the kit and of this session, and merged. -/
import Derived.Test.YtejkkdjfiebmfaaQe8
import Derived.ChangeArms
import Derived.ChangeSlices
import Derived.DataElems
import Derived.Lib.Hide
import Derived.Outline
namespace Go.Proofs.Ytejkkdjfiebmfaa.Pure
open Go.RowKit Go.Proofs.Ytejkkdjfiebmfaa.L Go.Proofs.YtejkkdjfiebmfaaW.PrintWords Go.Proofs.YtejkkdjfiebmfaaW.PrintLast Go.Proofs.YtejkkdjfiebmfaaW.PrintMore
open MT
set_option linter.unusedVariables false
set_option linter.unusedSimpArgs false

section
variable {p : List PM} (K : OkP p)
include K
theorem len_fst {i : Nat} (hi : i < p.length) : (fst (md p) i).length ≤ 40 := by
  have := edge_len K.tr fst (.inl rfl) i (by rw [md_len]; exact hi)
  have := K.most
  omega
theorem oft_three {i : Nat} (hi : i < p.length) : oftB (at_ p i) = decide ((at_ p i).f3 ≥ 2) := by
  have h := K.ok i hi
  unfold okN at h
  simp only [Bool.and_eq_true, decide_eq_true_eq] at h
  unfold oftB
  by_cases c : (at_ p i).f3 ≥ 2
  · rw [decide_eq_true c]
    by_cases c2 : (at_ p i).f3 = 2
    · rw [c2]; rfl
    · rw [show (at_ p i).f3 = 3 by omega]; rfl
  · rw [decide_eq_false c, beq_eq_false_iff_ne.2 (by omega), beq_eq_false_iff_ne.2 (by omega)]; rfl
end
/-- Once each, and small. -/
theorem ris_len : ∀ (n : Nat) (l : List Int), Ris l → (∀ x ∈ l, 0 ≤ x ∧ x < (n : Int)) → l.length ≤ n := by
  have key : ∀ (l : List Int) (lo hi : Int), Ris l → (∀ x ∈ l, lo ≤ x ∧ x < hi) → lo ≤ hi → (l.length : Int) ≤ hi - lo := by
    intro l
    induction l with
    | nil => intro lo hi _ _ h; simp; omega
    | cons x l ih =>
      intro lo hi hr hb h
      have hx := hb x (by simp)
      unfold Ris at hr
      rw [List.pairwise_cons] at hr
      have := ih (x + 1) hi hr.2 (fun y hy => ⟨by have := hr.1 y hy; omega, (hb y (by simp [hy])).2⟩) (by omega)
      simp only [List.length_cons]
      omega
  intro n l hr hb
  have := key l 0 n hr hb (by omega)
  omega
section
variable {p : List PM} (K : OkP p)
include K
theorem next_first {N : NetV} (HN : NetI p p.length N) : nextF N p.length (-1) = srt (ints (fst (md p) (p.length - 1))) := by
  have ho := K.one
  have hr : p.length - 1 < p.length := by omega
  have hnd := edge_nodup K.tr fst (.inl rfl) (p.length - 1) (by rw [md_len]; exact hr)
  have hrd : rdL N.fst ((p.length : Int) - 1) = ints (fst (md p) (p.length - 1)) := by
    rw [show (p.length : Int) - 1 = ((p.length - 1 : Nat) : Int) by omega, HN.fst]
    exact rd_range hr
  unfold nextF
  rw [if_pos (by decide), hrd]
  exact isort_srt (ints_nodup hnd) (fun _ => Iff.rfl)
theorem next_fol {N : NetV} (HN : NetI p p.length N) {n : Nat} (hn : n < p.length) : nextF N p.length (n : Int) = srt (ints (folS (md p) n)) := by
  unfold nextF
  rw [if_neg (by omega)]
  refine srt_congr (fun x => ?_)
  rw [HN.fol.mem n hn x, mem_ints]
  constructor
  · rintro ⟨b, e, hb⟩
    refine ⟨b, e, (mem_folS K.tr.ahead).2 ?_⟩
    obtain ⟨j, hj, hb⟩ := hb
    exact ⟨j, by rw [md_len]; exact hj, hb⟩
  · rintro ⟨b, e, hb⟩
    obtain ⟨j, hj, hb⟩ := (mem_folS K.tr.ahead).1 hb
    exact ⟨b, e, j, by rw [md_len] at hj; exact hj, hb⟩
theorem fst_in : ∀ a ∈ srt (ints (fst (md p) (p.length - 1))), 0 ≤ a ∧ a < (p.length : Int) := by
  intro x hx
  have ho := K.one
  obtain ⟨b, e, hb⟩ := mem_ints.1 (mem_srt.1 hx)
  have := edge_in K.tr fst (.inl rfl) (p.length - 1) (by rw [md_len]; omega) b hb
  omega
theorem fol_in (n : Nat) : ∀ a ∈ srt (ints (folS (md p) n)), 0 ≤ a ∧ a < (p.length : Int) := by
  intro x hx
  obtain ⟨b, e, hb⟩ := mem_ints.1 (mem_srt.1 hx)
  obtain ⟨j, hj, hb⟩ := (mem_folS K.tr.ahead).1 hb
  rw [md_len] at hj
  have := (led_le K hj hb).2
  omega
theorem srt_small {l : List Int} (h : ∀ a ∈ srt l, 0 ≤ a ∧ a < (p.length : Int)) : (srt l).length ≤ 40 := Nat.le_trans (ris_len p.length _ (up_srt _) h) K.most
end
end Go.Proofs.Ytejkkdjfiebmfaa.Pure

namespace Go.Proofs.Ytejkkdjfiebmfaa.Pure
set_option linter.unusedVariables false
set_option linter.unusedSimpArgs false
namespace MT
variable {α : Type} {N : Nat → Prop} {F L D : Nat → Nat → Prop} {R : Nat → Nat → Nat → Prop} {t : Nat → α → Prop}
/-- Each leads to the next one. -/
def Lnk (R : Nat → Nat → Prop) : List Nat → Prop
  | [] => True
  | [_] => True
  | a :: b :: l => R a b ∧ Lnk R (b :: l)
theorem Lnk.imp {R R' : Nat → Nat → Prop} (h : ∀ a b, R a b → R' a b) : ∀ {l : List Nat}, Lnk R l → Lnk R' l
  | [], _ => trivial
  | [_], _ => trivial
  | a :: b :: l, hl => ⟨h a b hl.1, Lnk.imp h hl.2⟩
theorem Lnk.app {R : Nat → Nat → Prop} : ∀ {l : List Nat} {a b : Nat} {m : List Nat}, Lnk R (l ++ [a]) → R a b → Lnk R (b :: m) → Lnk R (l ++ a :: b :: m)
  | [], a, b, m, _, h, hm => ⟨h, hm⟩
  | [x], a, b, m, hl, h, hm => ⟨hl.1, h, hm⟩
  | x :: y :: l, a, b, m, hl, h, hm => ⟨hl.1, Lnk.app (l := y :: l) hl.2 h hm⟩
/-- Row and positions side by side. -/
def Fit (t : Nat → α → Prop) : List Nat → List α → Prop
  | [], [] => True
  | c :: cs, x :: w => t c x ∧ Fit t cs w
  | _, _ => False
theorem Fit.app {t : Nat → α → Prop} : ∀ {c c' : List Nat} {w w' : List α}, Fit t c w → Fit t c' w' → Fit t (c ++ c') (w ++ w')
  | [], _, [], _, _, h => h
  | _ :: _, _, _ :: _, _, h, h' => ⟨h.1, Fit.app h.2 h'⟩
  | [], _, _ :: _, _, h, _ => h.elim
  | _ :: _, _, [], _, h, _ => h.elim
theorem Fit.cut {t : Nat → α → Prop} : ∀ {c c' : List Nat} {w : List α}, Fit t (c ++ c') w → ∃ u v, w = u ++ v ∧ Fit t c u ∧ Fit t c' v
  | [], _, w, h => ⟨[], w, rfl, trivial, h⟩
  | x :: c, c', y :: w, h => by
    obtain ⟨u, v, e, h1, h2⟩ := Fit.cut (c := c) h.2
    exact ⟨y :: u, v, by rw [e]; rfl, ⟨h.1, h1⟩, h2⟩
  | _ :: _, _, [], h => h.elim
/-- The rows that paths take: from one of F, over R, to one of L; none where N. -/
def PL (t : Nat → α → Prop) (N : Prop) (F L : Nat → Prop) (R : Nat → Nat → Prop) (w : List α) : Prop :=
  (w = [] ∧ N) ∨ ∃ c m z, F c ∧ L z ∧ (∃ cs, cs = m ++ [z] ∧ cs.head? = some c ∧ Lnk R cs ∧ Fit t cs w)
theorem last_cut : ∀ (l : List Nat) (z b : Nat) (n : List Nat), (l ++ z :: b :: n).getLast? = (b :: n).getLast?
  | [], z, b, n => by simp
  | [x], z, b, n => by simp
  | x :: y :: l, z, b, n => by
    have := last_cut (y :: l) z b n
    rw [← this]
    simp
/-- One behind the other. -/
def Cat (G : Nat → List α → Prop) : List Nat → List α → Prop
  | [], w => w = []
  | k :: ks, w => ∃ u v, w = u ++ v ∧ G k u ∧ Cat G ks v
/-- Once or more. -/
inductive Plus (G : List α → Prop) : List α → Prop
  | one {w : List α} : G w → Plus G w
  | more {u v : List α} : G u → Plus G v → Plus G (u ++ v)
theorem PL.congr {t : Nat → α → Prop} {N N' : Prop} {F F' L L' : Nat → Prop} {R R' : Nat → Nat → Prop} {w : List α} (hN : N ↔ N') (hF : ∀ a, F a ↔ F' a) (hL : ∀ a, L a ↔ L' a) (hR : ∀ a b, R a b ↔ R' a b) : PL t N F L R w ↔ PL t N' F' L' R' w := by
  obtain rfl : N = N' := propext hN
  obtain rfl : F = F' := funext fun a => propext (hF a)
  obtain rfl : L = L' := funext fun a => propext (hL a)
  obtain rfl : R = R' := funext fun a => funext fun b => propext (hR a b)
  exact Iff.rfl
section
variable {t : Nat → α → Prop} {N : Nat → Prop} {F L D : Nat → Nat → Prop} {R : Nat → Nat → Nat → Prop}
/-- What a list of kids begins with, ends with and goes on with. -/
def SF (N : Nat → Prop) (F : Nat → Nat → Prop) (ks : List Nat) (a : Nat) : Prop := ∃ us k vs, ks = us ++ k :: vs ∧ (∀ u ∈ us, N u) ∧ F k a
def SL (N : Nat → Prop) (L : Nat → Nat → Prop) (ks : List Nat) (a : Nat) : Prop := ∃ us k vs, ks = us ++ k :: vs ∧ (∀ v ∈ vs, N v) ∧ L k a
def SR (N : Nat → Prop) (F L : Nat → Nat → Prop) (R : Nat → Nat → Nat → Prop) (ks : List Nat) (a b : Nat) : Prop :=
  (∃ k ∈ ks, R k a b) ∨ ∃ us k mid k' vs, ks = us ++ k :: (mid ++ k' :: vs) ∧ (∀ u ∈ mid, N u) ∧ L k a ∧ F k' b
theorem SF.cons {k : Nat} {ks : List Nat} {a : Nat} (h : SF N F (k :: ks) a) : F k a ∨ (N k ∧ SF N F ks a) := by
  obtain ⟨us, k', vs, e, hu, ha⟩ := h
  cases us with
  | nil =>
    simp only [List.nil_append, List.cons.injEq] at e
    exact .inl (e.1 ▸ ha)
  | cons u us =>
    simp only [List.cons_append, List.cons.injEq] at e
    obtain ⟨rfl, rfl⟩ := e
    exact .inr ⟨hu _ (by simp), us, k', vs, rfl, fun x hx => hu x (by simp [hx]), ha⟩
theorem SL.cons {k : Nat} {ks : List Nat} {a : Nat} (h : SL N L (k :: ks) a) : (L k a ∧ ∀ u ∈ ks, N u) ∨ SL N L ks a := by
  obtain ⟨us, k', vs, e, hu, ha⟩ := h
  cases us with
  | nil =>
    simp only [List.nil_append, List.cons.injEq] at e
    obtain ⟨rfl, rfl⟩ := e
    exact .inl ⟨ha, hu⟩
  | cons u us =>
    simp only [List.cons_append, List.cons.injEq] at e
    obtain ⟨rfl, rfl⟩ := e
    exact .inr ⟨us, k', vs, rfl, hu, ha⟩
theorem SR.cons {k : Nat} {ks : List Nat} {a b : Nat} (h : SR N F L R (k :: ks) a b) : R k a b ∨ (L k a ∧ SF N F ks b) ∨ SR N F L R ks a b := by
  rcases h with ⟨k', hk, h⟩ | ⟨us, k1, mid, k2, vs, e, hm, ha, hb⟩
  · rcases List.mem_cons.1 hk with rfl | hk
    · exact .inl h
    · exact .inr (.inr (.inl ⟨k', hk, h⟩))
  · cases us with
    | nil =>
      simp only [List.nil_append, List.cons.injEq] at e
      obtain ⟨rfl, rfl⟩ := e
      exact .inr (.inl ⟨ha, mid, k2, vs, rfl, hm, hb⟩)
    | cons u us =>
      simp only [List.cons_append, List.cons.injEq] at e
      obtain ⟨rfl, rfl⟩ := e
      exact .inr (.inr (.inr ⟨us, k1, mid, k2, vs, rfl, hm, ha, hb⟩))
theorem SF.up {k : Nat} {ks : List Nat} {a : Nat} (hN : N k) (h : SF N F ks a) : SF N F (k :: ks) a := by
  obtain ⟨us, k', vs, e, hu, ha⟩ := h
  refine ⟨k :: us, k', vs, by rw [e]; rfl, fun u hu' => ?_, ha⟩
  rcases List.mem_cons.1 hu' with rfl | h'
  · exact hN
  · exact hu u h'
theorem SL.up {k : Nat} {ks : List Nat} {a : Nat} (h : SL N L ks a) : SL N L (k :: ks) a := by
  obtain ⟨us, k', vs, e, hu, ha⟩ := h
  exact ⟨k :: us, k', vs, by rw [e]; rfl, hu, ha⟩
theorem SR.up {k : Nat} {ks : List Nat} {a b : Nat} (h : SR N F L R ks a b) : SR N F L R (k :: ks) a b := by
  rcases h with ⟨k', hk, h⟩ | ⟨us, k1, mid, k2, vs, e, hm, ha, hb⟩
  · exact .inl ⟨k', by simp [hk], h⟩
  · exact .inr ⟨k :: us, k1, mid, k2, vs, by rw [e]; rfl, hm, ha, hb⟩
/-- The kids' positions stand apart. -/
structure Apart (N : Nat → Prop) (F L D : Nat → Nat → Prop) (R : Nat → Nat → Nat → Prop) (ks : List Nat) : Prop where
  f : ∀ k ∈ ks, ∀ a, F k a → D k a
  l : ∀ k ∈ ks, ∀ a, L k a → D k a
  r : ∀ k ∈ ks, ∀ a b, R k a b → D k a ∧ D k b
  d : ks.Pairwise (fun k k' => ∀ a, D k a → ¬ D k' a)
def SD (D : Nat → Nat → Prop) (ks : List Nat) (a : Nat) : Prop := ∃ k ∈ ks, D k a
theorem Apart.tail {k : Nat} {ks : List Nat} (h : Apart N F L D R (k :: ks)) : Apart N F L D R ks :=
  ⟨fun k' hk => h.f k' (by simp [hk]), fun k' hk => h.l k' (by simp [hk]), fun k' hk => h.r k' (by simp [hk]), (List.pairwise_cons.1 h.d).2⟩
theorem Apart.sf {ks : List Nat} (h : Apart N F L D R ks) {a : Nat} (ha : SF N F ks a) : SD D ks a := by
  obtain ⟨us, k, vs, e, _, ha⟩ := ha
  exact ⟨k, by rw [e]; simp, h.f k (by rw [e]; simp) a ha⟩
theorem Apart.sl {ks : List Nat} (h : Apart N F L D R ks) {a : Nat} (ha : SL N L ks a) : SD D ks a := by
  obtain ⟨us, k, vs, e, _, ha⟩ := ha
  exact ⟨k, by rw [e]; simp, h.l k (by rw [e]; simp) a ha⟩
theorem Apart.sr {ks : List Nat} (h : Apart N F L D R ks) {a b : Nat} (hr : SR N F L R ks a b) : SD D ks a ∧ SD D ks b := by
  rcases hr with ⟨k, hk, hr⟩ | ⟨us, k1, mid, k2, vs, e, _, ha, hb⟩
  · exact ⟨⟨k, hk, (h.r k hk a b hr).1⟩, ⟨k, hk, (h.r k hk a b hr).2⟩⟩
  · exact ⟨⟨k1, by rw [e]; simp, h.l k1 (by rw [e]; simp) a ha⟩, ⟨k2, by rw [e]; simp, h.f k2 (by rw [e]; simp) b hb⟩⟩
theorem Apart.no {k : Nat} {ks : List Nat} (h : Apart N F L D R (k :: ks)) {a : Nat} (h1 : D k a) (h2 : SD D ks a) : False := by
  obtain ⟨k', hk, h2⟩ := h2
  exact (List.pairwise_cons.1 h.d).1 k' hk a h1 h2
/-- Behind the first kid a path stays behind it. -/
theorem Apart.behind {k : Nat} {ks : List Nat} (h : Apart N F L D R (k :: ks)) : ∀ {l : List Nat} {a : Nat}, SD D ks a → Lnk (SR N F L R (k :: ks)) (a :: l) → Lnk (SR N F L R ks) (a :: l) ∧ ∀ z ∈ a :: l, SD D ks z
  | [], a, ha, _ => ⟨trivial, by simpa using ha⟩
  | b :: l, a, ha, hl => by
    have hr : SR N F L R ks a b := by
      rcases SR.cons hl.1 with h1 | ⟨h1, _⟩ | h1
      · exact (h.no (h.r k (by simp) a b h1).1 ha).elim
      · exact (h.no (h.l k (by simp) a h1) ha).elim
      · exact h1
    obtain ⟨h1, h2⟩ := Apart.behind h (h.tail.sr hr).2 hl.2
    exact ⟨⟨hr, h1⟩, fun z hz => by
      rcases List.mem_cons.1 hz with rfl | hz
      · exact ha
      · exact h2 z hz⟩
/-- A path that begins in the first kid: its part there, and what is behind. -/
theorem Apart.split {k : Nat} {ks : List Nat} (h : Apart N F L D R (k :: ks)) : ∀ {l : List Nat} {a : Nat}, D k a → Lnk (SR N F L R (k :: ks)) (a :: l) →
    (Lnk (R k) (a :: l) ∧ ∀ z ∈ a :: l, D k z) ∨ ∃ m z b n, a :: l = m ++ z :: b :: n ∧ Lnk (R k) (m ++ [z]) ∧ L k z ∧ SF N F ks b ∧ Lnk (SR N F L R ks) (b :: n) ∧ ∀ x ∈ b :: n, SD D ks x
  | [], a, ha, _ => .inl ⟨trivial, by simpa using ha⟩
  | b :: l, a, ha, hl => by
    rcases SR.cons hl.1 with h1 | ⟨h1, h2⟩ | h1
    · have hb := (h.r k (by simp) a b h1).2
      rcases Apart.split h hb hl.2 with ⟨h3, h4⟩ | ⟨m, z, b', n, e, h3, h4, h5, h6, h7⟩
      · refine .inl ⟨⟨h1, h3⟩, fun z hz => ?_⟩
        rcases List.mem_cons.1 hz with rfl | hz
        · exact ha
        · exact h4 z hz
      · refine .inr ⟨a :: m, z, b', n, by rw [e]; rfl, ?_, h4, h5, h6, h7⟩
        cases m with
        | nil =>
          simp only [List.nil_append, List.cons.injEq] at e
          exact ⟨e.1 ▸ h1, trivial⟩
        | cons y m =>
          simp only [List.cons_append, List.cons.injEq] at e
          exact ⟨e.1 ▸ h1, h3⟩
    · obtain ⟨h3, h4⟩ := Apart.behind h (h.tail.sf h2) hl.2
      exact .inr ⟨[], a, b, l, rfl, trivial, h1, h2, h3, h4⟩
    · exact (h.no ha (h.tail.sr h1).1).elim
theorem cat_paths : ∀ {ks : List Nat}, Apart N F L D R ks → ∀ w : List α, PL t (∀ u ∈ ks, N u) (SF N F ks) (SL N L ks) (SR N F L R ks) w ↔ Cat (fun k => PL t (N k) (F k) (L k) (R k)) ks w
  | [], h, w => by
    constructor
    · rintro (⟨e, _⟩ | ⟨c, m, z, ⟨us, k, vs, e, _⟩, _⟩)
      · exact e
      · simp at e
    · intro e
      exact .inl ⟨e, by simp⟩
  | k :: ks, h, w => by
    have ih := fun v => cat_paths h.tail v
    constructor
    · rintro (⟨rfl, hN⟩ | ⟨c, m, z, hc, hz, cs, rfl, hh, hl, hw⟩)
      · exact ⟨[], [], rfl, .inl ⟨rfl, hN k (by simp)⟩, (ih []).1 (.inl ⟨rfl, fun u hu => hN u (by simp [hu])⟩)⟩
      · obtain ⟨l, hcl⟩ : ∃ l, m ++ [z] = c :: l := by
          cases hm : m ++ [z] with
          | nil => simp at hm
          | cons x l =>
            rw [hm] at hh
            simp at hh
            exact ⟨l, by rw [hh]⟩
        rcases SF.cons hc with h1 | ⟨h1, h2⟩
        · rw [hcl] at hl
          rcases Apart.split h (h.f k (by simp) c h1) hl with ⟨h3, h4⟩ | ⟨m', z', b, n, e, h3, h4, h5, h6, h7⟩
          · have hzk : D k z := h4 z (by rw [← hcl]; simp)
            rcases SL.cons hz with ⟨h5, h6⟩ | h5
            · exact ⟨w, [], by simp, .inr ⟨c, m, z, h1, h5, m ++ [z], rfl, hh, by rw [hcl]; exact h3, hw⟩, (ih []).1 (.inl ⟨rfl, h6⟩)⟩
            · exact (h.no hzk (h.tail.sl h5)).elim
          · rw [hcl, e] at hw
            have hw' : Fit t ((m' ++ [z']) ++ (b :: n)) w := by simpa using hw
            obtain ⟨u, v, rfl, hu, hv⟩ := Fit.cut hw'
            have hh' : (m' ++ [z']).head? = some c := by
              have := congrArg List.head? e
              cases m' <;> simpa using this.symm
            have hz2 : ∃ m2, b :: n = m2 ++ [z] := by
              have h8 : (m ++ [z]).getLast? = some z := by simp
              rw [hcl, e, last_cut] at h8
              exact List.getLast?_eq_some_iff.1 h8
            obtain ⟨m2, hm2⟩ := hz2
            have hzd := h7 z (by rw [hm2]; simp)
            have hz' : SL N L ks z := by
              rcases SL.cons hz with ⟨h8, _⟩ | h8
              · exact (h.no (h.l k (by simp) z h8) hzd).elim
              · exact h8
            exact ⟨u, v, rfl, .inr ⟨c, m', z', h1, h4, m' ++ [z'], rfl, hh', h3, hu⟩, (ih v).1 (.inr ⟨b, m2, z, h5, hz', m2 ++ [z], rfl, by rw [← hm2]; rfl, by rw [← hm2]; exact h6, by rw [← hm2]; exact hv⟩)⟩
        · rw [hcl] at hl
          obtain ⟨h3, h4⟩ := Apart.behind h (h.tail.sf h2) hl
          have hzd := h4 z (by rw [← hcl]; simp)
          have hz' : SL N L ks z := by
            rcases SL.cons hz with ⟨h8, _⟩ | h8
            · exact (h.no (h.l k (by simp) z h8) hzd).elim
            · exact h8
          exact ⟨[], w, rfl, .inl ⟨rfl, h1⟩, (ih w).1 (.inr ⟨c, m, z, h2, hz', m ++ [z], rfl, hh, by rw [hcl]; exact h3, hw⟩)⟩
    · rintro ⟨u, v, rfl, hu, hv⟩
      have hv := (ih v).2 hv
      rcases hu with ⟨rfl, hN⟩ | ⟨c, m, z, hc, hz, cs, rfl, hh, hl, hw⟩
      · rcases hv with ⟨rfl, hM⟩ | ⟨c', m', z', hc', hz', cs', rfl, hh', hl', hw'⟩
        · refine .inl ⟨rfl, fun u hu => ?_⟩
          rcases List.mem_cons.1 hu with rfl | hu
          · exact hN
          · exact hM u hu
        · exact .inr ⟨c', m', z', SF.up hN hc', SL.up hz', _, rfl, hh', hl'.imp (fun _ _ => SR.up), hw'⟩
      · have hcF : SF N F (k :: ks) c := ⟨[], k, ks, rfl, by simp, hc⟩
        have hlR : Lnk (SR N F L R (k :: ks)) (m ++ [z]) := hl.imp (fun a b hab => .inl ⟨k, by simp, hab⟩)
        rcases hv with ⟨rfl, hM⟩ | ⟨c', m', z', hc', hz', cs', rfl, hh', hl', hw'⟩
        · exact .inr ⟨c, m, z, hcF, ⟨[], k, ks, rfl, hM, hz⟩, _, rfl, hh, hlR, by rw [List.append_nil]; exact hw⟩
        · obtain ⟨l', hcl'⟩ : ∃ l, m' ++ [z'] = c' :: l := by
            cases hm : m' ++ [z'] with
            | nil => simp at hm
            | cons x l =>
              rw [hm] at hh'
              simp at hh'
              exact ⟨l, by rw [hh']⟩
          have hlR' : Lnk (SR N F L R (k :: ks)) (c' :: l') := by
            rw [← hcl']
            exact hl'.imp (fun _ _ => SR.up)
          have hzc : SR N F L R (k :: ks) z c' := by
            obtain ⟨us, k2, vs, e, hu, hb⟩ := hc'
            exact .inr ⟨[], k, us, k2, vs, by rw [e]; rfl, hu, hz, hb⟩
          refine .inr ⟨c, m ++ z :: m', z', hcF, SL.up hz', _, rfl, ?_, ?_, ?_⟩
          · cases m with
            | nil => simpa using hh
            | cons x m => simpa using hh
          · have := Lnk.app hlR hzc hlR'
            rw [← hcl'] at this
            simpa using this
          · have := Fit.app hw hw'
            simpa using this
/-- Of several kids one. -/
theorem or_paths {ks : List Nat} (h : Apart N F L D R ks) (w : List α) : PL t (∃ u ∈ ks, N u) (fun a => ∃ k ∈ ks, F k a) (fun a => ∃ k ∈ ks, L k a) (fun a b => ∃ k ∈ ks, R k a b) w ↔ ∃ k ∈ ks, PL t (N k) (F k) (L k) (R k) w := by
  have one : ∀ k ∈ ks, ∀ k' ∈ ks, ∀ a, D k a → D k' a → k = k' := by
    have hp := h.d
    clear h
    induction ks with
    | nil => simp
    | cons x ks ih =>
      rw [List.pairwise_cons] at hp
      intro k hk k' hk' a h1 h2
      rcases List.mem_cons.1 hk with e | h3
      · rcases List.mem_cons.1 hk' with e' | h4
        · rw [e, e']
        · exact (hp.1 k' h4 a (e ▸ h1) h2).elim
      · rcases List.mem_cons.1 hk' with e' | h4
        · exact (hp.1 k h3 a (e' ▸ h2) h1).elim
        · exact ih hp.2 k h3 k' h4 a h1 h2
  have stay : ∀ k ∈ ks, ∀ {l : List Nat} {a : Nat}, D k a → Lnk (fun a b => ∃ k ∈ ks, R k a b) (a :: l) → Lnk (R k) (a :: l) ∧ ∀ z ∈ a :: l, D k z := by
    intro k hk l
    induction l with
    | nil => exact fun {a} ha _ => ⟨trivial, by simpa using ha⟩
    | cons b l ih =>
      intro a ha hl
      obtain ⟨k', hk', hr⟩ := hl.1
      obtain rfl := one k hk k' hk' a ha (h.r k' hk' a b hr).1
      obtain ⟨h1, h2⟩ := ih (h.r k hk a b hr).2 hl.2
      exact ⟨⟨hr, h1⟩, fun z hz => by
        rcases List.mem_cons.1 hz with rfl | hz
        · exact ha
        · exact h2 z hz⟩
  constructor
  · rintro (⟨rfl, k, hk, hN⟩ | ⟨c, m, z, ⟨k, hk, hc⟩, ⟨k', hk', hz⟩, cs, rfl, hh, hl, hw⟩)
    · exact ⟨k, hk, .inl ⟨rfl, hN⟩⟩
    · obtain ⟨l, hcl⟩ : ∃ l, m ++ [z] = c :: l := by
        cases hm : m ++ [z] with
        | nil => simp at hm
        | cons x l =>
          rw [hm] at hh
          simp at hh
          exact ⟨l, by rw [hh]⟩
      rw [hcl] at hl
      obtain ⟨h1, h2⟩ := stay k hk (h.f k hk c hc) hl
      obtain rfl := one k hk k' hk' z (h2 z (by rw [← hcl]; simp)) (h.l k' hk' z hz)
      exact ⟨k, hk, .inr ⟨c, m, z, hc, hz, _, rfl, hh, by rw [hcl]; exact h1, hw⟩⟩
  · rintro ⟨k, hk, ⟨rfl, hN⟩ | ⟨c, m, z, hc, hz, cs, rfl, hh, hl, hw⟩⟩
    · exact .inl ⟨rfl, k, hk, hN⟩
    · exact .inr ⟨c, m, z, ⟨k, hk, hc⟩, ⟨k, hk, hz⟩, _, rfl, hh, hl.imp (fun a b hab => ⟨k, hk, hab⟩), hw⟩
end
/-- Again and again. -/
theorem loop_paths {t : Nat → α → Prop} {N : Prop} {F L : Nat → Prop} {R : Nat → Nat → Prop} (w : List α) : PL t N F L (fun a b => R a b ∨ (L a ∧ F b)) w ↔ Plus (PL t N F L R) w := by
  have cutp : ∀ (l : List Nat) (a : Nat), Lnk (fun a b => R a b ∨ (L a ∧ F b)) (a :: l) → Lnk R (a :: l) ∨ ∃ m z b n, a :: l = m ++ z :: b :: n ∧ Lnk R (m ++ [z]) ∧ L z ∧ F b ∧ Lnk (fun a b => R a b ∨ (L a ∧ F b)) (b :: n) := by
    intro l
    induction l with
    | nil => exact fun a _ => .inl trivial
    | cons b l ih =>
      intro a hl
      rcases hl.1 with h1 | ⟨h1, h2⟩
      · rcases ih b hl.2 with h3 | ⟨m, z, b', n, e, h3, h4, h5, h6⟩
        · exact .inl ⟨h1, h3⟩
        · refine .inr ⟨a :: m, z, b', n, by rw [e]; rfl, ?_, h4, h5, h6⟩
          cases m with
          | nil =>
            simp only [List.nil_append, List.cons.injEq] at e
            exact ⟨e.1 ▸ h1, trivial⟩
          | cons y m =>
            simp only [List.cons_append, List.cons.injEq] at e
            exact ⟨e.1 ▸ h1, h3⟩
      · exact .inr ⟨[], a, b, l, rfl, trivial, h1, h2, hl.2⟩
  constructor
  · rintro (⟨rfl, hN⟩ | ⟨c, m, z, hc, hz, cs, rfl, hh, hl, hw⟩)
    · exact .one (.inl ⟨rfl, hN⟩)
    · have key : ∀ (d : Nat) (c : Nat) (l : List Nat) (z : Nat) (w : List α), l.length ≤ d → F c → L z → (c :: l).getLast? = some z → Lnk (fun a b => R a b ∨ (L a ∧ F b)) (c :: l) → Fit t (c :: l) w → Plus (PL t N F L R) w := by
        intro d
        induction d with
        | zero =>
          intro c l z w hd hc hz hlast hl hw
          cases l with
          | cons x l => simp at hd
          | nil =>
            simp at hlast
            subst hlast
            exact .one (.inr ⟨c, [], c, hc, hz, [c], rfl, rfl, trivial, hw⟩)
        | succ d ih =>
          intro c l z w hd hc hz hlast hl hw
          obtain ⟨m0, hm0⟩ := List.getLast?_eq_some_iff.1 hlast
          rcases cutp l c hl with h3 | ⟨m, y, b, n, e, h3, h4, h5, h6⟩
          · exact .one (.inr ⟨c, m0, z, hc, hz, _, rfl, by rw [← hm0]; rfl, by rw [← hm0]; exact h3, by rw [← hm0]; exact hw⟩)
          · have hw' : Fit t ((m ++ [y]) ++ (b :: n)) w := by rw [e] at hw; simpa using hw
            obtain ⟨u, v, rfl, hu, hv⟩ := Fit.cut hw'
            have hh' : (m ++ [y]).head? = some c := by
              have := congrArg List.head? e
              cases m <;> simpa using this.symm
            have hlast' : (b :: n).getLast? = some z := by
              rw [e, last_cut] at hlast
              exact hlast
            have hlen : n.length ≤ d := by
              have := congrArg List.length e
              simp at this
              omega
            exact .more (.inr ⟨c, m, y, hc, h4, _, rfl, hh', h3, hu⟩) (ih b n z v hlen h5 hz hlast' h6 hv)
      cases hm : m ++ [z] with
      | nil => simp at hm
      | cons x l =>
        have hx : x = c := by rw [hm] at hh; simpa using hh
        subst hx
        rw [hm] at hl hw
        exact key l.length x l z w (Nat.le_refl _) hc hz (by rw [← hm]; simp) hl hw
  · intro h
    induction h with
    | one h =>
      rcases h with h | ⟨c, m, z, hc, hz, cs, rfl, hh, hl, hw⟩
      · exact .inl h
      · exact .inr ⟨c, m, z, hc, hz, _, rfl, hh, hl.imp (fun _ _ => .inl), hw⟩
    | more hu _ hv =>
      rcases hu with ⟨rfl, hN⟩ | ⟨c, m, z, hc, hz, cs, rfl, hh, hl, hw⟩
      · exact hv
      · rcases hv with ⟨rfl, hN⟩ | ⟨c', m', z', hc', hz', cs', rfl, hh', hl', hw'⟩
        · exact .inr ⟨c, m, z, hc, hz, _, rfl, hh, hl.imp (fun _ _ => .inl), by rw [List.append_nil]; exact hw⟩
        · obtain ⟨l', hcl'⟩ : ∃ l, m' ++ [z'] = c' :: l := by
            cases hm : m' ++ [z'] with
            | nil => simp at hm
            | cons x l =>
              rw [hm] at hh'
              simp at hh'
              exact ⟨l, by rw [hh']⟩
          rw [hcl'] at hl'
          refine .inr ⟨c, m ++ z :: m', z', hc, hz', _, rfl, ?_, ?_, ?_⟩
          · cases m with
            | nil => simpa using hh
            | cons x m => simpa using hh
          · have := Lnk.app (hl.imp (fun _ _ => Or.inl)) (.inr ⟨hz, hc'⟩) hl'
            rw [← hcl'] at this
            simpa using this
          · have := Fit.app hw hw'
            simpa using this
end MT
namespace MT
theorem Chain.cover {lo : Nat → Nat} : ∀ {ks : List Nat} {e b : Nat}, Chain lo e ks b → ∀ j, b ≤ j → j < e → ∃ k ∈ ks, lo k ≤ j ∧ j ≤ k
  | [], e, b, h, j, h1, h2 => by have : b = e := h; omega
  | k :: ks, e, b, h, j, h1, h2 => by
    obtain ⟨m, hc, hm, hb⟩ := h
    by_cases c : j ≤ k
    · exact ⟨k, by simp, by omega, c⟩
    · obtain ⟨k', hk, h3⟩ := Chain.cover hc j (by omega) h2
      exact ⟨k', by simp [hk], h3⟩
def tk (p : Md) (c : Nat) (nm : ByteArray) : Prop := (nd p c).kind = 4 ∨ (nd p c).name = nm
def RL (p : Md) (lo : Nat → Nat) (i a b : Nat) : Prop := ∃ j, lo i ≤ j ∧ j ≤ i ∧ led p j a b
def GL (p : Md) (lo : Nat → Nat) (i : Nat) (w : List ByteArray) : Prop := PL (tk p) (nul p i = true) (fun a => a ∈ fst p i) (fun a => a ∈ lst p i) (RL p lo i) w
def nul1 (p : Md) (i : Nat) : Prop := (if (nd p i).kind = 2 then (nd p i).kids.all (nul p) else if (nd p i).kind = 3 then (nd p i).kids.any (nul p) else false) = true
def R1 (p : Md) (lo : Nat → Nat) (i a b : Nat) : Prop :=
  (∃ k ∈ (nd p i).kids, RL p lo k a b) ∨ ((nd p i).kind = 2 ∧ ∃ us k vs, (nd p i).kids = us ++ k :: vs ∧ a ∈ suf (nul p) (lst p) [] us ∧ b ∈ fst p k)
def G1 (p : Md) (lo : Nat → Nat) (i : Nat) (w : List ByteArray) : Prop := PL (tk p) (nul1 p i) (fun a => a ∈ fst p i) (fun a => a ∈ lst p i) (R1 p lo i) w
section
variable {p : Md} {lo : Nat → Nat} (T : Tree p lo)
include T
theorem Tree.inner : ∀ i, i < p.length → ∀ j, lo i ≤ j → j ≤ i → lo i ≤ lo j := by
  intro i
  induction i using Nat.strongRecOn with
  | _ i ih =>
  intro hi j h1 h2
  by_cases e : j = i
  · subst e; exact Nat.le_refl _
  · obtain ⟨k, hk, h3, h4⟩ := Chain.cover (T.chain i hi) j h1 (by omega)
    have := T.kid hi hk
    have := ih k this.2 (by omega) j h3 h4
    omega
theorem led_in {j a b : Nat} (hj : j < p.length) (h : led p j a b) : (lo j ≤ a ∧ a ≤ j) ∧ (lo j ≤ b ∧ b ≤ j) := by
  rcases h with ⟨_, us, k, vs, e, ha, hb⟩ | ⟨_, ha, hb⟩
  · have hk : k ∈ (nd p j).kids := by rw [e]; simp
    have h1 := T.kid hj hk
    have h2 := edge_in T fst (.inl rfl) k (by omega) b hb
    rcases mem_suf.1 ha with ⟨h, _⟩ | ⟨us', k', vs', e', _, ha'⟩
    · simp at h
    · have hk' : k' ∈ (nd p j).kids := by rw [e, e']; simp
      have h3 := T.kid hj hk'
      have h4 := edge_in T lst (.inr rfl) k' (by omega) a ha'
      omega
  · have h2 := edge_in T fst (.inl rfl) j hj b hb
    have h4 := edge_in T lst (.inr rfl) j hj a ha
    omega
theorem RL_in {i a b : Nat} (hi : i < p.length) (h : RL p lo i a b) : (lo i ≤ a ∧ a ≤ i) ∧ (lo i ≤ b ∧ b ≤ i) := by
  obtain ⟨j, h1, h2, h3⟩ := h
  have h4 := led_in T (j := j) (by omega) h3
  have h5 := T.inner i hi j h1 h2
  omega
theorem RL_R1 {i a b : Nat} (hi : i < p.length) : RL p lo i a b ↔ R1 p lo i a b ∨ ((nd p i).oft = true ∧ a ∈ lst p i ∧ b ∈ fst p i) := by
  constructor
  · rintro ⟨j, h1, h2, h3⟩
    by_cases e : j = i
    · subst e
      rcases h3 with h3 | h3
      · exact .inl (.inr h3)
      · exact .inr h3
    · obtain ⟨k, hk, h4, h5⟩ := Chain.cover (T.chain i hi) j h1 (by omega)
      exact .inl (.inl ⟨k, hk, j, h4, h5, h3⟩)
  · rintro ((⟨k, hk, j, h1, h2, h3⟩ | h) | h)
    · have := T.kid hi hk
      exact ⟨j, by omega, by omega, h3⟩
    · exact ⟨i, T.le i hi, Nat.le_refl _, .inl h⟩
    · exact ⟨i, T.le i hi, Nat.le_refl _, .inr h⟩
theorem kids_apart {i : Nat} (hi : i < p.length) : Apart (fun k => nul p k = true) (fun k a => a ∈ fst p k) (fun k a => a ∈ lst p k) (fun k a => lo k ≤ a ∧ a ≤ k) (RL p lo) (nd p i).kids := by
  refine ⟨fun k hk a ha => ?_, fun k hk a ha => ?_, fun k hk a b h => ?_, ?_⟩
  · have := edge_in T fst (.inl rfl) k (by have := T.kid hi hk; omega) a ha
    exact ⟨this.1, this.2.1⟩
  · have := edge_in T lst (.inr rfl) k (by have := T.kid hi hk; omega) a ha
    exact ⟨this.1, this.2.1⟩
  · exact RL_in T (by have := T.kid hi hk; omega) h
  · exact (T.apart hi).imp (fun h a h1 h2 => by omega)
/-- A node takes what it takes once, nothing where it may be left out, and more where it may come again. -/
theorem GL_eq {i : Nat} (hi : i < p.length) (w : List ByteArray) : GL p lo i w ↔ ((nd p i).opt = true ∧ w = []) ∨ (if (nd p i).oft = true then Plus (G1 p lo i) w else G1 p lo i w) := by
  have hN : nul p i = true ↔ nul1 p i ∨ (nd p i).opt = true := by
    rw [nul_eq T.ahead hi, Bool.or_eq_true]
    exact Iff.rfl
  have split : ∀ (R : Nat → Nat → Prop), PL (tk p) (nul1 p i ∨ (nd p i).opt = true) (fun a => a ∈ fst p i) (fun a => a ∈ lst p i) R w ↔ ((nd p i).opt = true ∧ w = []) ∨ PL (tk p) (nul1 p i) (fun a => a ∈ fst p i) (fun a => a ∈ lst p i) R w := by
    intro R
    constructor
    · rintro (⟨rfl, h | h⟩ | h)
      · exact .inr (.inl ⟨rfl, h⟩)
      · exact .inl ⟨h, rfl⟩
      · exact .inr (.inr h)
    · rintro (⟨h, rfl⟩ | ⟨rfl, h⟩ | h)
      · exact .inl ⟨rfl, .inr h⟩
      · exact .inl ⟨rfl, .inl h⟩
      · exact .inr h
  have h1 : GL p lo i w ↔ PL (tk p) (nul1 p i ∨ (nd p i).opt = true) (fun a => a ∈ fst p i) (fun a => a ∈ lst p i) (fun a b => R1 p lo i a b ∨ ((nd p i).oft = true ∧ a ∈ lst p i ∧ b ∈ fst p i)) w :=
    PL.congr hN (fun _ => Iff.rfl) (fun _ => Iff.rfl) (fun a b => RL_R1 T hi)
  rw [h1, split]
  refine or_congr Iff.rfl ?_
  split
  · rename_i c
    have : PL (tk p) (nul1 p i) (fun a => a ∈ fst p i) (fun a => a ∈ lst p i) (fun a b => R1 p lo i a b ∨ ((nd p i).oft = true ∧ a ∈ lst p i ∧ b ∈ fst p i)) w ↔ PL (tk p) (nul1 p i) (fun a => a ∈ fst p i) (fun a => a ∈ lst p i) (fun a b => R1 p lo i a b ∨ (a ∈ lst p i ∧ b ∈ fst p i)) w :=
      PL.congr Iff.rfl (fun _ => Iff.rfl) (fun _ => Iff.rfl) (fun a b => or_congr Iff.rfl ⟨fun h => h.2, fun h => ⟨c, h⟩⟩)
    rw [this]
    exact loop_paths w
  · rename_i c
    exact PL.congr Iff.rfl (fun _ => Iff.rfl) (fun _ => Iff.rfl) (fun a b => ⟨fun h => h.elim id (fun h => absurd h.1 c), .inl⟩)
theorem G1_pos {i : Nat} (hi : i < p.length) (hp : (nd p i).pos = true) (w : List ByteArray) : G1 p lo i w ↔ ∃ nm, w = [nm] ∧ tk p i nm := by
  have hk : (nd p i).kind ≠ 2 ∧ (nd p i).kind ≠ 3 := by
    unfold Nd.pos at hp
    simp only [Bool.or_eq_true, beq_iff_eq] at hp
    omega
  have hkids : (nd p i).kids = [] := by
    rcases T.kinds i hi with ⟨_, h⟩ | h | h
    · exact h
    · exact absurd h hk.1
    · exact absurd h.1 hk.2
  have hf : fst p i = [i] := by rw [fst_eq T.ahead hi, if_pos hp]
  have hl : lst p i = [i] := by rw [lst_eq T.ahead hi, if_pos hp]
  have hr : ∀ a b, ¬ R1 p lo i a b := by
    rintro a b (⟨k, h, _⟩ | ⟨h, _⟩)
    · rw [hkids] at h; simp at h
    · exact hk.1 h
  have hn : ¬ nul1 p i := by
    unfold nul1
    rw [if_neg hk.1, if_neg hk.2]
    simp
  constructor
  · rintro (⟨_, h⟩ | ⟨c, m, z, hc, hz, cs, rfl, hh, hlk, hw⟩)
    · exact absurd h hn
    · rw [hf, List.mem_singleton] at hc
      subst hc
      cases m with
      | nil =>
        simp at hh
        subst hh
        cases w with
        | nil => exact hw.elim
        | cons x w =>
          cases w with
          | nil => exact ⟨x, rfl, hw.1⟩
          | cons y w => exact hw.2.elim
      | cons x m =>
        cases m with
        | nil => exact absurd hlk.1 (hr _ _)
        | cons y m => exact absurd hlk.1 (hr _ _)
  · rintro ⟨nm, rfl, h⟩
    exact .inr ⟨i, [], i, by rw [hf]; simp, by rw [hl]; simp, [i], rfl, rfl, trivial, h, trivial⟩
theorem G1_or {i : Nat} (hi : i < p.length) (hk : (nd p i).kind = 3) (w : List ByteArray) : G1 p lo i w ↔ ∃ k ∈ (nd p i).kids, GL p lo k w := by
  have hp : ¬ (nd p i).pos = true := by unfold Nd.pos; simp [hk]
  refine Iff.trans ?_ (or_paths (kids_apart T hi) w)
  refine PL.congr ?_ (fun a => ?_) (fun a => ?_) (fun a b => ?_)
  · unfold nul1
    rw [if_neg (by omega), if_pos hk, List.any_eq_true]
  · rw [fst_eq T.ahead hi, if_neg hp, if_pos hk, List.mem_flatMap]
  · rw [lst_eq T.ahead hi, if_neg hp, if_pos hk, List.mem_flatMap]
  · unfold R1
    constructor
    · rintro (h | ⟨h, _⟩)
      · exact h
      · omega
    · exact .inl
theorem G1_seq {i : Nat} (hi : i < p.length) (hk : (nd p i).kind = 2) (w : List ByteArray) : G1 p lo i w ↔ Cat (GL p lo) (nd p i).kids w := by
  have hp : ¬ (nd p i).pos = true := by unfold Nd.pos; simp [hk]
  refine Iff.trans ?_ (cat_paths (kids_apart T hi) w)
  refine PL.congr ?_ (fun a => ?_) (fun a => ?_) (fun a b => ?_)
  · unfold nul1
    rw [if_pos hk, List.all_eq_true]
  · rw [fst_eq T.ahead hi, if_neg hp, if_neg (by omega), mem_pre]
    exact Iff.rfl
  · rw [lst_eq T.ahead hi, if_neg hp, if_neg (by omega), mem_suf]
    constructor
    · rintro (⟨h, _⟩ | h)
      · simp at h
      · exact h
    · exact .inr
  · unfold R1 SR
    constructor
    · rintro (h | ⟨_, us, k, vs, e, ha, hb⟩)
      · exact .inl h
      · rcases mem_suf.1 ha with ⟨h, _⟩ | ⟨us', k', vs', e', hv, ha'⟩
        · simp at h
        · exact .inr ⟨us', k', vs', k, vs, by rw [e, e']; simp, hv, ha', hb⟩
    · rintro (h | ⟨us, k, mid, k', vs, e, hm, ha, hb⟩)
      · exact .inl h
      · exact .inr ⟨hk, us ++ k :: mid, k', vs, by rw [e]; simp, mem_suf.2 (.inr ⟨us, k, mid, rfl, hm, ha⟩), hb⟩
end
end MT
end Go.Proofs.Ytejkkdjfiebmfaa.Pure

namespace Go.Proofs.Ytejkkdjfiebmfaa.Pure
open Go.RowKit Go.Proofs.Ytejkkdjfiebmfaa.L Go.Proofs.YtejkkdjfiebmfaaW.PrintWords Go.Proofs.YtejkkdjfiebmfaaW.PrintLast Go.Proofs.YtejkkdjfiebmfaaW.PrintMore
open MT
set_option linter.unusedVariables false
set_option linter.unusedSimpArgs false

theorem lnk_snoc {R : Nat → Nat → Prop} : ∀ {l : List Nat} {a b : Nat}, Lnk R (l ++ [a, b]) ↔ Lnk R (l ++ [a]) ∧ R a b
  | [], a, b => by simp [Lnk]
  | [x], a, b => by simp [Lnk, and_assoc]
  | x :: y :: l, a, b => by
    have := lnk_snoc (R := R) (l := y :: l) (a := a) (b := b)
    show (R x y ∧ Lnk R (y :: l ++ [a, b])) ↔ (R x y ∧ Lnk R (y :: l ++ [a])) ∧ R a b
    rw [this, and_assoc]
theorem fit_snoc {t : Nat → ByteArray → Prop} : ∀ {c : List Nat} {z : Nat} {w : List ByteArray} {x : ByteArray}, Fit t (c ++ [z]) (w ++ [x]) ↔ Fit t c w ∧ t z x
  | [], z, [], x => by simp [Fit]
  | [], z, y :: w, x => by
    constructor
    · rintro ⟨_, h⟩
      cases w <;> exact h.elim
    · rintro ⟨h, _⟩; exact h.elim
  | d :: c, z, [], x => by
    constructor
    · rintro ⟨_, h⟩
      cases c <;> exact h.elim
    · rintro ⟨h, _⟩; exact h.elim
  | d :: c, z, y :: w, x => by
    show (t d y ∧ Fit t (c ++ [z]) (w ++ [x])) ↔ (t d y ∧ Fit t c w) ∧ t z x
    rw [fit_snoc, and_assoc]
theorem fit_nil {t : Nat → ByteArray → Prop} {c : List Nat} : Fit t c [] ↔ c = [] := by
  cases c with
  | nil => simp [Fit]
  | cons x c => simp [Fit]
/-- A path that begins where the model does leads to z over w. -/
def Rch (q : Md) (w : List ByteArray) (z : Nat) : Prop := ∃ m c, (m ++ [z]).head? = some c ∧ c ∈ fst q (q.length - 1) ∧ Lnk (fol q) (m ++ [z]) ∧ Fit (tk q) (m ++ [z]) w
theorem rch_nil {q : Md} {z : Nat} : ¬ Rch q [] z := by
  rintro ⟨m, c, _, _, _, h⟩
  rw [fit_nil] at h
  cases m <;> cases h
theorem rch_snoc {q : Md} {w : List ByteArray} {nm : ByteArray} {z : Nat} : Rch q (w ++ [nm]) z ↔ tk q z nm ∧ ((w = [] ∧ z ∈ fst q (q.length - 1)) ∨ ∃ y, Rch q w y ∧ fol q y z) := by
  constructor
  · rintro ⟨m, c, h1, h2, h3, h4⟩
    obtain ⟨h5, h6⟩ := fit_snoc.1 h4
    refine ⟨h6, ?_⟩
    rcases List.eq_nil_or_concat m with rfl | ⟨m', y, rfl⟩
    · left
      refine ⟨?_, ?_⟩
      · cases w with
        | nil => rfl
        | cons x w => exact h5.elim
      · have : z = c := by simpa using h1
        rw [this]; exact h2
    · right
      rw [List.concat_eq_append] at h1 h3 h5
      rw [List.append_assoc] at h3
      obtain ⟨h7, h8⟩ := lnk_snoc.1 h3
      refine ⟨y, ⟨m', c, ?_, h2, h7, h5⟩, h8⟩
      rw [← h1]
      cases m' <;> rfl
  · rintro ⟨h1, ⟨rfl, h2⟩ | ⟨y, ⟨m, c, h2, h3, h4, h5⟩, h6⟩⟩
    · exact ⟨[], z, rfl, h2, trivial, ⟨h1, trivial⟩⟩
    · refine ⟨m ++ [y], c, ?_, h3, ?_, fit_snoc.2 ⟨h5, h1⟩⟩
      · rw [← h2]
        cases m <;> rfl
      · rw [List.append_assoc]
        exact lnk_snoc.2 ⟨h4, h6⟩
theorem mem_addK {p : List PM} {nm : ByteArray} {x : Int} : ∀ {row out : List Int}, x ∈ row.foldl (addK p nm) out ↔ x ∈ out ∨ (x ∈ row ∧ takesB p x nm = true)
  | [], out => by simp
  | k :: row, out => by
    rw [List.foldl_cons, mem_addK, List.mem_cons]
    unfold addK
    by_cases c : (takesB p k nm && !decide (k ∈ out)) = true
    · rw [if_pos c, List.mem_append, List.mem_singleton]
      simp only [Bool.and_eq_true, Bool.not_eq_true', decide_eq_false_iff_not] at c
      constructor
      · rintro ((h | rfl) | h)
        · exact .inl h
        · exact .inr ⟨.inl rfl, c.1⟩
        · exact .inr ⟨.inr h.1, h.2⟩
      · rintro (h | ⟨rfl | h, h2⟩)
        · exact .inl (.inl h)
        · exact .inl (.inr rfl)
        · exact .inr ⟨h, h2⟩
    · rw [if_neg c]
      simp only [Bool.and_eq_true, Bool.not_eq_true', decide_eq_false_iff_not, not_and, Decidable.not_not] at c
      constructor
      · rintro (h | h)
        · exact .inl h
        · exact .inr ⟨.inr h.1, h.2⟩
      · rintro (h | ⟨rfl | h, h2⟩)
        · exact .inl h
        · exact .inl (c h2)
        · exact .inr ⟨h, h2⟩
theorem nd_addK {p : List PM} {nm : ByteArray} : ∀ {row out : List Int}, out.Nodup → (row.foldl (addK p nm) out).Nodup
  | [], out, h => h
  | k :: row, out, h => by
    rw [List.foldl_cons]
    refine nd_addK ?_
    unfold addK
    by_cases c : (takesB p k nm && !decide (k ∈ out)) = true
    · rw [if_pos c]
      simp only [Bool.and_eq_true, Bool.not_eq_true', decide_eq_false_iff_not] at c
      refine List.nodup_append.2 ⟨h, by simp, ?_⟩
      intro a ha b hb e
      have : b = k := by simpa using hb
      subst this
      subst e
      exact c.2 ha
    · rw [if_neg c]; exact h
theorem mem_rows {p : List PM} {N : NetV} {n : Nat} {nm : ByteArray} {x : Int} : ∀ {at_ out : List Int}, x ∈ at_.foldl (stepRow p N n nm) out ↔ x ∈ out ∨ ∃ q ∈ at_, x ∈ nextF N n q ∧ takesB p x nm = true
  | [], out => by simp
  | k :: at_, out => by
    rw [List.foldl_cons, mem_rows]
    unfold stepRow
    rw [mem_addK]
    constructor
    · rintro ((h | h) | ⟨q, hq, h⟩)
      · exact .inl h
      · exact .inr ⟨k, by simp, h⟩
      · exact .inr ⟨q, by simp [hq], h⟩
    · rintro (h | ⟨q, hq, h⟩)
      · exact .inl (.inl h)
      · rcases List.mem_cons.1 hq with rfl | hq
        · exact .inl (.inr h)
        · exact .inr ⟨q, hq, h⟩
theorem nd_rows {p : List PM} {N : NetV} {n : Nat} {nm : ByteArray} : ∀ {at_ out : List Int}, out.Nodup → (at_.foldl (stepRow p N n nm) out).Nodup
  | [], out, h => h
  | k :: at_, out, h => by
    rw [List.foldl_cons]
    exact nd_rows (nd_addK h)
/-- Where one is behind w. -/
structure AtI (p : List PM) (w : List ByteArray) (at_ : List Int) : Prop where
  mem : ∀ x, x ∈ at_ ↔ (w = [] ∧ x = -1) ∨ ∃ z : Nat, x = (z : Int) ∧ Rch (md p) w z
  few : at_.length ≤ 41
section
variable {p : List PM} (K : OkP p) {N : NetV} (HN : NetI p p.length N)
include K HN
omit K HN in
theorem takes_tk {z : Nat} (hz : z < p.length) (nm : ByteArray) : takesB p (z : Int) nm = true ↔ tk (md p) z nm := by
  have e : rd_T49 p (z : Int) = at_ p z := rfl
  unfold takesB tk
  rw [nd_md hz, e, Bool.or_eq_true, beq_iff_eq, beq_iff_eq]
  show (at_ p z).f0 = 4 ∨ (at_ p z).f1.toList = nm.toList ↔ (at_ p z).f0 = 4 ∨ (at_ p z).f1 = nm
  constructor
  · rintro (h | h)
    · exact .inl h
    · right
      rw [Lib.toList_data, Lib.toList_data] at h
      exact ba_ext h
  · rintro (h | h)
    · exact .inl h
    · exact .inr (by rw [h])
omit HN in
theorem rch_lt {w : List ByteArray} {z : Nat} (h : Rch (md p) w z) : z < p.length := by
  obtain ⟨m, c, h1, h2, h3, h4⟩ := h
  have ho := K.one
  rcases List.eq_nil_or_concat m with rfl | ⟨m', y, rfl⟩
  · have : z = c := by simpa using h1
    rw [this]
    rw [md_len] at h2
    have := edge_in K.tr fst (.inl rfl) (p.length - 1) (by rw [md_len]; omega) c h2
    omega
  · rw [List.concat_eq_append, List.append_assoc] at h3
    obtain ⟨j, hj, hl⟩ := (lnk_snoc.1 h3).2
    rw [md_len] at hj
    have := (led_le K hj hl).2
    omega
theorem next_mem {w : List ByteArray} {at_ : List Int} (H : AtI p w at_) {q : Int} (hq : q ∈ at_) : q < (N.fol.length : Int) ∧ inB p.length (nextF N p.length q) ∧ (nextF N p.length q).length ≤ 40 := by
  have ho := K.one
  rcases (H.mem q).1 hq with ⟨_, rfl⟩ | ⟨z, rfl, hz⟩
  · rw [next_first K HN, HN.fol.len]
    exact ⟨by omega, fst_in K, srt_small K (fst_in K)⟩
  · have hl := rch_lt K hz
    rw [next_fol K HN hl, HN.fol.len]
    exact ⟨by omega, fol_in K z, srt_small K (fol_in K z)⟩
omit K HN in
theorem sum_few : ∀ {l : List Int}, (∀ q ∈ l, (nextF N p.length q).length ≤ 40) → sumN N p.length l ≤ 40 * l.length
  | [], _ => Nat.le_refl _
  | q :: l, h => by
    have h1 := h q (by simp)
    have h2 := sum_few (l := l) (fun y hy => h y (by simp [hy]))
    show (nextF N p.length q).length + sumN N p.length l ≤ 40 * (l.length + 1)
    omega
theorem at_step {w : List ByteArray} {at_ : List Int} (H : AtI p w at_) (nm : ByteArray) : stepOk N p.length at_ ∧ AtI p (w ++ [nm]) (stepF p N p.length nm at_) := by
  have hm := K.most
  have hs := sum_few (l := at_) (fun q hq => (next_mem K HN H hq).2.2)
  have hmem : ∀ x, x ∈ stepF p N p.length nm at_ ↔ ∃ z : Nat, x = (z : Int) ∧ Rch (md p) (w ++ [nm]) z := by
    intro x
    unfold stepF
    rw [mem_isort, mem_rows]
    constructor
    · rintro (h | ⟨q, hq, h1, h2⟩)
      · simp at h
      · have hb := ((next_mem K HN H hq).2.1).at_ x h1
        obtain ⟨z, rfl⟩ : ∃ z : Nat, x = (z : Int) := ⟨x.toNat, by omega⟩
        refine ⟨z, rfl, rch_snoc.2 ⟨(takes_tk (by omega) nm).1 h2, ?_⟩⟩
        rcases (H.mem q).1 hq with ⟨hw, rfl⟩ | ⟨y, rfl, hy⟩
        · left
          rw [next_first K HN] at h1
          obtain ⟨b, e, hb⟩ := mem_ints.1 (mem_srt.1 h1)
          refine ⟨hw, ?_⟩
          rw [md_len, show z = b by omega]
          exact hb
        · right
          rw [next_fol K HN (rch_lt K hy)] at h1
          obtain ⟨b, e, hb⟩ := mem_ints.1 (mem_srt.1 h1)
          refine ⟨y, hy, ?_⟩
          rw [show z = b by omega]
          exact (mem_folS K.tr.ahead).1 hb
    · rintro ⟨z, rfl, hz⟩
      right
      have hzl := rch_lt K hz
      obtain ⟨h1, ⟨hw, h2⟩ | ⟨y, hy, h2⟩⟩ := rch_snoc.1 hz
      · refine ⟨-1, (H.mem (-1)).2 (.inl ⟨hw, rfl⟩), ?_, (takes_tk hzl nm).2 h1⟩
        rw [next_first K HN]
        rw [md_len] at h2
        exact mem_srt.2 (mem_ints.2 ⟨z, rfl, h2⟩)
      · refine ⟨(y : Int), (H.mem _).2 (.inr ⟨y, rfl, hy⟩), ?_, (takes_tk hzl nm).2 h1⟩
        rw [next_fol K HN (rch_lt K hy)]
        exact mem_srt.2 (mem_ints.2 ⟨z, rfl, (mem_folS K.tr.ahead).2 h2⟩)
  refine ⟨⟨fun q hq => ⟨(next_mem K HN H hq).1, (next_mem K HN H hq).2.1⟩, by have := H.few; unfold LIMK; omega⟩, ⟨fun x => ?_, ?_⟩⟩
  · rw [hmem x]
    constructor
    · exact .inr
    · rintro (⟨h, _⟩ | h)
      · cases w <;> cases h
      · exact h
  · have hnd : (at_.foldl (stepRow p N p.length nm) []).Nodup := nd_rows List.nodup_nil
    unfold stepF
    rw [isort_length]
    have e := isort_srt hnd (l := at_.foldl (stepRow p N p.length nm) []) (fun _ => Iff.rfl)
    have hb : ∀ a ∈ srt (at_.foldl (stepRow p N p.length nm) []), 0 ≤ a ∧ a < (p.length : Int) := by
      intro a ha
      rw [← e] at ha
      obtain ⟨z, rfl, hz⟩ := (hmem a).1 ha
      have := rch_lt K hz
      omega
    have hl := srt_small K hb
    rw [← e, isort_length] at hl
    omega
theorem run_all : ∀ (names w : List ByteArray) (at_ : List Int), AtI p w at_ → ∃ fin, runO p N p.length names at_ = some fin ∧ AtI p (w ++ names) fin
  | [], w, at_, H => ⟨at_, rfl, by rw [List.append_nil]; exact H⟩
  | nm :: names, w, at_, H => by
    obtain ⟨h1, h2⟩ := at_step K HN H nm
    obtain ⟨fin, h3, h4⟩ := run_all names (w ++ [nm]) _ h2
    refine ⟨fin, ?_, by rw [List.append_assoc] at h4; exact h4⟩
    unfold runO
    rw [if_pos h1]
    exact h3
theorem may_path {w : List ByteArray} {fin : List Int} (H : AtI p w fin) : mayF N p.length fin = true ↔ GL (md p) (loT p) (p.length - 1) w := by
  have ho := K.one
  have hr : p.length - 1 < p.length := by omega
  have hnul : rdOf false N.nul ((p.length : Int) - 1) = nul (md p) (p.length - 1) := by
    rw [show (p.length : Int) - 1 = ((p.length - 1 : Nat) : Int) by omega, HN.nul]
    exact rd_range hr
  have hlst : rdL N.lst ((p.length : Int) - 1) = ints (lst (md p) (p.length - 1)) := by
    rw [show (p.length : Int) - 1 = ((p.length - 1 : Nat) : Int) by omega, HN.lst]
    exact rd_range hr
  have hlo : loT p (p.length - 1) = 0 := by unfold loT; rw [K.root]; rfl
  have hRL : ∀ a b, RL (md p) (loT p) (p.length - 1) a b ↔ fol (md p) a b := by
    intro a b
    unfold RL fol
    rw [hlo, md_len]
    constructor
    · rintro ⟨j, _, h1, h2⟩; exact ⟨j, by omega, h2⟩
    · rintro ⟨j, h1, h2⟩; exact ⟨j, Nat.zero_le _, by omega, h2⟩
  have hGL : GL (md p) (loT p) (p.length - 1) w ↔ (w = [] ∧ nul (md p) (p.length - 1) = true) ∨ ∃ z, Rch (md p) w z ∧ z ∈ lst (md p) (p.length - 1) := by
    unfold GL
    rw [PL.congr (N' := nul (md p) (p.length - 1) = true) (F' := fun a => a ∈ fst (md p) (p.length - 1)) (L' := fun a => a ∈ lst (md p) (p.length - 1)) (R' := fol (md p)) Iff.rfl (fun _ => Iff.rfl) (fun _ => Iff.rfl) hRL]
    unfold PL Rch
    rw [md_len]
    constructor
    · rintro (h | ⟨c, m, z, h1, h2, cs, rfl, h3, h4, h5⟩)
      · exact .inl h
      · exact .inr ⟨z, ⟨m, c, h3, h1, h4, h5⟩, h2⟩
    · rintro (h | ⟨z, ⟨m, c, h3, h1, h4, h5⟩, h2⟩)
      · exact .inl h
      · exact .inr ⟨c, m, z, h1, h2, _, rfl, h3, h4, h5⟩
  rw [hGL]
  unfold mayF
  rw [List.any_eq_true]
  constructor
  · rintro ⟨q, hq, h⟩
    unfold endB at h
    rcases (H.mem q).1 hq with ⟨hw, rfl⟩ | ⟨z, rfl, hz⟩
    · rw [if_pos (by decide), hnul] at h
      exact .inl ⟨hw, h⟩
    · rw [if_neg (by omega), hlst] at h
      exact .inr ⟨z, hz, nat_ints.1 (of_decide_eq_true h)⟩
  · rintro (⟨hw, h⟩ | ⟨z, hz, h⟩)
    · refine ⟨-1, (H.mem _).2 (.inl ⟨hw, rfl⟩), ?_⟩
      unfold endB
      rw [if_pos (by decide), hnul]
      exact h
    · refine ⟨(z : Int), (H.mem _).2 (.inr ⟨z, rfl, hz⟩), ?_⟩
      unfold endB
      rw [if_neg (by omega), hlst]
      exact decide_eq_true (nat_ints.2 h)
end
open Classical in
/-- What both Accepts' answer. -/
noncomputable def accV (p : List PM) (w : List ByteArray) : Bool := okV p && (decide (w.length ≤ 200) && decide (GL (md p) (loT p) (p.length - 1) w))
open Classical in
theorem impl_accepts (p : List PM) (hs : smallM p) (w : List ByteArray) : Ev (fun k => impl_Accepts.f k p w) (accV p w) := by
  have h2 := impl_ok p hs
  unfold accV
  cases h : okV p with
  | false =>
    rw [h] at h2
    rw [Bool.false_and]
    exact Ev.bind h2 (Ev.now _)
  | true =>
    rw [h] at h2
    rw [Bool.true_and]
    have K := okP h
    have ho := K.one
    obtain ⟨N, hN, HN⟩ := net_tells h
    refine Ev.bind h2 ?_
    simp only [if_true]
    by_cases hl : w.length ≤ 200
    · rw [if_pos hl, decide_eq_true hl, Bool.true_and, hN]
      simp only [Option.bind_some]
      rw [if_pos ⟨by omega, by rw [HN.fst]; simp, fun l hl => by
        rw [HN.fst] at hl
        obtain ⟨j, hj, rfl⟩ := List.mem_map.1 hl
        have := len_fst K (List.mem_range.1 hj)
        rw [ints_len]
        unfold LIMK
        omega, by rw [HN.nul]; simp, by rw [HN.lst]; simp⟩]
      obtain ⟨fin, h3, h4⟩ := run_all K HN w [] [-1] ⟨fun x => by
        rw [List.mem_singleton]
        constructor
        · intro h; exact .inl ⟨rfl, h⟩
        · rintro (⟨_, h⟩ | ⟨z, _, h⟩)
          · exact h
          · exact absurd h rch_nil, by simp⟩
      rw [h3]
      have h5 := may_path K HN h4
      rw [List.nil_append] at h5
      have : mayF N p.length fin = decide (GL (md p) (loT p) (p.length - 1) w) := Bool.eq_iff_iff.2 (by rw [h5, decide_eq_true_eq])
      show Ev (fun _ => some (mayF N p.length fin)) _
      rw [this]
      exact Ev.now _
    · rw [if_neg hl, decide_eq_false hl, Bool.false_and]
      exact Ev.now _
/-- The names from place a to place j. -/
def seg (nm : List ByteArray) (a j : Nat) : List ByteArray := (nm.take j).drop a
theorem seg_len {nm : List ByteArray} {a j : Nat} (h : a ≤ j) (hj : j ≤ nm.length) : (seg nm a j).length = j - a := by
  unfold seg
  rw [List.length_drop, List.length_take]
  omega
theorem seg_self (nm : List ByteArray) (a : Nat) : seg nm a a = [] := by
  unfold seg
  exact List.drop_of_length_le (by rw [List.length_take]; omega)
theorem seg_nil {nm : List ByteArray} {a j : Nat} (h : a ≤ j) (hj : j ≤ nm.length) (e : seg nm a j = []) : a = j := by
  have := seg_len h hj
  rw [e] at this
  simp at this
  omega
theorem seg_app {nm : List ByteArray} {a b j : Nat} (h1 : a ≤ b) (h2 : b ≤ j) (hj : j ≤ nm.length) : seg nm a j = seg nm a b ++ seg nm b j := by
  unfold seg
  have e : nm.take j = nm.take b ++ (nm.take j).drop b := by
    conv => lhs; rw [← List.take_append_drop b (nm.take j)]
    rw [List.take_take, Nat.min_eq_left h2]
  conv => lhs; rw [e]
  rw [List.drop_append_of_le_length (by rw [List.length_take]; omega)]
theorem seg_split {nm : List ByteArray} {a j : Nat} {u v : List ByteArray} (h : a ≤ j) (hj : j ≤ nm.length) (e : seg nm a j = u ++ v) : ∃ b, a ≤ b ∧ b ≤ j ∧ u = seg nm a b ∧ v = seg nm b j := by
  have hl := seg_len h hj
  rw [e, List.length_append] at hl
  refine ⟨a + u.length, by omega, by omega, ?_⟩
  have h1 := seg_app (nm := nm) (a := a) (b := a + u.length) (j := j) (by omega) (by omega) hj
  rw [e] at h1
  have h2 := List.append_inj h1 (by rw [seg_len (by omega) (by omega)]; omega)
  exact h2
theorem seg_one {nm : List ByteArray} {a : Nat} (h : a < nm.length) : seg nm a (a + 1) = [nm[a]] := by
  unfold seg
  rw [List.take_succ_eq_append_getElem h, List.drop_append, List.drop_of_length_le (by rw [List.length_take]; omega)]
  have : a - (nm.take a).length = 0 := by rw [List.length_take]; omega
  rw [this]
  rfl
/-- A place is in a set. -/
def inS (l : List Bool) (j : Nat) : Bool := rdOf false l (j : Int)
theorem inS_get {l : List Bool} {j : Nat} (h : j < l.length) : inS l j = l[j] := by
  unfold inS rdOf
  simp [h]
/-- R is where one is when one has begun in f and met a row of P. -/
structure Res (nm : List ByteArray) (P : List ByteArray → Prop) (f R : List Bool) : Prop where
  len : R.length = nm.length + 1
  mem : ∀ j, j ≤ nm.length → (inS R j = true ↔ ∃ a, a ≤ j ∧ inS f a = true ∧ P (seg nm a j))
theorem Res.congr {nm : List ByteArray} {P Q : List ByteArray → Prop} {f R : List Bool} (h : Res nm P f R) (e : ∀ w, P w ↔ Q w) : Res nm Q f R :=
  ⟨h.len, fun j hj => by
    rw [h.mem j hj]
    constructor
    · rintro ⟨a, h1, h2, h3⟩; exact ⟨a, h1, h2, (e _).1 h3⟩
    · rintro ⟨a, h1, h2, h3⟩; exact ⟨a, h1, h2, (e _).2 h3⟩⟩
theorem Res.nil {nm : List ByteArray} {f : List Bool} (h : f.length = nm.length + 1) : Res nm (fun w => w = []) f f :=
  ⟨h, fun j hj => by
    constructor
    · intro h; exact ⟨j, Nat.le_refl _, h, seg_self _ _⟩
    · rintro ⟨a, h1, h2, h3⟩
      rw [seg_nil h1 hj h3] at h2
      exact h2⟩
theorem Res.cat {nm : List ByteArray} {P Q : List ByteArray → Prop} {f R R' : List Bool} (h : Res nm P f R) (h' : Res nm Q R R') : Res nm (fun w => ∃ u v, w = u ++ v ∧ P u ∧ Q v) f R' :=
  ⟨h'.len, fun j hj => by
    rw [h'.mem j hj]
    constructor
    · rintro ⟨b, h1, h2, h3⟩
      obtain ⟨a, h4, h5, h6⟩ := (h.mem b (by omega)).1 h2
      exact ⟨a, by omega, h5, _, _, seg_app h4 h1 hj, h6, h3⟩
    · rintro ⟨a, h1, h2, u, v, e, h3, h4⟩
      obtain ⟨b, h5, h6, rfl, rfl⟩ := seg_split h1 hj e
      exact ⟨b, h6, (h.mem b (by omega)).2 ⟨a, h5, h2, h3⟩, h4⟩⟩
/-- Two sets in one. -/
def orS (x y : List Bool) : List Bool := List.zipWith (fun a b => a || b) x y
theorem orS_len {x y : List Bool} (h : x.length = y.length) : (orS x y).length = x.length := by
  unfold orS
  rw [List.length_zipWith]
  omega
theorem inS_or {x y : List Bool} (h : x.length = y.length) {j : Nat} (hj : j < x.length) : inS (orS x y) j = (inS x j || inS y j) := by
  rw [inS_get (by rw [orS_len h]; exact hj), inS_get hj, inS_get (by omega)]
  unfold orS
  rw [List.getElem_zipWith]
theorem Res.or_ {nm : List ByteArray} {P Q : List ByteArray → Prop} {f R R' : List Bool} (h : Res nm P f R) (h' : Res nm Q f R') : Res nm (fun w => P w ∨ Q w) f (orS R R') :=
  ⟨by rw [orS_len (by rw [h.len, h'.len]), h.len], fun j hj => by
    rw [inS_or (by rw [h.len, h'.len]) (by rw [h.len]; omega), Bool.or_eq_true, h.mem j hj, h'.mem j hj]
    constructor
    · rintro (⟨a, h1, h2, h3⟩ | ⟨a, h1, h2, h3⟩)
      · exact ⟨a, h1, h2, .inl h3⟩
      · exact ⟨a, h1, h2, .inr h3⟩
    · rintro ⟨a, h1, h2, h3 | h3⟩
      · exact .inl ⟨a, h1, h2, h3⟩
      · exact .inr ⟨a, h1, h2, h3⟩⟩
theorem Plus.snoc {G : List ByteArray → Prop} : ∀ {u v : List ByteArray}, Plus G u → G v → Plus G (u ++ v) := by
  intro u v h
  induction h with
  | one h => exact fun hv => .more h (.one hv)
  | more h1 _ ih => exact fun hv => by rw [List.append_assoc]; exact .more h1 (ih hv)
/-- A set that holds what one comes to at first, from f, and what one comes to out of it, holds all that one comes to in some rounds. -/
theorem closed_all {nm : List ByteArray} {G : List ByteArray → Prop} {f F : List Bool} (h1 : ∀ a j, a ≤ j → j ≤ nm.length → inS f a = true → G (seg nm a j) → inS F j = true) (h2 : ∀ a j, a ≤ j → j ≤ nm.length → inS F a = true → G (seg nm a j) → inS F j = true) :
    ∀ {w : List ByteArray}, Plus G w → ∀ a j, a ≤ j → j ≤ nm.length → w = seg nm a j → inS f a = true → inS F j = true := by
  have hF : ∀ {w : List ByteArray}, Plus G w → ∀ a j, a ≤ j → j ≤ nm.length → w = seg nm a j → inS F a = true → inS F j = true := by
    intro w h
    induction h with
    | one h => intro a j ha hj e hf; subst e; exact h2 a j ha hj hf h
    | more h _ ih =>
      intro a j ha hj e hf
      obtain ⟨b, h5, h6, rfl, rfl⟩ := seg_split ha hj e.symm
      exact ih b j h6 hj rfl (h2 a b h5 (by omega) hf h)
  intro w h
  cases h with
  | one h => intro a j ha hj e hf; subst e; exact h1 a j ha hj hf h
  | more h h' =>
    intro a j ha hj e hf
    obtain ⟨b, h5, h6, rfl, rfl⟩ := seg_split ha hj e.symm
    exact hF h' b j h6 hj rfl (h1 a b h5 (by omega) hf h)
theorem inS_ext {x y : List Bool} (h : x.length = y.length) (e : ∀ j, j < x.length → inS x j = inS y j) : x = y := by
  refine List.ext_getElem h (fun j h1 h2 => ?_)
  have := e j h1
  rwa [inS_get h1, inS_get h2] at this
theorem inS_set {x : List Bool} {i j : Nat} (hi : i < x.length) (b : Bool) (hj : j < x.length) : inS (x.set i b) j = if j = i then b else inS x j := by
  rw [inS_get (by rw [List.length_set]; exact hj), inS_get hj, List.getElem_set]
  by_cases c : i = j
  · rw [if_pos c, if_pos c.symm]
  · rw [if_neg c, if_neg (fun e => c e.symm)]
/-- x is like Y up to i, and like X behind. -/
structure Mid (X Y : List Bool) (i : Nat) (x : List Bool) : Prop where
  len : x.length = Y.length
  lo : ∀ j, j < i → j < Y.length → inS x j = inS Y j
  hi : ∀ j, i ≤ j → j < Y.length → inS x j = inS X j
theorem Mid.put {X Y x : List Bool} {i : Nat} (h : Mid X Y i x) (hi : i < Y.length) {b : Bool} (hb : b = inS Y i) : Mid X Y (i + 1) (x.set i b) :=
  ⟨by rw [List.length_set, h.len], fun j h1 h2 => by
    rw [inS_set (by rw [h.len]; exact hi) b (by rw [h.len]; exact h2)]
    by_cases c : j = i
    · rw [if_pos c, hb, c]
    · rw [if_neg c]; exact h.lo j (by omega) h2, fun j h1 h2 => by
    rw [inS_set (by rw [h.len]; exact hi) b (by rw [h.len]; exact h2), if_neg (by omega)]
    exact h.hi j (by omega) h2⟩
theorem Mid.done {X Y x : List Bool} {i : Nat} (h : Mid X Y i x) (hi : Y.length ≤ i) : x = Y := inS_ext h.len (fun j hj => h.lo j (by rw [h.len] at hj; omega) (by rw [h.len] at hj; exact hj))
abbrev ET : Type := Nat → List PM → Int → List ByteArray → List Bool → Option (List Bool)
section
variable (E : ET) (p : List PM) (n : Int) (nm : List ByteArray)
theorem ends_or {F X R : List Bool} (hl : X.length = F.length) (hm : X.length ≤ 1048576) (hR : Ev (fun k => l8EndsG.j2 E k p n nm (orS X F)) R) : ∀ (m i : Nat) (x : List Bool), i + m = X.length → Mid X (orS X F) i x → Ev (fun k => l8EndsG.l0 E k p n nm F x (i : Int)) R := by
  have hYl : (orS X F).length = X.length := orS_len hl
  intro m
  induction m with
  | zero =>
    intro i x hi h
    obtain rfl := h.done (by omega)
    refine Ev.step (fun k => ?_) hR
    conv => lhs; unfold l8EndsG.l0
    rw [if_neg (by rw [hYl]; omega)]
  | succ m ih =>
    intro i x hi h
    have hil : i < X.length := by omega
    have hx : rdOf false x (i : Int) = inS X i := h.hi i (Nat.le_refl _) (by rw [hYl]; exact hil)
    have hf : rdOf false F (i : Int) = inS F i := rfl
    have hy := inS_or hl hil
    have hxl := h.len
    cases hb : inS X i with
    | true =>
      rw [hb] at hx hy
      refine Ev.step (fun k => ?_) (ih (i + 1) (x.set i true) (by omega) (h.put (by rw [hYl]; exact hil) (by rw [hy]; rfl)))
      conv => lhs; unfold l8EndsG.l0
      rw [if_pos (by rw [hxl, hYl]; omega), if_pos (by omega), hx, if_pos rfl, w1n hil (by omega), Int.toNat_natCast]
    | false =>
      rw [hb] at hx hy
      refine Ev.step (fun k => ?_) (ih (i + 1) (x.set i (inS F i)) (by omega) (h.put (by rw [hYl]; exact hil) (by rw [hy]; rfl)))
      conv => lhs; unfold l8EndsG.l0
      rw [if_pos (by rw [hxl, hYl]; omega), if_pos (by omega), hx, if_neg (by decide), if_pos (by omega), hf, w1n hil (by omega), Int.toNat_natCast]
/-- Is something of N not in X? -/
def newB (X N : List Bool) (i : Nat) : Bool := (List.range i).any fun j => inS N j && !inS X j
theorem newB_step (X N : List Bool) (i : Nat) : newB X N (i + 1) = (newB X N i || (inS N i && !inS X i)) := by
  unfold newB
  rw [List.range_succ, List.any_append]
  simp
theorem ends_more {N X R : List Bool} (hl : X.length = N.length) (hm : X.length ≤ 1048576) (hR : Ev (fun k => if newB X N X.length = true then l8EndsG.l1 E k p n nm (orS X N) else some (orS X N)) R) : ∀ (m i : Nat) (x : List Bool), i + m = X.length → Mid X (orS X N) i x → Ev (fun k => l8EndsG.l2 E k p n nm N x (newB X N i) (i : Int)) R := by
  have hYl : (orS X N).length = X.length := orS_len hl
  intro m
  induction m with
  | zero =>
    intro i x hi h
    obtain rfl := h.done (by omega)
    obtain rfl : i = X.length := by omega
    refine Ev.step (fun k => ?_) hR
    conv => lhs; unfold l8EndsG.l2
    rw [if_neg (by rw [hYl]; omega)]
  | succ m ih =>
    intro i x hi h
    have hil : i < X.length := by omega
    have hx : rdOf false x (i : Int) = inS X i := h.hi i (Nat.le_refl _) (by rw [hYl]; exact hil)
    have hf : rdOf false N (i : Int) = inS N i := rfl
    have hy := inS_or hl hil
    have hxl := h.len
    have hgo : ∀ b, b = (inS X i || inS N i) → Ev (fun k => l8EndsG.l2 E k p n nm N (x.set i b) (newB X N (i + 1)) ((i + 1 : Nat) : Int)) R := fun b hb => ih (i + 1) _ (by omega) (h.put (by rw [hYl]; exact hil) (by rw [hy]; exact hb))
    rw [newB_step] at hgo
    cases hw : newB X N i with
    | true =>
      rw [hw] at hgo
      simp only [Bool.true_or] at hgo
      cases hb : inS X i with
      | true =>
        rw [hb] at hx hgo
        refine Ev.step (fun k => ?_) (hgo true rfl)
        conv => lhs; unfold l8EndsG.l2
        rw [if_pos (by rw [hxl, hYl]; omega), if_pos rfl, if_pos (by omega), hx, if_pos rfl, w1n hil (by omega), Int.toNat_natCast]
      | false =>
        rw [hb] at hx hgo
        refine Ev.step (fun k => ?_) (hgo (inS N i) rfl)
        conv => lhs; unfold l8EndsG.l2
        rw [if_pos (by rw [hxl, hYl]; omega), if_pos rfl, if_pos (by omega), hx, if_neg (by decide), if_pos (by omega), hf, w1n hil (by omega), Int.toNat_natCast]
    | false =>
      rw [hw] at hgo
      simp only [Bool.false_or] at hgo
      cases hn : inS N i with
      | true =>
        rw [hn] at hf hgo
        cases hb : inS X i with
        | true =>
          rw [hb] at hx hgo
          refine Ev.step (fun k => ?_) (hgo true rfl)
          conv => lhs; unfold l8EndsG.l2
          rw [if_pos (by rw [hxl, hYl]; omega), if_neg (by decide), if_pos (by omega), if_pos (by omega), hf, if_pos rfl, hx, if_pos rfl, w1n hil (by omega), Int.toNat_natCast]
          rfl
        | false =>
          rw [hb] at hx hgo
          refine Ev.step (fun k => ?_) (hgo true rfl)
          conv => lhs; unfold l8EndsG.l2
          rw [if_pos (by rw [hxl, hYl]; omega), if_neg (by decide), if_pos (by omega), if_pos (by omega), hf, if_pos rfl, hx, if_neg (by decide), w1n hil (by omega), Int.toNat_natCast]
          rfl
      | false =>
        rw [hn] at hf hgo
        cases hb : inS X i with
        | true =>
          rw [hb] at hx hgo
          refine Ev.step (fun k => ?_) (hgo true rfl)
          conv => lhs; unfold l8EndsG.l2
          rw [if_pos (by rw [hxl, hYl]; omega), if_neg (by decide), if_pos (by omega), if_pos (by omega), hf, if_neg (by decide), hx, if_pos rfl, w1n hil (by omega), Int.toNat_natCast]
          rfl
        | false =>
          rw [hb] at hx hgo
          refine Ev.step (fun k => ?_) (hgo false rfl)
          conv => lhs; unfold l8EndsG.l2
          rw [if_pos (by rw [hxl, hYl]; omega), if_neg (by decide), if_pos (by omega), if_pos (by omega), hf, if_neg (by decide), hx, if_neg (by decide), w1n hil (by omega), Int.toNat_natCast]
          rfl
end
theorem fil_le {u v : Nat → Bool} : ∀ l : List Nat, (∀ x ∈ l, v x = true → u x = true) → (l.filter v).length ≤ (l.filter u).length
  | [], _ => Nat.le_refl _
  | y :: l, h => by
    have h1 := fil_le l (fun x hx => h x (by simp [hx]))
    have h2 := h y (by simp)
    cases hv : v y with
    | true => rw [List.filter_cons_of_pos hv, List.filter_cons_of_pos (h2 hv)]; simp only [List.length_cons]; omega
    | false =>
      rw [List.filter_cons_of_neg (by rw [hv]; decide)]
      cases hu : u y with
      | true => rw [List.filter_cons_of_pos hu]; simp only [List.length_cons]; omega
      | false => rw [List.filter_cons_of_neg (by rw [hu]; decide)]; exact h1
theorem fil_lt {u v : Nat → Bool} : ∀ l : List Nat, (∀ x ∈ l, v x = true → u x = true) → (∃ x ∈ l, u x = true ∧ v x = false) → (l.filter v).length < (l.filter u).length
  | [], _, h => by
    obtain ⟨x, hx, _⟩ := h
    cases hx
  | y :: l, h, ⟨x, hx, h3, h4⟩ => by
    have h1 := fil_le l (fun x hx => h x (by simp [hx]))
    have h2 := h y (by simp)
    rcases List.mem_cons.1 hx with rfl | hx
    · rw [List.filter_cons_of_pos h3, List.filter_cons_of_neg (by rw [h4]; decide)]
      simp only [List.length_cons]
      omega
    · have h5 := fil_lt l (fun x hx => h x (by simp [hx])) ⟨x, hx, h3, h4⟩
      cases hv : v y with
      | true => rw [List.filter_cons_of_pos hv, List.filter_cons_of_pos (h2 hv)]; simp only [List.length_cons]; omega
      | false =>
        rw [List.filter_cons_of_neg (by rw [hv]; decide)]
        cases hu : u y with
        | true => rw [List.filter_cons_of_pos hu]; simp only [List.length_cons]; omega
        | false => rw [List.filter_cons_of_neg (by rw [hu]; decide)]; exact h5
def free (X : List Bool) : Nat := ((List.range X.length).filter fun j => !inS X j).length
section
variable {E : ET} {p : List PM} {n : Int} {nm : List ByteArray} {G : List ByteArray → Prop} (hnm : nm.length ≤ 1048570)
  (hE : ∀ X : List Bool, X.length = nm.length + 1 → ∃ R, Ev (fun k => E k p n nm X) R ∧ Res nm G X R)
include hnm hE
theorem ends_fix (f : List Bool) (opt : Prop) : ∀ (m : Nat) (X : List Bool), free X ≤ m → X.length = nm.length + 1 → (∀ j, j ≤ nm.length → inS X j = true → ∃ a, a ≤ j ∧ inS f a = true ∧ ((opt ∧ seg nm a j = []) ∨ Plus G (seg nm a j))) →
    ∃ F : List Bool, Ev (fun k => l8EndsG.l1 E k p n nm X) F ∧ F.length = nm.length + 1 ∧ (∀ j, inS X j = true → inS F j = true) ∧ (∀ j, j ≤ nm.length → inS F j = true → ∃ a, a ≤ j ∧ inS f a = true ∧ ((opt ∧ seg nm a j = []) ∨ Plus G (seg nm a j))) ∧ (∀ a j, a ≤ j → j ≤ nm.length → inS F a = true → G (seg nm a j) → inS F j = true) := by
  intro m
  induction m with
  | zero =>
    intro X hfr hl hs
    obtain ⟨N, hN, hr⟩ := hE X hl
    have hlN : X.length = N.length := by rw [hl, hr.len]
    have hall : ∀ j, j < X.length → inS X j = true := by
      intro j hj
      cases hx : inS X j with
      | true => rfl
      | false =>
        have : j ∈ (List.range X.length).filter fun j => !inS X j := List.mem_filter.2 ⟨List.mem_range.2 hj, by rw [hx]; rfl⟩
        have h0 : ((List.range X.length).filter fun j => !inS X j) = [] := List.eq_nil_of_length_eq_zero (Nat.le_zero.1 hfr)
        rw [h0] at this
        cases this
    have hnb : newB X N X.length = false := by
      cases hb : newB X N X.length with
      | false => rfl
      | true =>
        unfold newB at hb
        rw [List.any_eq_true] at hb
        obtain ⟨j, hj, h⟩ := hb
        rw [hall j (List.mem_range.1 hj)] at h
        simp at h
    have hXY : orS X N = X := inS_ext (orS_len hlN) (fun j hj => by
      rw [orS_len hlN] at hj
      rw [inS_or hlN hj, hall j hj, Bool.true_or])
    refine ⟨X, ?_, hl, fun j h => h, hs, fun a j h1 h2 h3 h4 => hall j (by omega)⟩
    refine Ev.step (f := fun k => (E k p n nm X).bind fun t => l8EndsG.l2 E k p n nm t X false 0) (fun k => ?_) (Ev.bind hN ?_)
    · conv => lhs; unfold l8EndsG.l1
    · have := ends_more E p n nm hlN (by omega) (R := X) (by rw [hnb, hXY]; exact Ev.now _) X.length 0 X (Nat.zero_add _) ⟨by rw [orS_len hlN], fun j h => by omega, fun j _ _ => rfl⟩
      exact this
  | succ m ih =>
    intro X hfr hl hs
    obtain ⟨N, hN, hr⟩ := hE X hl
    have hlN : X.length = N.length := by rw [hl, hr.len]
    have hYl := orS_len hlN
    have hstep : ∀ R, Ev (fun k => if newB X N X.length = true then l8EndsG.l1 E k p n nm (orS X N) else some (orS X N)) R → Ev (fun k => l8EndsG.l1 E k p n nm X) R := by
      intro R hR
      refine Ev.step (f := fun k => (E k p n nm X).bind fun t => l8EndsG.l2 E k p n nm t X false 0) (fun k => ?_) (Ev.bind hN ?_)
      · conv => lhs; unfold l8EndsG.l1
      · exact ends_more E p n nm hlN (by omega) hR X.length 0 X (Nat.zero_add _) ⟨by rw [hYl], fun j h => by omega, fun j _ _ => rfl⟩
    cases hb : newB X N X.length with
    | false =>
      have hno : ∀ j, j < X.length → inS N j = true → inS X j = true := by
        intro j hj hn
        cases hx : inS X j with
        | true => rfl
        | false =>
          have : newB X N X.length = true := by
            unfold newB
            rw [List.any_eq_true]
            exact ⟨j, List.mem_range.2 hj, by rw [hn, hx]; rfl⟩
          rw [hb] at this
          cases this
      have hXY : orS X N = X := inS_ext hYl (fun j hj => by
        rw [hYl] at hj
        rw [inS_or hlN hj]
        cases hx : inS X j with
        | true => rfl
        | false =>
          cases hn : inS N j with
          | false => rfl
          | true => rw [hno j hj hn] at hx; cases hx)
      refine ⟨X, hstep X (by rw [hb, hXY]; exact Ev.now _), hl, fun j h => h, hs, fun a j h1 h2 h3 h4 => hno j (by omega) ((hr.mem j h2).2 ⟨a, h1, h3, h4⟩)⟩
    | true =>
      have hfr2 : free (orS X N) ≤ m := by
        have : free (orS X N) < free X := by
          unfold free
          rw [hYl]
          refine fil_lt _ (fun j hj h => ?_) ?_
          · rw [inS_or hlN (List.mem_range.1 hj)] at h
            cases hx : inS X j with
            | false => rfl
            | true => rw [hx] at h; simp at h
          · unfold newB at hb
            rw [List.any_eq_true] at hb
            obtain ⟨j, hj, h⟩ := hb
            simp only [Bool.and_eq_true, Bool.not_eq_true'] at h
            exact ⟨j, hj, by rw [h.2]; rfl, by rw [inS_or hlN (List.mem_range.1 hj), h.1, h.2]; rfl⟩
        omega
      obtain ⟨F, h1, h2, h3, h4, h5⟩ := ih (orS X N) hfr2 (by rw [hYl, hl]) (fun j hj h => by
        rw [inS_or hlN (by omega), Bool.or_eq_true] at h
        rcases h with h | h
        · exact hs j hj h
        · obtain ⟨b, hb1, hb2, hb3⟩ := (hr.mem j hj).1 h
          obtain ⟨a, ha1, ha2, ha3⟩ := hs b (by omega) hb2
          refine ⟨a, by omega, ha2, .inr ?_⟩
          rw [seg_app ha1 hb1 hj]
          rcases ha3 with ⟨_, e⟩ | h
          · rw [e, List.nil_append]; exact .one hb3
          · exact Plus.snoc h hb3)
      refine ⟨F, hstep F (by rw [hb]; exact h1), h2, fun j h => h3 j ?_, h4, h5⟩
      by_cases hj : j < X.length
      · rw [inS_or hlN hj, h, Bool.true_or]
      · unfold inS rdOf at h
        rw [Int.toNat_natCast, List.getD_eq_getElem?_getD, List.getElem?_eq_none (by omega)] at h
        cases h
end
section
variable {E : ET} {p : List PM} (K : OkP p) {nm : List ByteArray} (hnm : nm.length ≤ 1048570) {i : Nat} (hi : i < p.length)
  (hE : ∀ X : List Bool, X.length = nm.length + 1 → ∃ R, Ev (fun k => E k p (i : Int) nm X) R ∧ Res nm (G1 (md p) (loT p) i) X R)
include K hnm hi hE
theorem ends_tail (f X : List Bool) (hf : f.length = nm.length + 1) (hX : Res nm (fun w => ((nd (md p) i).opt = true ∧ w = []) ∨ G1 (md p) (loT p) i w) f X) :
    ∃ R, Ev (fun k => l8EndsG.j2 E k p (i : Int) nm X) R ∧ Res nm (GL (md p) (loT p) i) f R := by
  have him : i < (md p).length := by rw [md_len]; exact hi
  have e : rd_T49 p (i : Int) = at_ p i := rfl
  have hm := K.most
  have hoft : (nd (md p) i).oft = decide ((at_ p i).f3 ≥ 2) := by rw [← oft_three K hi, nd_md hi]; rfl
  have hGL := GL_eq K.tr him
  by_cases c : (at_ p i).f3 < 2
  · have ho : ¬ (nd (md p) i).oft = true := by rw [hoft, decide_eq_false (by omega)]; decide
    refine ⟨X, Ev.step (f := fun _ => some X) (fun k => ?_) (Ev.now _), hX.congr (fun w => by rw [hGL w, if_neg ho])⟩
    show (if 0 ≤ (i : Int) then (if (i : Int) < (p.length : Int) then (if (rd_T49 p (i : Int)).f3 < 2 then some X else l8EndsG.l1 E k p (i : Int) nm X) else none) else none) = _
    rw [if_pos (by omega), if_pos (by omega), e, if_pos c]
  · have ho : (nd (md p) i).oft = true := by rw [hoft, decide_eq_true (by omega)]
    obtain ⟨F, h1, h2, h3, h4, h5⟩ := ends_fix hnm hE f ((nd (md p) i).opt = true) (free X) X (Nat.le_refl _) hX.len (fun j hj h => by
      obtain ⟨a, h1, h2, h3⟩ := (hX.mem j hj).1 h
      exact ⟨a, h1, h2, h3.elim .inl (fun h => .inr (.one h))⟩)
    refine ⟨F, Ev.step (fun k => ?_) h1, ⟨h2, fun j hj => ?_⟩⟩
    · show (if 0 ≤ (i : Int) then (if (i : Int) < (p.length : Int) then (if (rd_T49 p (i : Int)).f3 < 2 then some X else l8EndsG.l1 E k p (i : Int) nm X) else none) else none) = _
      rw [if_pos (by omega), if_pos (by omega), e, if_neg c]
    · constructor
      · intro h
        obtain ⟨a, h6, h7, h8⟩ := h4 j hj h
        exact ⟨a, h6, h7, (hGL _).2 (by rw [if_pos ho]; exact h8)⟩
      · rintro ⟨a, h6, h7, h8⟩
        have h9 := (hGL _).1 h8
        rw [if_pos ho] at h9
        rcases h9 with ⟨h9, h10⟩ | h9
        · exact h3 j ((hX.mem j hj).2 ⟨a, h6, h7, .inl ⟨h9, h10⟩⟩)
        · exact closed_all (nm := nm) (f := f) (F := F) (fun a j ha hj hf hg => h3 j ((hX.mem j hj).2 ⟨a, ha, hf, .inr hg⟩)) h5 h9 a j h6 hj rfl h7
theorem ends_all (f : List Bool) (hf : f.length = nm.length + 1) : ∃ R, Ev (fun k => l8EndsG.f E k p (i : Int) nm f) R ∧ Res nm (GL (md p) (loT p) i) f R := by
  have e : rd_T49 p (i : Int) = at_ p i := rfl
  have hm := K.most
  obtain ⟨R0, h0, h1⟩ := hE f hf
  have hl := h1.len
  have hopt : (nd (md p) i).opt = optB (at_ p i) := by rw [nd_md hi]; rfl
  have hmain : ∀ b, b = optB (at_ p i) → ∃ R, Ev (fun k => l8EndsG.j0 E k p (i : Int) nm f R0 b) R ∧ Res nm (GL (md p) (loT p) i) f R := by
    intro b hb
    cases b with
    | true =>
      have hX : Res nm (fun w => ((nd (md p) i).opt = true ∧ w = []) ∨ G1 (md p) (loT p) i w) f (orS R0 f) := (h1.or_ (Res.nil hf)).congr (fun w => by
        rw [hopt, ← hb]
        constructor
        · rintro (h | h)
          · exact .inr h
          · exact .inl ⟨rfl, h⟩
        · rintro (⟨_, h⟩ | h)
          · exact .inr h
          · exact .inl h)
      obtain ⟨R, h2, h3⟩ := ends_tail K hnm hi hE f _ hf hX
      refine ⟨R, Ev.step (fun k => ?_) (ends_or E p (i : Int) nm (F := f) (X := R0) (by rw [hl, hf]) (by omega) h2 R0.length 0 R0 (Nat.zero_add _) ⟨by rw [orS_len (by rw [hl, hf])], fun j h => by omega, fun j _ _ => rfl⟩), h3⟩
      show (if true = true then l8EndsG.l0 E k p (i : Int) nm f R0 0 else l8EndsG.j2 E k p (i : Int) nm R0) = _
      rw [if_pos rfl]
      rfl
    | false =>
      have hX : Res nm (fun w => ((nd (md p) i).opt = true ∧ w = []) ∨ G1 (md p) (loT p) i w) f R0 := h1.congr (fun w => by
        rw [hopt, ← hb]
        simp)
      obtain ⟨R, h2, h3⟩ := ends_tail K hnm hi hE f _ hf hX
      refine ⟨R, Ev.step (fun k => ?_) h2, h3⟩
      show (if false = true then l8EndsG.l0 E k p (i : Int) nm f R0 0 else l8EndsG.j2 E k p (i : Int) nm R0) = _
      rw [if_neg (by decide)]
  have hfin : ∀ b, b = optB (at_ p i) → (∀ k, l8EndsG.f E k p (i : Int) nm f = (E k p (i : Int) nm f).bind fun t => (if t.length < 140737488355328 then l8EndsG.j0 E k p (i : Int) nm f t b else none)) → ∃ R, Ev (fun k => l8EndsG.f E k p (i : Int) nm f) R ∧ Res nm (GL (md p) (loT p) i) f R := by
    intro b hb he
    obtain ⟨R, h2, h3⟩ := hmain b hb
    refine ⟨R, Ev.congr he (Ev.bind h0 ?_), h3⟩
    refine Ev.congr (fun k => ?_) h2
    rw [if_pos (by omega)]
  by_cases c1 : (at_ p i).f3 = 1
  · refine hfin true (by unfold optB; rw [c1]; rfl) (fun k => ?_)
    unfold l8EndsG.f
    congr 1
    funext t
    simp only [Option.bind_some, List.nil_append, List.length_nil, Nat.zero_add]
    rw [if_pos (show (0 : Int) ≤ (i : Int) by omega), if_pos (show (i : Int) < (p.length : Int) by omega), e, if_pos c1]
  · refine hfin ((at_ p i).f3 == 2) (by unfold optB; rw [beq_eq_false_iff_ne.2 c1, Bool.false_or]) (fun k => ?_)
    unfold l8EndsG.f
    congr 1
    funext t
    simp only [Option.bind_some, List.nil_append, List.length_nil, Nat.zero_add]
    rw [if_pos (show (0 : Int) ≤ (i : Int) by omega), if_pos (show (i : Int) < (p.length : Int) by omega), e, if_neg c1]
end
theorem Mid.skip {X Y x : List Bool} {i : Nat} (h : Mid X Y i x) (e : inS X i = inS Y i) : Mid X Y (i + 1) x :=
  ⟨h.len, fun j h1 h2 => by
    by_cases c : j = i
    · subst c; rw [h.hi j (Nat.le_refl _) h2, e]
    · exact h.lo j (by omega) h2, fun j h1 h2 => h.hi j (by omega) h2⟩
theorem inS_rep {n j : Nat} : inS (List.replicate n false) j = false := by
  unfold inS rdOf
  rw [Int.toNat_natCast, List.getD_eq_getElem?_getD, List.getElem?_replicate]
  split <;> rfl
section
variable {E : ET} {p : List PM} (K : OkP p) {nm : List ByteArray} (hnm : nm.length ≤ 1048570) {i : Nat} (hi : i < p.length)
  (hE : ∀ k, k < i → ∀ f : List Bool, f.length = nm.length + 1 → ∃ R, Ev (fun q => E q p (k : Int) nm f) R ∧ Res nm (GL (md p) (loT p) k) f R)
include K hnm hi hE
omit hnm in
theorem once_seq : ∀ (m j : Nat) (x : List Bool), j + m = (nd (md p) i).kids.length → x.length = nm.length + 1 →
    ∃ R, Ev (fun k => l8OnceG.l1 E k p nm x (j : Int) (at_ p i).f0 (at_ p i).f1 (at_ p i).f2 (at_ p i).f3) R ∧ Res nm (Cat (GL (md p) (loT p)) ((nd (md p) i).kids.drop j)) x R := by
  have him : i < (md p).length := by rw [md_len]; exact hi
  have hk := K.f2 hi
  have hks := kids_small K hi
  have hm := K.most
  intro m
  induction m with
  | zero =>
    intro j x hj hx
    rw [List.drop_of_length_le (by omega)]
    refine ⟨x, Ev.step (f := fun _ => some x) (fun k => ?_) (Ev.now _), Res.nil hx⟩
    conv => lhs; unfold l8OnceG.l1
    rw [if_neg (by rw [hk, ints_len]; omega)]
  | succ m ih =>
    intro j x hj hx
    have hlt : j < (nd (md p) i).kids.length := by omega
    have hki := (K.tr.kid him (List.getElem_mem hlt)).2
    obtain ⟨R1, h1, h2⟩ := hE _ hki x hx
    obtain ⟨R, h3, h4⟩ := ih (j + 1) R1 (by omega) h2.len
    refine ⟨R, Ev.step (f := fun k => (E k p ((nd (md p) i).kids[j] : Int) nm x).bind fun t => l8OnceG.l1 E k p nm t ((j + 1 : Nat) : Int) (at_ p i).f0 (at_ p i).f1 (at_ p i).f2 (at_ p i).f3) (fun k => ?_) (Ev.bind h1 h3), ?_⟩
    · conv => lhs; unfold l8OnceG.l1
      rw [if_pos (by rw [hk, ints_len]; omega), if_pos (by omega), w1n hlt (by omega)]
      rw [show rd (at_ p i).f2 (j : Int) = ((nd (md p) i).kids[j] : Int) by rw [hk]; exact rd_ints hlt]
    · rw [List.drop_eq_getElem_cons hlt]
      exact h2.cat h4
omit K hi hE in
theorem once_pos (hp : posB (at_ p i) = true) {f Y : List Bool} (hf : f.length = nm.length + 1) (hY : Y.length = nm.length + 1) (h0 : inS Y 0 = false) (hs : ∀ j (h : j < nm.length), inS Y (j + 1) = (inS f j && takesB p (i : Int) nm[j])) : ∀ (m j : Nat) (x : List Bool), j + m = nm.length → Mid (List.replicate (nm.length + 1) false) Y (j + 1) x →
    Ev (fun k => l8OnceG.l0 E k nm f x (j : Int) (at_ p i).f0 (at_ p i).f1 (at_ p i).f2 (at_ p i).f3) Y := by
  have e : rd_T49 p (i : Int) = at_ p i := rfl
  intro m
  induction m with
  | zero =>
    intro j x hj h
    obtain rfl := h.done (by omega)
    refine Ev.step (f := fun _ => some x) (fun k => ?_) (Ev.now _)
    conv => lhs; unfold l8OnceG.l0
    rw [if_neg (by omega)]
  | succ m ih =>
    intro j x hj h
    have hlt : j < nm.length := by omega
    have hxl := h.len
    have hnm' : rdOf ByteArray.empty nm (j : Int) = nm[j] := by unfold rdOf; simp [hlt]
    have hfj : rdOf false f (j : Int) = inS f j := rfl
    have hw := w1n hlt (by omega)
    have hrep := inS_rep (n := nm.length + 1) (j := j + 1)
    have hy := hs j hlt
    have hset : inS Y (j + 1) = true → Ev (fun k => l8OnceG.l0 E k nm f (x.set (j + 1) true) ((j + 1 : Nat) : Int) (at_ p i).f0 (at_ p i).f1 (at_ p i).f2 (at_ p i).f3) Y := fun hh => ih (j + 1) _ (by omega) (h.put (by omega) hh.symm)
    have hskip : inS Y (j + 1) = false → Ev (fun k => l8OnceG.l0 E k nm f x ((j + 1 : Nat) : Int) (at_ p i).f0 (at_ p i).f1 (at_ p i).f2 (at_ p i).f3) Y := fun hh => ih (j + 1) _ (by omega) (h.skip (by rw [hrep, hh]))
    have htk : takesB p (i : Int) nm[j] = (((at_ p i).f0 == 4) || ((at_ p i).f1.toList == nm[j].toList)) := by unfold takesB; rw [e]
    rw [htk] at hy
    cases hb : inS f j with
    | false =>
      rw [hb, Bool.false_and] at hy
      rw [hb] at hfj
      refine Ev.step (fun k => ?_) (hskip hy)
      conv => lhs; unfold l8OnceG.l0
      rw [if_pos (by omega), if_pos (by omega), if_pos (by omega), hfj, if_neg (by decide), hw]
    | true =>
      rw [hb, Bool.true_and] at hy
      rw [hb] at hfj
      by_cases c4 : (at_ p i).f0 = 4
      · rw [beq_iff_eq.2 c4, Bool.true_or] at hy
        refine Ev.step (fun k => ?_) (hset hy)
        conv => lhs; unfold l8OnceG.l0
        rw [if_pos (by omega), if_pos (by omega), if_pos (by omega), hfj, if_pos rfl, if_pos c4, hw, if_pos (by omega), if_pos (by omega), Int.toNat_natCast]
      · rw [beq_eq_false_iff_ne.2 c4, Bool.false_or] at hy
        by_cases cn : (at_ p i).f1.toList = nm[j].toList
        · rw [beq_iff_eq.2 cn] at hy
          refine Ev.step (fun k => ?_) (hset hy)
          conv => lhs; unfold l8OnceG.l0
          rw [if_pos (by omega), if_pos (by omega), if_pos (by omega), hfj, if_pos rfl, if_neg c4, hnm', if_pos cn, hw, if_pos (by omega), if_pos (by omega), Int.toNat_natCast]
        · rw [beq_eq_false_iff_ne.2 cn] at hy
          refine Ev.step (fun k => ?_) (hskip hy)
          conv => lhs; unfold l8OnceG.l0
          rw [if_pos (by omega), if_pos (by omega), if_pos (by omega), hfj, if_pos rfl, if_neg c4, hnm', if_neg cn, hw]
end
theorem once_l3 (E : ET) (p : List PM) (nm : List ByteArray) (f : List Bool) (z : PM) (jj : Int) {F X R : List Bool} (hl : X.length = F.length) (hm : X.length ≤ 1048576) (hR : Ev (fun k => l8OnceG.l2 E k p nm f (orS X F) (wrap64 (jj + 1)) z.f0 z.f1 z.f2 z.f3) R) : ∀ (m i : Nat) (x : List Bool), i + m = X.length → Mid X (orS X F) i x → Ev (fun k => l8OnceG.l3 E k p nm f x jj F (i : Int) z.f0 z.f1 z.f2 z.f3) R := by
  have hYl : (orS X F).length = X.length := orS_len hl
  intro m
  induction m with
  | zero =>
    intro i x hi h
    obtain rfl := h.done (by omega)
    refine Ev.step (fun k => ?_) hR
    conv => lhs; unfold l8OnceG.l3
    rw [if_neg (by rw [hYl]; omega)]
  | succ m ih =>
    intro i x hi h
    have hil : i < X.length := by omega
    have hx : rdOf false x (i : Int) = inS X i := h.hi i (Nat.le_refl _) (by rw [hYl]; exact hil)
    have hf : rdOf false F (i : Int) = inS F i := rfl
    have hy := inS_or hl hil
    have hxl := h.len
    cases hb : inS X i with
    | true =>
      rw [hb] at hx hy
      refine Ev.step (fun k => ?_) (ih (i + 1) (x.set i true) (by omega) (h.put (by rw [hYl]; exact hil) (by rw [hy]; rfl)))
      conv => lhs; unfold l8OnceG.l3
      rw [if_pos (by rw [hxl, hYl]; omega), if_pos (by omega), hx, if_pos rfl, w1n hil (by omega), Int.toNat_natCast]
    | false =>
      rw [hb] at hx hy
      refine Ev.step (fun k => ?_) (ih (i + 1) (x.set i (inS F i)) (by omega) (h.put (by rw [hYl]; exact hil) (by rw [hy]; rfl)))
      conv => lhs; unfold l8OnceG.l3
      rw [if_pos (by rw [hxl, hYl]; omega), if_pos (by omega), hx, if_neg (by decide), if_pos (by omega), hf, w1n hil (by omega), Int.toNat_natCast]
theorem takes_iff {p : List PM} (K : OkP p) {z : Nat} (hz : z < p.length) (nm : ByteArray) : takesB p (z : Int) nm = true ↔ tk (md p) z nm := by
  have e : rd_T49 p (z : Int) = at_ p z := rfl
  unfold takesB tk
  rw [nd_md hz, e, Bool.or_eq_true, beq_iff_eq, beq_iff_eq]
  show (at_ p z).f0 = 4 ∨ (at_ p z).f1.toList = nm.toList ↔ (at_ p z).f0 = 4 ∨ (at_ p z).f1 = nm
  constructor
  · rintro (h | h)
    · exact .inl h
    · right
      rw [Lib.toList_data, Lib.toList_data] at h
      exact ba_ext h
  · rintro (h | h)
    · exact .inl h
    · exact .inr (by rw [h])
section
variable {E : ET} {p : List PM} (K : OkP p) {nm : List ByteArray} (hnm : nm.length ≤ 1048570) {i : Nat} (hi : i < p.length)
  (hE : ∀ k, k < i → ∀ f : List Bool, f.length = nm.length + 1 → ∃ R, Ev (fun q => E q p (k : Int) nm f) R ∧ Res nm (GL (md p) (loT p) k) f R)
include K hnm hi hE
theorem once_or (f : List Bool) (hf : f.length = nm.length + 1) : ∀ (m j : Nat) (x : List Bool) (P : List ByteArray → Prop), j + m = (nd (md p) i).kids.length → Res nm P f x →
    ∃ R, Ev (fun k => l8OnceG.l2 E k p nm f x (j : Int) (at_ p i).f0 (at_ p i).f1 (at_ p i).f2 (at_ p i).f3) R ∧ Res nm (fun w => P w ∨ ∃ k ∈ (nd (md p) i).kids.drop j, GL (md p) (loT p) k w) f R := by
  have him : i < (md p).length := by rw [md_len]; exact hi
  have hk := K.f2 hi
  have hks := kids_small K hi
  have hm := K.most
  intro m
  induction m with
  | zero =>
    intro j x P hj hx
    rw [List.drop_of_length_le (by omega)]
    refine ⟨x, Ev.step (f := fun _ => some x) (fun k => ?_) (Ev.now _), hx.congr (fun w => by simp)⟩
    conv => lhs; unfold l8OnceG.l2
    rw [if_neg (by rw [hk, ints_len]; omega)]
  | succ m ih =>
    intro j x P hj hx
    have hlt : j < (nd (md p) i).kids.length := by omega
    have hki := (K.tr.kid him (List.getElem_mem hlt)).2
    obtain ⟨R1, h1, h2⟩ := hE _ hki f hf
    have hl : x.length = R1.length := by rw [hx.len, h2.len]
    obtain ⟨R, h3, h4⟩ := ih (j + 1) (orS x R1) _ (by omega) (hx.or_ h2)
    refine ⟨R, Ev.step (f := fun k => (E k p ((nd (md p) i).kids[j] : Int) nm f).bind fun t => l8OnceG.l3 E k p nm f x (j : Int) t 0 (at_ p i).f0 (at_ p i).f1 (at_ p i).f2 (at_ p i).f3) (fun k => ?_) (Ev.bind h1 ?_), ?_⟩
    · conv => lhs; unfold l8OnceG.l2
      rw [if_pos (by rw [hk, ints_len]; omega), if_pos (by omega)]
      rw [show rd (at_ p i).f2 (j : Int) = ((nd (md p) i).kids[j] : Int) by rw [hk]; exact rd_ints hlt]
    · exact once_l3 E p nm f (at_ p i) (j : Int) hl (by rw [hx.len]; omega) (by rw [w1n hlt (by omega)]; exact h3) x.length 0 x (Nat.zero_add _) ⟨by rw [orS_len hl], fun j h => by omega, fun j _ _ => rfl⟩
    · refine h4.congr (fun w => ?_)
      rw [List.drop_eq_getElem_cons hlt]
      simp only [List.mem_cons]
      constructor
      · rintro ((h | h) | ⟨k, h, h'⟩)
        · exact .inl h
        · exact .inr ⟨_, .inl rfl, h⟩
        · exact .inr ⟨k, .inr h, h'⟩
      · rintro (h | ⟨k, rfl | h, h'⟩)
        · exact .inl (.inl h)
        · exact .inl (.inr h')
        · exact .inr ⟨k, h, h'⟩
end
section
variable {E : ET} {p : List PM} (K : OkP p) {nm : List ByteArray} (hnm : nm.length ≤ 1048570) {i : Nat} (hi : i < p.length)
  (hE : ∀ k, k < i → ∀ f : List Bool, f.length = nm.length + 1 → ∃ R, Ev (fun q => E q p (k : Int) nm f) R ∧ Res nm (GL (md p) (loT p) k) f R)
include K hnm hi hE
theorem once_all (f : List Bool) (hf : f.length = nm.length + 1) : ∃ R, Ev (fun k => l8OnceG.f E k p (i : Int) nm f) R ∧ Res nm (G1 (md p) (loT p) i) f R := by
  have him : i < (md p).length := by rw [md_len]; exact hi
  have e : rd_T49 p (i : Int) = at_ p i := rfl
  have hm := K.most
  have hkind : (nd (md p) i).kind = (at_ p i).f0 := by rw [nd_md hi]; rfl
  have hpos : (nd (md p) i).pos = posB (at_ p i) := by rw [nd_md hi]; rfl
  have hmain : ∀ b, b = posB (at_ p i) → ∃ R, Ev (fun k => l8OnceG.j0 E k p nm f (List.replicate (nm.length + 1) false) (at_ p i).f0 b (at_ p i).f0 (at_ p i).f1 (at_ p i).f2 (at_ p i).f3) R ∧ Res nm (G1 (md p) (loT p) i) f R := by
    intro b hb
    cases b with
    | true =>
      obtain ⟨Y, hY⟩ : ∃ Y : List Bool, Y = (List.range (nm.length + 1)).map fun j => if j = 0 then false else (inS f (j - 1) && takesB p (i : Int) (nm.getD (j - 1) ByteArray.empty)) := ⟨_, rfl⟩
      have hYl : Y.length = nm.length + 1 := by rw [hY]; simp
      have hYj : ∀ j, j < nm.length + 1 → inS Y j = if j = 0 then false else (inS f (j - 1) && takesB p (i : Int) (nm.getD (j - 1) ByteArray.empty)) := by
        intro j hj
        rw [inS_get (by rw [hYl]; exact hj)]
        subst hY
        simp
      have h0 : inS Y 0 = false := by rw [hYj 0 (by omega)]; rfl
      have hs : ∀ j (h : j < nm.length), inS Y (j + 1) = (inS f j && takesB p (i : Int) nm[j]) := by
        intro j h
        rw [hYj (j + 1) (by omega), if_neg (by omega)]
        simp [h]
      have hgo := once_pos (E := E) hnm hb.symm hf hYl h0 hs nm.length 0 (List.replicate (nm.length + 1) false) (Nat.zero_add _) ⟨by rw [hYl]; simp, fun j h1 h2 => by
        have : j = 0 := by omega
        rw [this, inS_rep, h0], fun j _ _ => rfl⟩
      refine ⟨Y, Ev.step (fun k => ?_) hgo, ⟨hYl, fun j hj => ?_⟩⟩
      · show (if true = true then l8OnceG.l0 E k nm f (List.replicate (nm.length + 1) false) 0 (at_ p i).f0 (at_ p i).f1 (at_ p i).f2 (at_ p i).f3 else (if (at_ p i).f0 = 2 then ((some (([] : List Bool) : List Bool)).bind fun y211 => (if y211.length + f.length < 140737488355328 then (l8OnceG.l1 E k p nm (y211 ++ f) 0 (at_ p i).f0 (at_ p i).f1 (at_ p i).f2 (at_ p i).f3) else (none))) else (if (at_ p i).f0 = 3 then (l8OnceG.l2 E k p nm f (List.replicate (nm.length + 1) false) 0 (at_ p i).f0 (at_ p i).f1 (at_ p i).f2 (at_ p i).f3) else (some (List.replicate (nm.length + 1) false))))) = _
        rw [if_pos rfl]
        rfl
      · have hG := G1_pos K.tr him (by rw [hpos]; exact hb.symm)
        constructor
        · intro h
          cases j with
          | zero => rw [h0] at h; cases h
          | succ j =>
            have hjl : j < nm.length := by omega
            rw [hs j hjl, Bool.and_eq_true] at h
            refine ⟨j, by omega, h.1, (hG _).2 ⟨nm[j], seg_one hjl, ?_⟩⟩
            exact (takes_iff K hi _).1 h.2
        · rintro ⟨a, h1, h2, h3⟩
          obtain ⟨x, h4, h5⟩ := (hG _).1 h3
          have hl := seg_len h1 hj
          rw [h4] at hl
          simp at hl
          obtain rfl : j = a + 1 := by omega
          have hal : a < nm.length := by omega
          rw [seg_one hal] at h4
          injection h4 with h4
          rw [hs a hal, h2, h4, Bool.true_and]
          exact (takes_iff K hi _).2 h5
    | false =>
      have hj0 : ∀ k, l8OnceG.j0 E (k + 1) p nm f (List.replicate (nm.length + 1) false) (at_ p i).f0 false (at_ p i).f0 (at_ p i).f1 (at_ p i).f2 (at_ p i).f3 = (if (at_ p i).f0 = 2 then ((some (([] : List Bool) : List Bool)).bind fun y211 => (if y211.length + f.length < 140737488355328 then (l8OnceG.l1 E k p nm (y211 ++ f) 0 (at_ p i).f0 (at_ p i).f1 (at_ p i).f2 (at_ p i).f3) else (none))) else (if (at_ p i).f0 = 3 then (l8OnceG.l2 E k p nm f (List.replicate (nm.length + 1) false) 0 (at_ p i).f0 (at_ p i).f1 (at_ p i).f2 (at_ p i).f3) else (some (List.replicate (nm.length + 1) false)))) := fun k => rfl
      rcases K.kinds hi with ⟨a, _⟩ | a | ⟨a, _⟩
      · rw [a] at hb; cases hb
      · obtain ⟨R, h1, h2⟩ := once_seq K hi hE _ 0 f (Nat.zero_add _) hf
        refine ⟨R, Ev.step (fun k => ?_) h1, h2.congr (fun w => by rw [List.drop_zero, G1_seq K.tr him (by rw [hkind]; exact a)])⟩
        rw [hj0, if_pos a]
        simp only [Option.bind_some, List.nil_append, List.length_nil, Nat.zero_add]
        rw [if_pos (by omega)]
        rfl
      · have hz : Res nm (fun _ => False) f (List.replicate (nm.length + 1) false) := ⟨by simp, fun j _ => by
          rw [inS_rep]
          constructor
          · intro h; cases h
          · rintro ⟨_, _, _, h⟩; exact h.elim⟩
        obtain ⟨R, h1, h2⟩ := once_or K hnm hi hE f hf _ 0 _ _ (Nat.zero_add _) hz
        refine ⟨R, Ev.step (fun k => ?_) h1, h2.congr (fun w => by rw [List.drop_zero, G1_or K.tr him (by rw [hkind]; exact a), false_or])⟩
        rw [hj0, if_neg (by omega), if_pos a]
        rfl
  have hfin : ∀ b, b = posB (at_ p i) → (∀ k, l8OnceG.f E k p (i : Int) nm f = l8OnceG.j0 E k p nm f (List.replicate (nm.length + 1) false) (at_ p i).f0 b (at_ p i).f0 (at_ p i).f1 (at_ p i).f2 (at_ p i).f3) → ∃ R, Ev (fun k => l8OnceG.f E k p (i : Int) nm f) R ∧ Res nm (G1 (md p) (loT p) i) f R := by
    intro b hb he
    obtain ⟨R, h1, h2⟩ := hmain b hb
    exact ⟨R, Ev.congr he h1, h2⟩
  by_cases c1 : (at_ p i).f0 = 1
  · refine hfin true (by unfold posB; rw [c1]; rfl) (fun k => ?_)
    unfold l8OnceG.f
    rw [if_pos (by omega), Int.toNat_natCast, if_pos (by omega), Option.bind_some, if_pos (by omega), if_pos (by omega), e, if_pos c1, hf, beq_iff_eq.2 c1]
  · refine hfin ((at_ p i).f0 == 4) (by unfold posB; rw [beq_eq_false_iff_ne.2 c1, Bool.false_or]) (fun k => ?_)
    unfold l8OnceG.f
    rw [if_pos (by omega), Int.toNat_natCast, if_pos (by omega), Option.bind_some, if_pos (by omega), if_pos (by omega), e, if_neg c1, hf]
end
theorem ends_value {p : List PM} (K : OkP p) {nm : List ByteArray} (hnm : nm.length ≤ 1048570) : ∀ (d i : Nat), i < d → i < p.length → ∀ f : List Bool, f.length = nm.length + 1 → ∃ R, Ev (fun k => endsD d k p (i : Int) nm f) R ∧ Res nm (GL (md p) (loT p) i) f R
  | 0, _, h, _, _, _ => by omega
  | d + 1, i, h, hi, f, hf => ends_all (E := fun k p n nm fr => l8OnceG.f (endsD d) k p n nm fr) K hnm hi (fun X hX => once_all (E := endsD d) K hnm hi (fun k hk f hf => ends_value K hnm d k (by omega) (by omega) f hf) X hX) f hf
end Go.Proofs.Ytejkkdjfiebmfaa.Pure

namespace Go.Proofs.Ytejkkdjfiebmfaa.Pure
open Go.RowKit Go.Proofs.Ytejkkdjfiebmfaa.L Go.Proofs.YtejkkdjfiebmfaaW.PrintWords Go.Proofs.YtejkkdjfiebmfaaW.PrintLast Go.Proofs.YtejkkdjfiebmfaaW.PrintMore
open MT
set_option linter.unusedVariables false
set_option linter.unusedSimpArgs false

open Classical in
theorem spec_l8acc {p : List PM} (K : OkP p) {nm : List ByteArray} (hn : nm.length ≤ 200) : Ev (fun k => spec_l8Accepts.f k p nm) (decide (GL (md p) (loT p) (p.length - 1) nm)) := by
  have ho := K.one
  have hm := K.most
  have hw : wrap64 ((nm.length : Int) + 1) = ((nm.length + 1 : Nat) : Int) := by rw [w64] <;> omega
  have hw2 : wrap64 ((p.length : Int) - 1) = ((p.length - 1 : Nat) : Int) := by rw [w64] <;> omega
  obtain ⟨f, hf⟩ : ∃ f : List Bool, f = (List.replicate (nm.length + 1) false).set 0 true := ⟨_, rfl⟩
  have hfl : f.length = nm.length + 1 := by rw [hf]; simp
  have hfm : ∀ a, a < nm.length + 1 → (inS f a = true ↔ a = 0) := by
    intro a ha
    rw [hf, inS_set (by simp) true (by simp; exact ha)]
    by_cases c : a = 0
    · rw [if_pos c]; simp [c]
    · rw [if_neg c, inS_rep]; simp [c]
  obtain ⟨R, h1, h2⟩ := ends_value K (nm := nm) (by omega) (p.length + 1) (p.length - 1) (by omega) (by omega) f hfl
  have hseg : seg nm 0 nm.length = nm := by unfold seg; simp
  have hR : rdOf false R (nm.length : Int) = decide (GL (md p) (loT p) (p.length - 1) nm) := by
    apply Bool.eq_iff_iff.2
    rw [decide_eq_true_eq]
    show inS R nm.length = true ↔ _
    rw [h2.mem nm.length (Nat.le_refl _)]
    constructor
    · rintro ⟨a, h3, h4, h5⟩
      obtain rfl := (hfm a (by omega)).1 h4
      rwa [hseg] at h5
    · intro h
      exact ⟨0, Nat.zero_le _, (hfm 0 (by omega)).2 rfl, by rw [hseg]; exact h⟩
  refine Ev.congr (f := fun k => (endsD (p.length + 1) k p ((p.length - 1 : Nat) : Int) nm f).bind fun t => (if 0 ≤ (nm.length : Int) then (if (nm.length : Int) < (t.length : Int) then (some (rdOf false t (nm.length : Int))) else none) else none)) (fun k => ?_) (Ev.bind h1 ?_)
  · unfold spec_l8Accepts.f
    rw [hw, hw2, if_pos (by omega), Int.toNat_natCast, if_pos (by omega)]
    simp only [Option.bind_some]
    rw [if_pos (by simp)]
    rw [show ((0 : Int)).toNat = 0 from rfl, ← hf]
    rfl
  · rw [if_pos (by omega), if_pos (by rw [h2.len]; omega), hR]
    exact Ev.now _
open Classical in
theorem spec_accepts (p : List PM) (hs : smallM p) (w : List ByteArray) : Ev (fun k => spec_Accepts.f k p w) (accV p w) := by
  have h2 := spec_ok p hs
  unfold accV
  cases h : okV p with
  | false =>
    rw [h] at h2
    rw [Bool.false_and]
    exact Ev.bind h2 (Ev.now _)
  | true =>
    rw [h] at h2
    rw [Bool.true_and]
    refine Ev.bind h2 ?_
    simp only [if_true]
    by_cases hl : w.length ≤ 200
    · rw [decide_eq_true hl, Bool.true_and]
      refine Ev.congr (f := fun k => (spec_l8Accepts.f k p w).bind fun t => some t) (fun k => ?_) (Ev.bind (spec_l8acc (okP h) hl) (Ev.now _))
      rw [if_pos (by omega)]
    · rw [decide_eq_false hl, Bool.false_and]
      refine Ev.congr (f := fun _ => some false) (fun k => ?_) (Ev.now _)
      rw [if_neg (by omega)]
end Go.Proofs.Ytejkkdjfiebmfaa.Pure

namespace Go.Proofs.Ytejkkdjfiebmfaa.O
open Go.RowKit Go.Proofs.Ytejkkdjfiebmfaa.L Go.Proofs.YtejkkdjfiebmfaaW.PrintWords Go.Proofs.YtejkkdjfiebmfaaW.PrintLast Go.Proofs.YtejkkdjfiebmfaaW.PrintMore
set_option linter.unusedVariables false
set_option linter.unusedSimpArgs false

/-- Whatever reads as a datum of type t is a d, and is ok. -/
def Opens {H α : Type} (enc : TypeId × Value → H) (P : Program) (w : World) (base : Nat) (sp : Nat → Bool) (held : Bool) (t : TypeId) (d : Kd α) (ok : α → Prop) : Prop :=
  ∀ n cs x, DataW.trod enc P w base sp held n t cs = some x → ∃ a, d.K w a cs ∧ ok a
section
variable {H : Type} {enc : TypeId × Value → H} {P : Program} {w : World} {base : Nat} {sp : Nat → Bool} {held : Bool} {t : TypeId}
theorem opens_string (ht : P.underlying t = some .string) : Opens enc P w base sp held t Kd.string (fun s => s.size ≤ maxLen) := by
  intro n cs x h
  obtain ⟨s, rfl, _, hs⟩ := DataW.trod_string ht h
  exact ⟨s, rfl, hs⟩
theorem opens_int {k : IntKind} (ht : P.underlying t = some (.int k)) : Opens enc P w base sp held t (Kd.int k) (fun n => (Lit.int k n).wf = true) := by
  intro n cs x h
  obtain ⟨s, rfl, _, hs⟩ := DataW.trod_int ht h
  exact ⟨s, rfl, hs⟩
theorem rows_of {α : Type} {d : Kd α} {ok : α → Prop} {a : Addr} (len : Nat) (h : ∀ i, i < len → ∃ cs x, w.cells? base (a.add (i * d.sz)) d.sz = some cs ∧ d.K w x cs ∧ ok x) :
    ∃ xs : List α, xs.length = len ∧ ∀ i x, xs[i]? = some x → ok x ∧ ∃ cs, w.cells? base (a.add (i * d.sz)) d.sz = some cs ∧ d.K w x cs := by
  induction len with
  | zero => exact ⟨[], rfl, fun i x hx => by simp at hx⟩
  | succ m ih =>
    obtain ⟨xs, hl, hx⟩ := ih fun i hi => h i (by omega)
    obtain ⟨cs, x, hc, hk, ho⟩ := h m (by omega)
    refine ⟨xs ++ [x], by simp [hl], fun i y hy => ?_⟩
    by_cases hi : i < m
    · rw [List.getElem?_append_left (by omega)] at hy
      exact hx i y hy
    · have hlt := (List.getElem?_eq_some_iff.1 hy).1
      simp only [List.length_append, List.length_singleton, hl] at hlt
      have : i = m := by omega
      subst this
      rw [List.getElem?_append_right (by omega), hl] at hy
      simp at hy
      subst hy
      exact ⟨ho, cs, hc, hk⟩
theorem opens_slice {α : Type} {e : TypeId} {d : Kd α} {ok : α → Prop} (e' : Nat) (ht : P.underlying t = some (.slice e)) (hc : P.cellsOf e = d.sz)
    (ho : Opens enc P w base sp held e d ok) : Opens enc P w base sp held t (Kd.slice e' d) (fun xs => xs.length ≤ maxLen ∧ ∀ x ∈ xs, ok x) := by
  intro n cs x h
  rcases DataW.trod_slice ht h with ⟨rfl, _⟩ | ⟨a, len, cap, elems, rest, m, _, rfl, _, hb, hl, hm, hlen, hel, _, _⟩
  · exact ⟨[], ⟨none, 0, rfl, by simp, Kd.C_nil d w⟩, by simp [maxLen], fun x hx => by cases hx⟩
  · rw [hc] at hel
    obtain ⟨xs, hxl, hx⟩ := rows_of (w := w) (base := base) (d := d) (ok := ok) (a := a) len (fun i hi => by
      have h1 := hel i hi
      rw [List.getElem?_eq_getElem (by omega), Option.bind_eq_some_iff] at h1
      obtain ⟨cs, hcs, htr⟩ := h1
      obtain ⟨y, hk, hok⟩ := ho m cs _ htr
      exact ⟨cs, y, hcs, hk, hok⟩)
    refine ⟨xs, ⟨some a, cap, by rw [hxl], by omega, ?_⟩, by omega, fun x hx' => ?_⟩
    · refine ⟨rfl, by unfold maxLen at hm; omega, fun _ => ⟨a, rfl, fun j p hp => ?_⟩⟩
      obtain ⟨_, cs, hcs, hk⟩ := hx j p hp
      obtain ⟨_, hcl, hcell⟩ := World.cells?_some hcs
      refine ⟨cs, hcl, hk, fun i u hu => ?_⟩
      have hlt := (List.getElem?_eq_some_iff.1 hu).1
      have := hcell i (by omega)
      rw [hu] at this
      rw [← this]
      have e : a.add (j * d.sz + i) = (a.add (j * d.sz)).add i := (Addr.add_add a _ _).symm
      rw [e]
    · obtain ⟨i, hi⟩ := List.getElem?_of_mem hx'
      exact (hx i x hi).1
/-- A struct's fields, one cell each. -/
theorem field_cell {fs : Array Field} {cs : List Value} {x : DataW H × List MemPlace} {fuel : Nat} (ht : P.underlying t = some (.struct fs)) (h : DataW.trod enc P w base sp held fuel t cs = some x)
    (i : Nat) (f : Field) (hf : fs[i]? = some f) (hof : f.offset = i) (hcf : P.cellsOf f.type = 1) : ∃ n y, DataW.trod enc P w base sp held n f.type ((cs.drop i).take 1) = some y := by
  obtain ⟨xs, n, _, _, _, hxl, hall⟩ := DataW.trod_struct ht h
  have := hall i f hf
  have hlt := (Array.getElem?_eq_some_iff.1 hf).1
  rw [hof, hcf, List.getElem?_eq_getElem (by omega)] at this
  exact ⟨n, _, this⟩
end
/-- What a model's node that came in reads as. -/
def okPn (x : S46) : Prop := x.f1.size ≤ maxLen ∧ x.f2.length ≤ maxLen
theorem opens_pnode {H : Type} {enc : TypeId × Value → H} {w : World} {base : Nat} {sp : Nat → Bool} {held : Bool} :
    Opens enc Try.prog w base sp held 46 k46 okPn := by
  intro n cs x h
  have hl : cs.length = 4 := by
    obtain ⟨_, _, _, _, hcl, _, _⟩ := DataW.trod_struct Try.underlying46 h
    exact hcl.trans (by kernel_rfl)
  obtain ⟨n0, y0, h0⟩ := field_cell Try.underlying46 h 0 _ rfl rfl (by kernel_rfl)
  obtain ⟨n1, y1, h1⟩ := field_cell Try.underlying46 h 1 _ rfl rfl (by kernel_rfl)
  obtain ⟨n2, y2, h2⟩ := field_cell Try.underlying46 h 2 _ rfl rfl (by kernel_rfl)
  obtain ⟨n3, y3, h3⟩ := field_cell Try.underlying46 h 3 _ rfl rfl (by kernel_rfl)
  clear h
  obtain ⟨s0, e0, o0⟩ := opens_int (enc := enc) (base := base) (sp := sp) (held := held) (w := w) (k := .i64) Try.underlying2 _ _ _ h0
  obtain ⟨s1, e1, o1⟩ := opens_string (enc := enc) (base := base) (sp := sp) (held := held) (w := w) Try.underlying9 _ _ _ h1
  obtain ⟨s2, ⟨A2, c2, e2, l2, g2⟩, o2⟩ := opens_slice (enc := enc) (base := base) (sp := sp) (held := held) (w := w) 2 Try.underlying24 (by kernel_rfl) (opens_int (k := .i64) Try.underlying2) _ _ _ h2
  obtain ⟨s3, e3, o3⟩ := opens_int (enc := enc) (base := base) (sp := sp) (held := held) (w := w) (k := .i64) Try.underlying2 _ _ _ h3
  match cs, hl with
  | [c0, c1, c2', c3], _ =>
    obtain rfl : c0 = Value.int .i64 s0 := (List.cons.inj (show [c0] = [Value.int .i64 s0] from e0)).1
    obtain rfl : c1 = Value.string s1 := (List.cons.inj (show [c1] = [Value.string s1] from e1)).1
    obtain rfl : c2' = Value.slice A2 s2.length c2 := (List.cons.inj (show [c2'] = [Value.slice A2 s2.length c2] from e2)).1
    obtain rfl : c3 = Value.int .i64 s3 := (List.cons.inj (show [c3] = [Value.int .i64 s3] from e3)).1
    exact ⟨⟨s0, s1, s2, s3⟩, k46_mk w ⟨s0, s1, s2, s3⟩ l2 g2, o1, o2.1⟩
end Go.Proofs.Ytejkkdjfiebmfaa.O

namespace Go.Proofs.Ytejkkdjfiebmfaa.L
open Go.RowKit Go.Proofs.YtejkkdjfiebmfaaW.PrintWords Go.Proofs.YtejkkdjfiebmfaaW.PrintLast Go.Proofs.YtejkkdjfiebmfaaW.PrintMore
set_option linter.unusedVariables false
set_option linter.unusedSimpArgs false

abbrev SPn : Type := S49
/-- The row in the midst of a round: node i's kids, and what stands behind it, are as they were. -/
structure Mid (W : World) (base g n cap : Nat) (ok : Nat → Prop) (i : Nat) (a : List Int) (d cur : List SPn) : Prop where
  s : Kd.S k49 49 W base ok (.slice (some ⟨g, 0, none⟩) n cap) cur
  len : cur.length = n
  at_ : ∀ h : i < cur.length, cur[i].f2 = a
  rest : cur.drop (i + 1) = d
theorem Mid.below {W w1 : World} {base g n cap i : Nat} {ok : Nat → Prop} {a : List Int} {d cur : List SPn} (h : Mid W base g n cap ok i a d cur) (hb : Below W.heap.size W w1) : Mid w1 base g n cap ok i a d cur := ⟨Kd.S_below h.s hb, h.len, h.at_, h.rest⟩
end Go.Proofs.Ytejkkdjfiebmfaa.L

namespace Go.Proofs.Ytejkkdjfiebmfaa.Pure
open Go.RowKit Go.Proofs.Ytejkkdjfiebmfaa.L Go.Proofs.Ytejkkdjfiebmfaa.O Go.Proofs.YtejkkdjfiebmfaaW.PrintWords Go.Proofs.YtejkkdjfiebmfaaW.PrintLast Go.Proofs.YtejkkdjfiebmfaaW.PrintMore
set_option linter.unusedVariables false
set_option linter.unusedSimpArgs false

abbrev LPn : Type := S46
theorem rdLP (l : List LPn) (i : Nat) (h : i < l.length) : rd_T46 l (i : Int) = l[i] := by
  unfold rd_T46
  simp [h]
theorem rdPn (l : List PM) (i : Nat) (h : i < l.length) : rd_T49 l (i : Int) = l[i] := at_lt h
theorem wsub {c : Int} {m : Nat} (h0 : 0 ≤ c) (h1 : c ≤ 1048576) (hm : m ≤ 9223372036854775807) : wrap64 (c - (m : Int)) = c - m := by rw [w64] <;> omega
theorem mxLen : maxLen = 9223372036854775807 := by decide
def convP (x : LPn) : PM := ⟨x.f0, x.f1, x.f2, x.f3⟩
def smallP (x : PM) : Prop := x.f1.data.toList.length ≤ 1048576 ∧ x.f2.length ≤ 1048576
theorem set_mid {α : Type} (u : List α) (z v : α) (r : List α) : (u ++ z :: r).set u.length v = u ++ v :: r := by
  induction u with
  | nil => rfl
  | cons a u ih => simp [ih]
theorem set_copy {α β : Type} (f : α → β) (l : List α) (z : β) (i m : Nat) (h : i < l.length) : ((l.take i).map f ++ List.replicate (m + 1) z).set i (f l[i]) = (l.take (i + 1)).map f ++ List.replicate m z := by
  have hl : ((l.take i).map f).length = i := by simp; omega
  have := set_mid ((l.take i).map f) z (f l[i]) (List.replicate m z)
  rw [hl] at this
  rw [List.replicate_succ, this]
  rw [List.take_succ_eq_append_getElem h, List.map_append]
  simp
/-! #### sizes -/
theorem szZ (l : List Int) (hl : l.length ≤ 9223372036854775807) (c : Int) (h0 : 0 ≤ c) (h1 : c ≤ 1048576) : ∃ v, laws_szInt64S.f l c = some v ∧ (v < 0 ∨ (0 ≤ v ∧ v ≤ c ∧ l.length ≤ 1048576)) := by
  have hw := wsub h0 h1 hl
  unfold laws_szInt64S.f
  rw [hw]
  by_cases c0 : c - (l.length : Int) < 0
  · exact ⟨-1, by rw [if_pos c0], .inl (by decide)⟩
  · exact ⟨c - (l.length : Int), by rw [if_neg c0], .inr ⟨by omega, by omega, by omega⟩⟩
theorem szPn (x : LPn) (ok : okPn x) (c : Int) (h0 : 0 ≤ c) (h1 : c ≤ 1048576) :
    ∃ v, laws_szPNode.f x.f0 x.f1 x.f2 x.f3 c = some v ∧ (v < 0 ∨ (0 ≤ v ∧ v ≤ c ∧ smallP (convP x))) := by
  obtain ⟨o1, o2⟩ := ok
  rw [mxLen] at o1 o2
  have hw := wsub h0 h1 o1
  unfold laws_szPNode.f
  rw [hw]
  by_cases c0 : c - (x.f1.size : Int) < 0
  · exact ⟨-1, by rw [if_pos c0], .inl (by decide)⟩
  · obtain ⟨v, hv, hr⟩ := szZ x.f2 o2 (c - (x.f1.size : Int)) (by omega) (by omega)
    rw [if_neg c0, hv]
    simp only [Option.bind_some]
    rcases hr with h | ⟨a, b, d⟩
    · exact ⟨-1, by rw [if_pos h], .inl (by decide)⟩
    · exact ⟨v, by rw [if_neg (by omega)], .inr ⟨a, by omega, by show x.f1.data.toList.length ≤ _; rw [← sz]; omega, d⟩⟩
theorem szPS_l0 (l : List LPn) (hl : l.length ≤ 9223372036854775807) (hs : ∀ s ∈ l, okPn s) : ∀ (n i : Nat) (c : Int), i + n = l.length → 0 ≤ c → c ≤ 1048576 →
    ∃ v, Ev (fun k => laws_szPNodeS.l0 k l c (i : Int)) v ∧ (v < 0 ∨ (0 ≤ v ∧ v ≤ c ∧ ∀ s ∈ l.drop i, smallP (convP s))) := by
  intro n
  induction n with
  | zero =>
    intro i c hi h0 h1
    refine ⟨c, Ev.step (f := fun _ => some c) (fun k => ?_) (Ev.now _), .inr ⟨h0, Int.le_refl _, ?_⟩⟩
    · unfold laws_szPNodeS.l0
      rw [if_neg (by omega)]
    · rw [List.drop_of_length_le (by omega)]; intro s hs; cases hs
  | succ n ih =>
    intro i c hi h0 h1
    have hlt : i < l.length := by omega
    obtain ⟨v, hv, hr⟩ := szPn l[i] (hs _ (List.getElem_mem hlt)) c h0 h1
    have hf : ∀ k, laws_szPNodeS.l0 (k + 1) l c (i : Int) = if v < 0 then (some (-1)) else (laws_szPNodeS.l0 k l v ((i + 1 : Nat) : Int)) := by
      intro k
      conv => lhs; unfold laws_szPNodeS.l0
      rw [if_pos (by omega), if_pos (by omega), rdLP l i hlt, w1n hlt hl, hv, Option.bind_some]
    rcases hr with h | ⟨a, b, d⟩
    · refine ⟨-1, Ev.step hf ?_, .inl (by decide)⟩
      simp only [if_pos h]
      exact Ev.now _
    · obtain ⟨v2, hv2, hr2⟩ := ih (i + 1) v (by omega) a (by omega)
      refine ⟨v2, Ev.step hf ?_, ?_⟩
      · simp only [if_neg (show ¬ v < 0 by omega)]
        exact hv2
      · rcases hr2 with h | ⟨a2, b2, d2⟩
        · exact .inl h
        · refine .inr ⟨a2, by omega, fun s hs => ?_⟩
          rw [List.drop_eq_getElem_cons hlt] at hs
          rcases List.mem_cons.1 hs with e | e
          · subst e; exact d
          · exact d2 s e
theorem szPS (l : List LPn) (hl : l.length ≤ 9223372036854775807) (hs : ∀ s ∈ l, okPn s) :
    ∃ v, Ev (fun k => laws_szPNodeS.f k l 1048576) v ∧ (v < 0 ∨ (0 ≤ v ∧ v ≤ 1048576 ∧ l.length ≤ 1048576 ∧ ∀ s ∈ l, smallP (convP s))) := by
  have hw := wsub (c := 1048576) (by decide) (by decide) hl
  by_cases c0 : (1048576 : Int) - (l.length : Int) < 0
  · refine ⟨-1, Ev.congr (f := fun _ => some (-1)) (fun k => ?_) (Ev.now _), .inl (by decide)⟩
    unfold laws_szPNodeS.f
    rw [hw, if_pos c0]
  · obtain ⟨v, hv, hr⟩ := szPS_l0 l hl hs l.length 0 (1048576 - (l.length : Int)) (by omega) (by omega) (by omega)
    refine ⟨v, Ev.congr (f := fun k => laws_szPNodeS.l0 k l (1048576 - (l.length : Int)) ((0 : Nat) : Int)) (fun k => ?_) hv, ?_⟩
    · unfold laws_szPNodeS.f
      rw [hw, if_neg c0]
      rfl
    · rcases hr with h | ⟨a, b, d⟩
      · exact .inl h
      · exact .inr ⟨a, by omega, by omega, by simpa using d⟩
/-! #### copies -/
theorem toZ_l0 (l : List Int) (hl : l.length ≤ 9223372036854775807) : ∀ (n i : Nat), i + n = l.length →
    Ev (fun k => laws_toInt64S.l0 k l ((l.take i).map id ++ List.replicate n 0) (i : Int)) (l.map id) := by
  intro n
  induction n with
  | zero =>
    intro i hi
    have e : (l.take i).map id ++ List.replicate 0 (0 : Int) = l.map id := by rw [List.take_of_length_le (by omega)]; simp
    rw [e]
    refine Ev.step (f := fun _ => some (l.map id)) (fun k => ?_) (Ev.now _)
    unfold laws_toInt64S.l0
    rw [if_neg (by omega)]
  | succ n ih =>
    intro i hi
    have hlt : i < l.length := by omega
    refine Ev.step (f := fun k => laws_toInt64S.l0 k l ((l.take (i + 1)).map id ++ List.replicate n 0) ((i + 1 : Nat) : Int)) (fun k => ?_) (ih (i + 1) (by omega))
    conv => lhs; unfold laws_toInt64S.l0
    have hlen : ((l.take i).map id ++ List.replicate (n + 1) (0 : Int)).length = l.length := by simp; omega
    rw [if_pos (by omega), if_pos (by omega), hlen, if_pos (by omega), rdZ l i hlt, w1n hlt hl, Int.toNat_natCast]
    have := set_copy (id : Int → Int) l 0 i n hlt
    rw [show id l[i] = l[i] from rfl] at this
    rw [this]
theorem toZ (l : List Int) (hl : l.length ≤ 1048576) : Ev (fun k => laws_toInt64S.f k l) l := by
  have h := toZ_l0 l (by omega) l.length 0 (by omega)
  rw [show l.map id = l from List.map_id l] at h
  refine Ev.congr (fun k => ?_) h
  unfold laws_toInt64S.f
  rw [if_pos (by omega), Int.toNat_natCast, if_pos (by omega)]
  simp
theorem toP_l0 (l : List LPn) (hl : l.length ≤ 1048576) (hs : ∀ s ∈ l, smallP (convP s)) : ∀ (n i : Nat), i + n = l.length →
    Ev (fun k => laws_toPNodeS.l0 k l ((l.take i).map convP ++ List.replicate n z49) (i : Int)) (l.map convP) := by
  intro n
  induction n with
  | zero =>
    intro i hi
    have e : (l.take i).map convP ++ List.replicate 0 z49 = l.map convP := by rw [List.take_of_length_le (by omega)]; simp
    rw [e]
    refine Ev.step (f := fun _ => some (l.map convP)) (fun k => ?_) (Ev.now _)
    unfold laws_toPNodeS.l0
    rw [if_neg (by omega)]
  | succ n ih =>
    intro i hi
    have hlt : i < l.length := by omega
    have hsm := hs _ (List.getElem_mem hlt)
    have ht := toZ l[i].f2 hsm.2
    have hlen : ((l.take i).map convP ++ List.replicate (n + 1) z49).length = l.length := by simp; omega
    have hset := set_copy convP l z49 i n hlt
    refine Ev.step (f := fun k => (laws_toInt64S.f k l[i].f2).bind fun t => laws_toPNodeS.l0 k l (((l.take i).map convP ++ List.replicate (n + 1) z49).set i (⟨l[i].f0, l[i].f1, t, l[i].f3⟩ : PM)) ((i + 1 : Nat) : Int)) (fun k => ?_) (Ev.bind ht ?_)
    · conv => lhs; unfold laws_toPNodeS.l0
      rw [if_pos (by omega), if_pos (by omega), rdLP l i hlt]
      unfold laws_toPNode.f
      cases laws_toInt64S.f k l[i].f2 with
      | none => rfl
      | some t =>
        simp only [Option.bind_some]
        rw [hlen, if_pos (by omega), w1n hlt (by omega), Int.toNat_natCast]
    · rw [show (⟨l[i].f0, l[i].f1, l[i].f2, l[i].f3⟩ : PM) = convP l[i] from rfl, hset]
      exact ih (i + 1) (by omega)
theorem toPS (l : List LPn) (hl : l.length ≤ 1048576) (hs : ∀ s ∈ l, smallP (convP s)) : Ev (fun k => laws_toPNodeS.f k l) (l.map convP) := by
  refine Ev.congr (f := fun k => laws_toPNodeS.l0 k l ((l.take 0).map convP ++ List.replicate l.length z49) ((0 : Nat) : Int)) (fun k => ?_) (toP_l0 l hl hs l.length 0 (by omega))
  unfold laws_toPNodeS.f
  rw [if_pos (by omega), Int.toNat_natCast, if_pos (by omega)]
  simp
/-! #### equal to themselves -/
theorem eqZ_l0 (l : List Int) (hl : l.length ≤ 1048576) : ∀ (n i : Nat), i + n = l.length → Ev (fun k => laws_eqInt64S.l0 k l l (i : Int)) true := by
  intro n
  induction n with
  | zero =>
    intro i hi
    refine Ev.step (f := fun _ => some true) (fun k => ?_) (Ev.now _)
    conv => lhs; unfold laws_eqInt64S.l0
    rw [if_neg (by omega)]
  | succ n ih =>
    intro i hi
    have hlt : i < l.length := by omega
    refine Ev.step (fun k => ?_) (ih (i + 1) (by omega))
    conv => lhs; unfold laws_eqInt64S.l0
    rw [if_pos (by omega), if_pos (by omega), if_pos (by omega), if_pos rfl, w1n hlt (by omega)]
theorem eqZ (l : List Int) (hl : l.length ≤ 1048576) : Ev (fun k => laws_eqInt64S.f k l l) true := by
  refine Ev.congr (fun k => ?_) (eqZ_l0 l hl l.length 0 (by omega))
  unfold laws_eqInt64S.f
  rw [if_pos rfl]
  rfl
theorem eqP_l0 (l : List PM) (hl : l.length ≤ 1048576) (hs : ∀ s ∈ l, smallP s) : ∀ (n i : Nat), i + n = l.length → Ev (fun k => laws_eqPNodeS.l0 k l l (i : Int)) true := by
  intro n
  induction n with
  | zero =>
    intro i hi
    refine Ev.step (f := fun _ => some true) (fun k => ?_) (Ev.now _)
    conv => lhs; unfold laws_eqPNodeS.l0
    rw [if_neg (by omega)]
  | succ n ih =>
    intro i hi
    have hlt : i < l.length := by omega
    have ha := eqZ l[i].f2 (hs _ (List.getElem_mem hlt)).2
    refine Ev.step (f := fun k => (laws_eqInt64S.f k l[i].f2 l[i].f2).bind fun t => (if t = true then (laws_eqPNodeS.l0 k l l ((i + 1 : Nat) : Int)) else (some false))) (fun k => ?_) (Ev.bind ha ?_)
    · conv => lhs; unfold laws_eqPNodeS.l0
      rw [if_pos (by omega), if_pos (by omega), if_pos (by omega), rdPn l i hlt]
      unfold laws_eqPNode.f
      rw [if_pos rfl, if_pos rfl, w1n hlt (by omega)]
      cases laws_eqInt64S.f k l[i].f2 l[i].f2 with
      | none => rfl
      | some t => cases t <;> simp
    · simp only [if_true]
      exact ih (i + 1) (by omega)
theorem eqPS (l : List PM) (hl : l.length ≤ 1048576) (hs : ∀ s ∈ l, smallP s) : Ev (fun k => laws_eqPNodeS.f k l l) true := by
  refine Ev.congr (fun k => ?_) (eqP_l0 l hl hs l.length 0 (by omega))
  unfold laws_eqPNodeS.f
  rw [if_pos rfl]
  rfl
/-! #### marks -/
/-! numbers -/
theorem rdB (l : List ByteArray) (i : Nat) (h : i < l.length) : rdOf ByteArray.empty l (i : Int) = l[i] := by
  unfold rdOf
  simp [h]
theorem w64s {i m : Nat} (h : i < m) (hm : m ≤ 9223372036854775807) : wrap64 ((i : Int) + 1) = ((i + 1 : Nat) : Int) := by rw [w64] <;> omega
theorem szS_l0 (l : List ByteArray) (hl : l.length ≤ 9223372036854775807) (hs : ∀ s ∈ l, s.size ≤ 9223372036854775807) : ∀ (n i : Nat) (c : Int), i + n = l.length → 0 ≤ c → c ≤ 1048576 →
    ∃ v, Ev (fun k => laws_szStringS.l0 k l c (i : Int)) v ∧ (v < 0 ∨ (0 ≤ v ∧ v ≤ c ∧ ∀ s ∈ l.drop i, s.size ≤ 1048576)) := by
  intro n
  induction n with
  | zero =>
    intro i c hi h0 h1
    refine ⟨c, Ev.step (f := fun _ => some c) (fun k => ?_) (Ev.now _), .inr ⟨h0, Int.le_refl _, ?_⟩⟩
    · unfold laws_szStringS.l0
      rw [if_neg (by omega)]
    · rw [List.drop_of_length_le (by omega)]; intro s hs; cases hs
  | succ n ih =>
    intro i c hi h0 h1
    have hlt : i < l.length := by omega
    have hsz := hs l[i] (List.getElem_mem hlt)
    have hw := wsub h0 h1 hsz
    by_cases c0 : c - (l[i].size : Int) < 0
    · refine ⟨-1, Ev.step (f := fun _ => some (-1)) (fun k => ?_) (Ev.now _), .inl (by decide)⟩
      conv => lhs; unfold laws_szStringS.l0
      rw [if_pos (by omega), if_pos (by omega), rdB l i hlt, hw, if_pos c0]
    · obtain ⟨v, hv, hr⟩ := ih (i + 1) (c - (l[i].size : Int)) (by omega) (by omega) (by omega)
      refine ⟨v, Ev.step (f := fun k => laws_szStringS.l0 k l (c - (l[i].size : Int)) ((i + 1 : Nat) : Int)) (fun k => ?_) hv, ?_⟩
      · conv => lhs; unfold laws_szStringS.l0
        rw [if_pos (by omega), if_pos (by omega), rdB l i hlt, hw, if_neg c0, w64s hlt hl]
      · rcases hr with h | ⟨a, b, d⟩
        · exact .inl h
        · refine .inr ⟨a, by omega, fun s hs => ?_⟩
          rw [List.drop_eq_getElem_cons hlt] at hs
          rcases List.mem_cons.1 hs with e | e
          · subst e; omega
          · exact d s e
def smallS (l : List ByteArray) : Prop := l.length ≤ 1048576 ∧ ∀ s ∈ l, s.size ≤ 1048576
theorem szS (l : List ByteArray) (hl : l.length ≤ 9223372036854775807) (hs : ∀ s ∈ l, s.size ≤ 9223372036854775807) (c : Int) (h0 : 0 ≤ c) (h1 : c ≤ 1048576) :
    ∃ v, Ev (fun k => laws_szStringS.f k l c) v ∧ (v < 0 ∨ (0 ≤ v ∧ v ≤ c ∧ smallS l)) := by
  have hw := wsub h0 h1 hl
  by_cases c0 : c - (l.length : Int) < 0
  · refine ⟨-1, Ev.congr (f := fun _ => some (-1)) (fun k => ?_) (Ev.now _), .inl (by decide)⟩
    unfold laws_szStringS.f
    rw [hw, if_pos c0]
  · obtain ⟨v, hv, hr⟩ := szS_l0 l hl hs l.length 0 (c - (l.length : Int)) (by omega) (by omega) (by omega)
    refine ⟨v, Ev.congr (f := fun k => laws_szStringS.l0 k l (c - (l.length : Int)) ((0 : Nat) : Int)) (fun k => ?_) hv, ?_⟩
    · unfold laws_szStringS.f
      rw [hw, if_neg c0]
      rfl
    · rcases hr with h | ⟨a, b, d⟩
      · exact .inl h
      · exact .inr ⟨a, by omega, by omega, by simpa using d⟩
theorem toS_l0 (l : List ByteArray) (hl : l.length ≤ 9223372036854775807) : ∀ (n i : Nat), i + n = l.length →
    Ev (fun k => laws_toStringS.l0 k l ((l.take i).map id ++ List.replicate n (⟨#[]⟩ : ByteArray)) (i : Int)) l := by
  intro n
  induction n with
  | zero =>
    intro i hi
    have e : (l.take i).map id ++ List.replicate 0 (⟨#[]⟩ : ByteArray) = l := by rw [List.take_of_length_le (by omega)]; simp
    rw [e]
    refine Ev.step (f := fun _ => some l) (fun k => ?_) (Ev.now _)
    unfold laws_toStringS.l0
    rw [if_neg (by omega)]
  | succ n ih =>
    intro i hi
    have hlt : i < l.length := by omega
    refine Ev.step (f := fun k => laws_toStringS.l0 k l ((l.take (i + 1)).map id ++ List.replicate n (⟨#[]⟩ : ByteArray)) ((i + 1 : Nat) : Int)) (fun k => ?_) (ih (i + 1) (by omega))
    conv => lhs; unfold laws_toStringS.l0
    have hlen : ((l.take i).map id ++ List.replicate (n + 1) (⟨#[]⟩ : ByteArray)).length = l.length := by simp; omega
    rw [if_pos (by omega), if_pos (by omega), hlen, if_pos (by omega), rdB l i hlt, w64s hlt hl, Int.toNat_natCast]
    have := set_copy id l (⟨#[]⟩ : ByteArray) i n hlt
    rw [show id l[i] = l[i] from rfl] at this
    rw [this]
theorem toS (l : List ByteArray) (hl : l.length ≤ 1048576) : Ev (fun k => laws_toStringS.f k l) l := by
  refine Ev.congr (f := fun k => laws_toStringS.l0 k l ((l.take 0).map id ++ List.replicate l.length (⟨#[]⟩ : ByteArray)) ((0 : Nat) : Int)) (fun k => ?_) (toS_l0 l (by omega) l.length 0 (by omega))
  unfold laws_toStringS.f
  rw [if_pos (by omega), Int.toNat_natCast, if_pos (by omega)]
  simp
theorem eqS_l0 (l : List ByteArray) (hl : l.length ≤ 9223372036854775807) : ∀ (n i : Nat), i + n = l.length → Ev (fun k => laws_eqStringS.l0 k l l (i : Int)) true := by
  intro n
  induction n with
  | zero =>
    intro i hi
    refine Ev.step (f := fun _ => some true) (fun k => ?_) (Ev.now _)
    unfold laws_eqStringS.l0
    rw [if_neg (by omega)]
  | succ n ih =>
    intro i hi
    have hlt : i < l.length := by omega
    refine Ev.step (f := fun k => laws_eqStringS.l0 k l l ((i + 1 : Nat) : Int)) (fun k => ?_) (ih (i + 1) (by omega))
    conv => lhs; unfold laws_eqStringS.l0
    rw [if_pos (by omega), if_pos (by omega), if_pos (by omega), if_pos rfl, w64s hlt hl]
theorem eqS (l : List ByteArray) (hl : l.length ≤ 1048576) : Ev (fun k => laws_eqStringS.f k l l) true := by
  refine Ev.congr (f := fun k => laws_eqStringS.l0 k l l ((0 : Nat) : Int)) (fun k => ?_) (eqS_l0 l (by omega) l.length 0 (by omega))
  unfold laws_eqStringS.f
  rw [if_pos rfl]
  rfl
end Go.Proofs.Ytejkkdjfiebmfaa.Pure

namespace Go.Proofs.Ytejkkdjfiebmfaa.L
open Go.RowKit Go.Proofs.Ytejkkdjfiebmfaa.O Go.Proofs.YtejkkdjfiebmfaaW.PrintWords Go.Proofs.YtejkkdjfiebmfaaW.PrintLast Go.Proofs.YtejkkdjfiebmfaaW.PrintMore
set_option linter.unusedVariables false
def laws_FnExactAccepts.Pure : Prop := ∀ (l : List S46) (s : List ByteArray), l.length ≤ 9223372036854775807 → (∀ x ∈ l, okPn x) → s.length ≤ 9223372036854775807 → (∀ x ∈ s, x.size ≤ maxLen) → ∃ k, laws_FnExactAccepts.f k l s = some true
theorem laws_FnExactAccepts.walk (P : laws_FnExactAccepts.Pure) (A0 : Option Addr) (c0 : Nat) (l : List S46) (A1 : Option Addr) (c1 : Nat) (s : List ByteArray) (w : World) (hr : Kd.C k46 w A0 l.length l) (hc : l.length ≤ c0) (hl : l.length ≤ 9223372036854775807) (ok : ∀ x ∈ l, okPn x) (hr1 : Kd.C Kd.string w A1 s.length s) (hc1 : s.length ≤ c1) (hl1 : s.length ≤ 9223372036854775807) (ok1 : ∀ x ∈ s, x.size ≤ maxLen) :
    Calls Try.prog 8 #[.slice A0 l.length c0, .slice A1 s.length c1] w fun e w' => e = .returned (.bool true) ∧ Below w.heap.size w w' := by
  obtain ⟨k, h⟩ := P l s hl ok hl1 ok1
  refine (laws_FnExactAccepts.calls k A0 c0 l A1 c1 s true w hr hc hr1 hc1 h).mono ?_
  rintro e w' ⟨rfl, hd⟩
  exact ⟨rfl, hd⟩
end Go.Proofs.Ytejkkdjfiebmfaa.L

namespace Go.Proofs.Ytejkkdjfiebmfaa.Pure
open Go.RowKit Go.Proofs.Ytejkkdjfiebmfaa.L Go.Proofs.Ytejkkdjfiebmfaa.O Go.Proofs.YtejkkdjfiebmfaaW.PrintWords Go.Proofs.YtejkkdjfiebmfaaW.PrintLast Go.Proofs.YtejkkdjfiebmfaaW.PrintMore
set_option linter.unusedVariables false
set_option linter.unusedSimpArgs false

theorem FnExactAccepts : laws_FnExactAccepts.Pure := by
  intro l s hl ok hsl oks
  obtain ⟨v, hv, hr⟩ := szPS l hl ok
  suffices this : Ev (fun k => laws_FnExactAccepts.f k l s) true from this.rounds
  rcases hr with h | ⟨h0, h1, hl2, hs⟩
  · refine (Ev.congr (fun k => rfl) (Ev.bind hv (Ev.congr (f := fun _ => some true) (fun k => ?_) (Ev.now true))))
    rw [if_pos h]
  · obtain ⟨v2, hv2, hr2⟩ := szS s hsl (fun x hx => by have := oks x hx; rw [mxLen] at this; exact this) v h0 h1
    refine Ev.congr (fun k => rfl) (Ev.bind hv ?_)
    simp only [if_neg (show ¬ v < 0 by omega)]
    refine Ev.bind hv2 ?_
    rcases hr2 with h | ⟨h3, h4, hss⟩
    · simp only [if_pos h]
      exact Ev.now _
    · simp only [if_neg (show ¬ v2 < 0 by omega)]
      have hs2 : ∀ x ∈ l.map convP, smallP x := by
        intro x hx
        obtain ⟨y, hy, rfl⟩ := List.mem_map.1 hx
        exact hs y hy
      have hl3 : (l.map convP).length ≤ 1048576 := by rw [List.length_map]; exact hl2
      have hto := toPS l hl2 hs
      have hts := toS s hss.1
      have hsp := spec_accepts (l.map convP) hs2 s
      have him := impl_accepts (l.map convP) hs2 s
      have hep := eqPS (l.map convP) hl3 hs2
      have hes := eqS s hss.1
      refine Ev.bind hto (Ev.bind hts (Ev.bind hsp (Ev.bind hto (Ev.bind hts (Ev.bind him ?_)))))
      simp only [bne_self_eq_false, Bool.false_eq_true, if_false]
      refine Ev.bind hto (Ev.bind hep ?_)
      simp only [if_true]
      refine Ev.bind hts (Ev.bind hes ?_)
      simp only [if_true]
      exact Ev.now _
end Go.Proofs.Ytejkkdjfiebmfaa.Pure
