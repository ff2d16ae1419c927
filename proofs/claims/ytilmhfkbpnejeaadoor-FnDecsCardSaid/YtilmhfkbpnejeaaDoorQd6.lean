/- Words and contracts for the row RowFnDecs: what the Go functions answer that it calls; printed by programs of the kit and of this session, and merged. -/
import Derived.Test.YtilmhfkbpnejeaaDoorQd5
namespace Go.Proofs.YtilmhfkbpnejeaaDoor.Pure
open Go.RowKit Go.Proofs.YtilmhfkbpnejeaaDoor.L Go.Proofs.YtilmhfkbpnejeaaDoorW.PrintWords Go.Proofs.YtilmhfkbpnejeaaDoorW.PrintLast Go.Proofs.YtilmhfkbpnejeaaDoorW.PrintMore
set_option linter.unusedVariables false
set_option linter.unusedSimpArgs false

def Code (l : List Int) : Prop := l.length ≤ 140737488351232 ∧ ∀ x ∈ l, 0 ≤ x ∧ x ≤ 255
def St (l : List Int) (p : Int) : Prop := 0 ≤ p ∧ p ≤ l.length
theorem code_of {l : List Int} (h1 : l.length * 1 ≤ 140737488351232) (h2 : ∀ x ∈ l, (Lit.int .u8 x).wf = true) : Code l :=
  ⟨by omega, fun x hx => by
    have := h2 x hx
    simpa [Lit.wf, IntKind.min, IntKind.max, IntKind.signed, IntKind.bits] using this⟩
theorem rd_byte {l : List Int} (h : Code l) (i : Int) : 0 ≤ rd l i ∧ rd l i ≤ 255 := by
  unfold rd
  rw [List.getD_eq_getElem?_getD]
  rcases e : l[i.toNat]? with _ | x
  · simp
  · exact h.2 x (List.mem_of_getElem? e)
theorem next_f {l : List Int} {p : Int} (h : Code l) (hp : St l p) : ∃ v q, spec_l1Rd_next.f l p = some (v, q) ∧ 0 ≤ v ∧ v ≤ 255 ∧ St l q := by
  have hl := h.1
  obtain ⟨p0, p1⟩ := hp
  unfold spec_l1Rd_next.f
  by_cases c : p ≥ (l.length : Int)
  · rw [if_pos c]; exact ⟨0, p, rfl, by omega, by omega, p0, p1⟩
  · have w1 : wrap64 (p + 1) = p + 1 := by rw [w64] <;> omega
    have w2 : wrap64 (p + 1 - 1) = p := by rw [w64] <;> omega
    have hb := rd_byte h p
    have w3 : wrap64 (rd l p) = rd l p := by rw [w64] <;> omega
    rw [if_neg c, w1, w2, if_pos (by omega), if_pos (by omega), w3]
    exact ⟨_, _, rfl, hb.1, hb.2, by omega, by omega⟩
theorem below_f {l : List Int} {p : Int} (h : Code l) (hp : St l p) (n : Int) (h1 : 1 ≤ n) (h2 : n ≤ 256) : ∃ v q, spec_l1Rd_below.f l p n = some (v, q) ∧ 0 ≤ v ∧ v < n ∧ St l q := by
  unfold spec_l1Rd_below.f
  by_cases c : n ≤ 1
  · rw [if_pos c]; exact ⟨0, p, rfl, by omega, by omega, hp⟩
  · obtain ⟨v, q, e, v0, v1, hq⟩ := next_f h hp
    rw [if_neg c, if_pos h2, e]
    simp only [Option.bind_some]
    rw [if_neg (by omega), Int.tmod_eq_emod_of_nonneg v0]
    exact ⟨_, _, rfl, Int.emod_nonneg _ (by omega), Int.emod_lt_of_pos _ (by omega), hq⟩
theorem once_f {l : List Int} {p : Int} (h : Code l) (hp : St l p) (n : Int) (h1 : 1 ≤ n) (h2 : n ≤ 256) : ∃ v q, spec_l1Rd_once.f l p n = some (v, q) ∧ St l q := by
  obtain ⟨v, q, e, _, _, hq⟩ := below_f h hp n h1 h2
  unfold spec_l1Rd_once.f
  rw [e]
  exact ⟨_, _, rfl, hq⟩
theorem rdOf_size (y : List ByteArray) (i : Int) (n : Nat) (h : ∀ s ∈ y, s.size ≤ n) : (rdOf ByteArray.empty y i).size ≤ n := by
  unfold rdOf
  rw [List.getD_eq_getElem?_getD]
  rcases e : y[i.toNat]? with _ | x
  · simp only [Option.getD_none]; exact Nat.zero_le _
  · exact h x (List.mem_of_getElem? e)

theorem dt_l1 {l : List Int} {p : Int} (hp : St l p) : ∀ (m : Nat) (s : ByteArray) (i : Int), 0 ≤ i → (m : Int) = 60 - i → s.size + m ≤ 1000 →
    ∃ t, Ev (fun k => spec_l1Rd_decText.l1 k s i l p) (t, p) ∧ t.size ≤ s.size + m := by
  intro m
  induction m with
  | zero =>
    intro s i hi hm hs
    refine ⟨s, Ev.step (f := fun _ => some (s, p)) (fun k => ?_) (Ev.now _), by omega⟩
    conv => lhs; unfold spec_l1Rd_decText.l1
    rw [if_neg (by omega)]
  | succ m ih =>
    intro s i hi hm hs
    have e1 : (⟨#[55]⟩ : ByteArray).size = 1 := rfl
    obtain ⟨t, ht, hl⟩ := ih (s ++ (⟨#[55]⟩ : ByteArray)) (i + 1) (by omega) (by omega) (by rw [app_size, e1]; omega)
    refine ⟨t, Ev.step (f := fun k => spec_l1Rd_decText.l1 k (s ++ (⟨#[55]⟩ : ByteArray)) (i + 1) l p) (fun k => ?_) ht, by rw [app_size, e1] at hl; omega⟩
    conv => lhs; unfold spec_l1Rd_decText.l1
    rw [if_pos (by omega), if_pos (by omega), w64 (by omega) (by omega)]
theorem dt_j3 {l : List Int} {p : Int} (h : Code l) (hp : St l p) (s : ByteArray) (hs : s.size ≤ 100) : ∃ t q, Ev (fun k => spec_l1Rd_decText.j3 k s l p) (t, q) ∧ t.size ≤ 160 ∧ St l q := by
  obtain ⟨v, q, e, hq⟩ := once_f h hp 40 (by omega) (by omega)
  cases v with
  | true =>
    obtain ⟨t, ht, hl⟩ := dt_l1 hq 60 s 0 (by omega) (by omega) (by omega)
    refine ⟨t, q, Ev.step (f := fun k => spec_l1Rd_decText.l1 k s 0 l q) (fun k => ?_) ht, by omega, hq⟩
    simp only [spec_l1Rd_decText.j3, e, Option.bind_some, if_true]
  | false =>
    refine ⟨s, q, Ev.step (f := fun k => some (s, q)) (fun k => ?_) (Ev.now _), by omega, hq⟩
    simp only [spec_l1Rd_decText.j3, e, Option.bind_some, Bool.false_eq_true, if_false]
theorem dt_j2 {l : List Int} {p : Int} (h : Code l) (hp : St l p) (s : ByteArray) (hs : s.size ≤ 99) (a : Int) (b : Bool) : ∃ t q, Ev (fun k => spec_l1Rd_decText.j2 k s a b l p) (t, q) ∧ t.size ≤ 160 ∧ St l q := by
  have e1 (c : UInt8) : (⟨#[c]⟩ : ByteArray).size = 1 := rfl
  cases b with
  | true =>
    obtain ⟨t, q, ht, r⟩ := dt_j3 h hp ((⟨#[45]⟩ : ByteArray) ++ s) (by rw [app_size, e1]; omega)
    refine ⟨t, q, Ev.step (f := fun k => spec_l1Rd_decText.j3 k ((⟨#[45]⟩ : ByteArray) ++ s) l p) (fun k => ?_) ht, r⟩
    simp only [spec_l1Rd_decText.j2, if_true]
    rw [if_pos (by omega)]
  | false =>
    by_cases c : a = 2
    · obtain ⟨t, q, ht, r⟩ := dt_j3 h hp ((⟨#[43]⟩ : ByteArray) ++ s) (by rw [app_size, e1]; omega)
      refine ⟨t, q, Ev.step (f := fun k => spec_l1Rd_decText.j3 k ((⟨#[43]⟩ : ByteArray) ++ s) l p) (fun k => ?_) ht, r⟩
      simp only [spec_l1Rd_decText.j2, Bool.false_eq_true, if_false]
      rw [if_pos c, if_pos (by omega)]
    · obtain ⟨t, q, ht, r⟩ := dt_j3 h hp s (by omega)
      refine ⟨t, q, Ev.step (f := fun k => spec_l1Rd_decText.j3 k s l p) (fun k => ?_) ht, r⟩
      simp only [spec_l1Rd_decText.j2, Bool.false_eq_true, if_false]
      rw [if_neg c]
theorem dt_j1 {l : List Int} {p : Int} (h : Code l) (hp : St l p) (s : ByteArray) (hs : s.size ≤ 99) : ∃ t q, Ev (fun k => spec_l1Rd_decText.j1 k s l p) (t, q) ∧ t.size ≤ 160 ∧ St l q := by
  obtain ⟨v, q, e, v0, v1, hq⟩ := below_f h hp 6 (by omega) (by omega)
  by_cases c : v = 0
  · obtain ⟨t, r, ht, g⟩ := dt_j2 h hq s hs v (v == 0)
    refine ⟨t, r, Ev.step (f := fun k => spec_l1Rd_decText.j2 k s v (v == 0) l q) (fun k => ?_) ht, g⟩
    simp only [spec_l1Rd_decText.j1, e, Option.bind_some]
    rw [if_pos c]
  · obtain ⟨t, r, ht, g⟩ := dt_j2 h hq s hs v (v == 1)
    refine ⟨t, r, Ev.step (f := fun k => spec_l1Rd_decText.j2 k s v (v == 1) l q) (fun k => ?_) ht, g⟩
    simp only [spec_l1Rd_decText.j1, e, Option.bind_some]
    rw [if_neg c]
theorem dt_l0 {l : List Int} (h : Code l) : ∀ (m : Nat) (p : Int) (s : ByteArray), St l p → m ≤ 10 → s.size + 2 * m ≤ 40 →
    ∃ t q, Ev (fun k => spec_l1Rd_decText.l0 k s (m : Int) l p) (t, q) ∧ t.size ≤ 160 ∧ St l q := by
  intro m
  induction m with
  | zero =>
    intro p s hp hm hs
    obtain ⟨v, q, e, hq⟩ := once_f h hp 2 (by omega) (by omega)
    have e1 (c : UInt8) : (⟨#[c]⟩ : ByteArray).size = 1 := rfl
    cases v with
    | true =>
      obtain ⟨i, r, ei, i0, i1, hr⟩ := below_f h hq 6 (by omega) (by omega)
      have hsz := rdOf_size [(⟨#[]⟩ : ByteArray), (⟨#[48]⟩ : ByteArray), (⟨#[53]⟩ : ByteArray), (⟨#[50, 53]⟩ : ByteArray), (⟨#[48, 53, 48]⟩ : ByteArray), (⟨#[57, 57, 57]⟩ : ByteArray)] i 3 (by decide)
      obtain ⟨t, z, ht, g⟩ := dt_j1 h hr ((s ++ (⟨#[46]⟩ : ByteArray)) ++ rdOf ByteArray.empty [(⟨#[]⟩ : ByteArray), (⟨#[48]⟩ : ByteArray), (⟨#[53]⟩ : ByteArray), (⟨#[50, 53]⟩ : ByteArray), (⟨#[48, 53, 48]⟩ : ByteArray), (⟨#[57, 57, 57]⟩ : ByteArray)] i) (by rw [app_size, app_size, e1]; omega)
      refine ⟨t, z, Ev.step (f := fun k => spec_l1Rd_decText.j1 k ((s ++ (⟨#[46]⟩ : ByteArray)) ++ rdOf ByteArray.empty [(⟨#[]⟩ : ByteArray), (⟨#[48]⟩ : ByteArray), (⟨#[53]⟩ : ByteArray), (⟨#[50, 53]⟩ : ByteArray), (⟨#[48, 53, 48]⟩ : ByteArray), (⟨#[57, 57, 57]⟩ : ByteArray)] i) l r) (fun k => ?_) ht, g⟩
      conv => lhs; unfold spec_l1Rd_decText.l0
      rw [if_neg (by omega), e]
      simp only [Option.bind_some, if_true, ei]
      rw [if_pos (by omega), if_pos i0, if_pos (by simpa using i1), if_pos (by rw [app_size, e1]; omega)]
    | false =>
      obtain ⟨t, z, ht, g⟩ := dt_j1 h hq s (by omega)
      refine ⟨t, z, Ev.step (f := fun k => spec_l1Rd_decText.j1 k s l q) (fun k => ?_) ht, g⟩
      conv => lhs; unfold spec_l1Rd_decText.l0
      rw [if_neg (by omega), e]
      simp only [Option.bind_some, Bool.false_eq_true, if_false]
  | succ m ih =>
    intro p s hp hm hs
    obtain ⟨i, r, ei, i0, i1, hr⟩ := below_f h hp 6 (by omega) (by omega)
    have hsz := rdOf_size [(⟨#[48]⟩ : ByteArray), (⟨#[49]⟩ : ByteArray), (⟨#[53]⟩ : ByteArray), (⟨#[57]⟩ : ByteArray), (⟨#[48, 48]⟩ : ByteArray), (⟨#[49, 50]⟩ : ByteArray)] i 2 (by decide)
    obtain ⟨t, z, ht, g⟩ := ih r (s ++ rdOf ByteArray.empty [(⟨#[48]⟩ : ByteArray), (⟨#[49]⟩ : ByteArray), (⟨#[53]⟩ : ByteArray), (⟨#[57]⟩ : ByteArray), (⟨#[48, 48]⟩ : ByteArray), (⟨#[49, 50]⟩ : ByteArray)] i) hr (by omega) (by rw [app_size]; omega)
    refine ⟨t, z, Ev.step (f := fun k => spec_l1Rd_decText.l0 k (s ++ rdOf ByteArray.empty [(⟨#[48]⟩ : ByteArray), (⟨#[49]⟩ : ByteArray), (⟨#[53]⟩ : ByteArray), (⟨#[57]⟩ : ByteArray), (⟨#[48, 48]⟩ : ByteArray), (⟨#[49, 50]⟩ : ByteArray)] i) (m : Int) l r) (fun k => ?_) ht, g⟩
    conv => lhs; unfold spec_l1Rd_decText.l0
    have hw : wrap64 (((m + 1 : Nat) : Int) - 1) = (m : Int) := by rw [w64] <;> omega
    rw [if_pos (by omega)]
    simp only [Option.bind_some, ei]
    rw [if_pos i0, if_pos (by simpa using i1), if_pos (by omega), hw]
theorem decText_f {l : List Int} {p : Int} (h : Code l) (hp : St l p) : ∃ t q, Ev (fun k => spec_l1Rd_decText.f k l p) (t, q) ∧ t.size ≤ 160 ∧ St l q := by
  obtain ⟨v, q, e, v0, v1, hq⟩ := below_f h hp 5 (by omega) (by omega)
  have e0 : (⟨#[]⟩ : ByteArray).size = 0 := rfl
  obtain ⟨t, r, ht, g⟩ := dt_l0 h v.toNat q ⟨#[]⟩ hq (by omega) (by omega)
  have hv : ((v.toNat : Nat) : Int) = v := by omega
  rw [hv] at ht
  refine ⟨t, r, ?_, g⟩
  unfold spec_l1Rd_decText.f
  rw [e]
  exact ht

theorem word_f {l : List Int} (h : Code l) : ∀ (m : Nat) (p x i : Int), St l p → 0 ≤ i → (m : Int) = 8 - i → ∃ y q, Ev (fun k => spec_l1Rd_word.l0 k x i l p) (y, q) ∧ St l q := by
  intro m
  induction m with
  | zero =>
    intro p x i hp hi hm
    refine ⟨x, p, Ev.step (f := fun _ => some (x, p)) (fun k => ?_) (Ev.now _), hp⟩
    conv => lhs; unfold spec_l1Rd_word.l0
    rw [if_neg (by omega)]
  | succ m ih =>
    intro p x i hp hi hm
    obtain ⟨v, q, e, _, _, hq⟩ := next_f h hp
    obtain ⟨y, r, hy, g⟩ := ih q (Go.bits .or .u64 (IntKind.u64.wrap (x * 256)) (IntKind.u64.wrap v)) (i + 1) hq (by omega) (by omega)
    refine ⟨y, r, Ev.step (f := fun k => spec_l1Rd_word.l0 k (Go.bits .or .u64 (IntKind.u64.wrap (x * 256)) (IntKind.u64.wrap v)) (i + 1) l q) (fun k => ?_) hy, g⟩
    conv => lhs; unfold spec_l1Rd_word.l0
    rw [if_pos (by omega), e, w64 (n := i + 1) (by omega) (by omega)]
    rfl
theorem near_f {l : List Int} {p : Int} (h : Code l) (hp : St l p) : ∃ y q, Ev (fun k => spec_l1Rd_near.f k l p 0 60) (y, q) ∧ St l q := by
  obtain ⟨v, q, e, v0, v1, hq⟩ := below_f h hp 8 (by omega) (by omega)
  unfold spec_l1Rd_near.f
  rw [e]
  simp only [Option.bind_some]
  by_cases c : v = 0
  · simp only [c, if_true]; exact ⟨_, _, Ev.now _, hq⟩
  · simp only [c, if_false]
    by_cases c1 : v = 1
    · simp only [c1, if_true]; exact ⟨_, _, Ev.now _, hq⟩
    · simp only [c1, if_false]
      obtain ⟨y, r, hy, g⟩ := word_f h 8 q 0 0 hq (by omega) (by omega)
      have w0 : (IntKind.u64.wrap (wrap64 ((wrap64 (60 - 0)) + 1))) = 61 := by decide +kernel
      refine ⟨_, r, Ev.congr (f := fun k => (spec_l1Rd_word.l0 k 0 0 l q).bind fun bt214 => some (wrap64 (0 + (wrap64 (Int.tmod (bt214.1 / 2) (IntKind.u64.wrap (wrap64 ((wrap64 (60 - 0)) + 1)))))), bt214.2)) (fun k => ?_) (Ev.bind hy (Ev.now _)), g⟩
      rw [if_neg (by omega)]
      unfold spec_l1Rd_word.f
      congr 1
      funext bt
      rw [if_neg (by rw [w0]; decide)]
theorem off_f {l : List Int} {p : Int} (h : Code l) (hp : St l p) : ∃ y q, Ev (fun k => spec_l1Rd_off.f k l p 0 60) (y, q) ∧ St l q := by
  obtain ⟨v, q, e, hq⟩ := once_f h hp 24 (by omega) (by omega)
  unfold spec_l1Rd_off.f
  rw [e]
  simp only [Option.bind_some]
  cases v with
  | true =>
    obtain ⟨i, r, ei, i0, i1, hr⟩ := below_f h hq 4 (by omega) (by omega)
    simp only [if_true, ei, Option.bind_some]
    rw [if_pos i0, if_pos (by simpa using i1)]
    exact ⟨_, _, Ev.now _, hr⟩
  | false =>
    simp only [Bool.false_eq_true, if_false]
    obtain ⟨y, r, hy, g⟩ := near_f h hq
    exact ⟨y, r, Ev.bind hy (Ev.now _), g⟩
theorem dec_f {l : List Int} {p : Int} (h : Code l) (hp : St l p) : ∃ n s x q, Ev (fun k => spec_l1Rd_dec.f k l p) (n, s, x, q) ∧ s.size ≤ 1000 ∧ St l q := by
  obtain ⟨t, q, ht, hl, hq⟩ := decText_f h hp
  obtain ⟨v, r, e, v0, v1, hr⟩ := below_f h hq 30 (by omega) (by omega)
  have hR := spec_ReadDec_f t (by omega)
  have hS := readD_len t.data.toList
  rcases eR : readD t.data.toList with ⟨n, s, x, b⟩
  rw [eR] at hR hS
  have hS : s.size ≤ 60 := hS
  unfold spec_l1Rd_dec.f
  by_cases c1 : v = 29
  · obtain ⟨y, z, hy, g⟩ := off_f h hr
    refine ⟨n, s, y, z, Ev.bind ht (Ev.bind hR ?_), by omega, g⟩
    simp only [e, Option.bind_some, c1, if_true]
    exact Ev.bind hy (Ev.now _)
  · by_cases c2 : v = 28
    · refine ⟨n, s ++ (⟨#[48]⟩ : ByteArray), x, r, Ev.bind ht (Ev.bind hR ?_), by rw [app_size]; have : (⟨#[48]⟩ : ByteArray).size = 1 := rfl; omega, hr⟩
      simp only [e, Option.bind_some]
      have hx : s.size + 1 ≤ 9223372036854775807 := by omega
      simp only [if_neg c1, if_pos c2, if_pos hx]
      exact Ev.now _
    · by_cases c3 : v = 27
      · refine ⟨!n, s, x, r, Ev.bind ht (Ev.bind hR ?_), by omega, hr⟩
        simp only [e, Option.bind_some]
        simp only [if_neg c1, if_neg c2, if_pos c3]
        exact Ev.now _
      · refine ⟨n, s, x, r, Ev.bind ht (Ev.bind hR ?_), by omega, hr⟩
        simp only [e, Option.bind_some]
        simp only [if_neg c1, if_neg c2, if_neg c3]
        exact Ev.now _
theorem start {l : List Int} : St l 0 := ⟨by omega, by omega⟩
theorem drawCompare {l : List Int} (h : Code l) : ∃ n s x m t y, Ev (fun k => spec_DrawCompareDec.f k l) (n, s, x, m, t, y) ∧ s.size ≤ 1000 ∧ t.size ≤ 1000 := by
  obtain ⟨n, s, x, q, h1, hs, hq⟩ := dec_f h (start (l := l))
  obtain ⟨v, r, e, hr⟩ := once_f h hq 5 (by omega) (by omega)
  unfold spec_DrawCompareDec.f spec_l1Open.f
  simp only [Option.bind_some]
  cases v with
  | true =>
    refine ⟨n, s, x, n, s, x, Ev.bind h1 ?_, hs, hs⟩
    simp only [e, Option.bind_some, if_true]
    exact Ev.now _
  | false =>
    obtain ⟨m, t, y, z, h2, ht, _⟩ := dec_f h hr
    refine ⟨n, s, x, m, t, y, Ev.bind h1 ?_, hs, ht⟩
    simp only [e, Option.bind_some, Bool.false_eq_true, if_false]
    exact Ev.bind h2 (Ev.now _)
theorem drawText {l : List Int} (h : Code l) : ∃ n s x, Ev (fun k => spec_DrawDecText.f k l) (n, s, x) ∧ s.size ≤ 1000 := by
  obtain ⟨n, s, x, q, h1, hs, hq⟩ := dec_f h (start (l := l))
  unfold spec_DrawDecText.f spec_l1Open.f
  simp only [Option.bind_some]
  exact ⟨n, s, x, Ev.bind h1 (Ev.now _), hs⟩
theorem drawRead {l : List Int} (h : Code l) : ∃ s, Ev (fun k => spec_DrawReadDec.f k l) s ∧ s.size ≤ 1000 := by
  obtain ⟨v, r, e, hr⟩ := once_f h (start (l := l)) 6 (by omega) (by omega)
  unfold spec_DrawReadDec.f spec_l1Open.f
  simp only [Option.bind_some, e]
  cases v with
  | true =>
    obtain ⟨i, z, ei, i0, i1, hz⟩ := below_f h hr 10 (by omega) (by omega)
    simp only [if_true, ei, Option.bind_some]
    rw [if_pos i0, if_pos (by simpa using i1)]
    exact ⟨_, Ev.now _, Nat.le_trans (rdOf_size _ i 5 (by decide)) (by omega)⟩
  | false =>
    obtain ⟨t, q, ht, hl, hq⟩ := decText_f h hr
    simp only [Bool.false_eq_true, if_false]
    exact ⟨t, Ev.bind ht (Ev.now _), by omega⟩
end Go.Proofs.YtilmhfkbpnejeaaDoor.Pure

namespace Go.Proofs.YtilmhfkbpnejeaaDoor.Pure
open Go.RowKit Go.Proofs.YtilmhfkbpnejeaaDoor.L Go.Proofs.YtilmhfkbpnejeaaDoorW.PrintWords Go.Proofs.YtilmhfkbpnejeaaDoorW.PrintLast Go.Proofs.YtilmhfkbpnejeaaDoorW.PrintMore
set_option linter.unusedVariables false
set_option linter.unusedSimpArgs false

theorem total_impl (n : Bool) (s : ByteArray) (x : Int) (hs : s.size ≤ 1000) : impl_TotalDigits.f n s x = some (if okB n s x then mx (s.size : Int) 1 else -1) := by
  unfold impl_TotalDigits.f
  rw [impl_DecOk_f n s x (by omega)]
  cases okB n s x <;> rfl
theorem total_spec (n : Bool) (s : ByteArray) (x : Int) (hs : s.size ≤ 1000) : Ev (fun k => spec_TotalDigits.f k n s x) (if okB n s x then mx (s.size : Int) 1 else -1) := by
  unfold spec_TotalDigits.f
  refine Ev.bind (spec_DecOk_f n s x (by omega)) ?_
  cases okB n s x with
  | false => exact Ev.now _
  | true =>
    have : mx 1 (s.size : Int) = mx (s.size : Int) 1 := by unfold mx; split <;> split <;> omega
    simp only [if_true, this]
    exact Ev.now _
theorem decs_j0 {l : List Int} (h : Code l) : Ev (fun k => laws_FnDecs.j0 k l false) true := by
  obtain ⟨t, ht, hs⟩ := drawRead h
  have h1 := impl_ReadDec_f t (by omega)
  have h2 := spec_ReadDec_f t (by omega)
  have hl := readD_len t.data.toList
  have hg := readD_good t.data.toList
  rcases e : readD t.data.toList with ⟨n, s, x, b⟩
  rw [e] at h1 h2 hl hg
  have hl : s.size ≤ 60 := hl
  have h3 := impl_DecText_f n s x (by omega)
  have h4 := impl_ReadDec_f (textQ n s x) (Nat.le_trans (textQ_len n s x) (by omega))
  rw [read_text] at h4
  refine Ev.step (f := fun k => ((spec_DrawReadDec.f k l).bind fun t555 => ((impl_ReadDec.f k t555).bind fun bt556 => ((spec_ReadDec.f k t555).bind fun bt561 => ((impl_DecText.f k bt556.1 bt556.2.1 bt556.2.2.1).bind fun t566 => ((impl_ReadDec.f k t566).bind fun bt567 => (if (bt556.2.2.2 == bt561.2.2.2) = true then (if bt556.2.2.2 = true then (if bt567.2.2.2 = true then (some (bt567.1 == bt556.1 && (bt567.2.1.toList == bt556.2.1.toList && (bt567.2.2.1 == bt556.2.2.1)))) else (some false)) else (some true)) else (some false))))))) ) (fun k => ?_) ?_
  · simp only [laws_FnDecs.j0, Bool.false_eq_true, if_false]
  · refine Ev.bind ht (Ev.bind h1 (Ev.bind h2 (Ev.bind h3 (Ev.bind h4 ?_))))
    simp only [beq_self_eq_true, if_true]
    cases b with
    | false => simp only [Bool.false_eq_true, if_false]; exact Ev.now _
    | true =>
      have hk : okB n s x = true := hg rfl
      simp only [hk, if_true, beq_self_eq_true, Bool.and_self]
      exact Ev.now _
theorem FnDecs : laws_FnDecs.Pure := by
  intro l _ h1 h2
  have h := code_of h1 h2
  refine Ev.rounds ?_
  unfold laws_FnDecs.f laws_big.f
  simp only [Option.bind_some]
  by_cases c : (decide ((l.length : Int) > 1048576)) = true
  · simp only [c, if_true]; exact Ev.now _
  · simp only [c]
    obtain ⟨n, s, x, hd, hs⟩ := drawText h
    refine Ev.bind hd ?_
    have a1 := impl_DecText_f n s x (by omega)
    have a2 := impl_ReadDec_f (textQ n s x) (Nat.le_trans (textQ_len n s x) (by omega))
    rw [read_text] at a2
    have a3 := spec_DecText_f n s x (by omega)
    refine Ev.bind a1 (Ev.bind a2 (Ev.bind a3 ?_))
    simp only [if_true, impl_DecOk_f n s x (by omega), Option.bind_some]
    have t1 := total_impl n s x hs
    have t2 := total_spec n s x hs
    have j := decs_j0 h
    cases e : okB n s x with
    | true =>
      rw [e] at t1 t2
      simp only [if_true, bne_self_eq_false, Bool.false_eq_true, if_false, beq_self_eq_true, Bool.not_true, Bool.or_self, t1, Option.bind_some]
      refine Ev.bind t2 ?_
      simp only [if_true, bne_self_eq_false]
      exact j
    | false =>
      rw [e] at t1 t2
      simp only [Bool.false_eq_true, if_false, zeroQ, bne_self_eq_false, t1, Option.bind_some]
      refine Ev.bind t2 ?_
      simp only [Bool.false_eq_true, if_false, bne_self_eq_false]
      exact j
end Go.Proofs.YtilmhfkbpnejeaaDoor.Pure
