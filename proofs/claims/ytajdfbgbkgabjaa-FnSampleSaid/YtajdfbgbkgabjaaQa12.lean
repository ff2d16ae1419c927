/- Words and contracts for the row RowFnSample; printed, and merged. -/
import Derived.Test.YtajdfbgbkgabjaaQa11
namespace Go.Proofs.Ytajdfbgbkgabjaa.Pure
open MT
open Go.RowKit Go.Proofs.Ytajdfbgbkgabjaa.L Go.Proofs.YtajdfbgbkgabjaaW.PrintWords Go.Proofs.YtajdfbgbkgabjaaW.PrintLast Go.Proofs.YtajdfbgbkgabjaaW.PrintMore
set_option linter.unusedVariables false
set_option linter.unusedSimpArgs false
def Code (l : List Int) : Prop := l.length ≤ 140737488351232 ∧ ∀ x ∈ l, 0 ≤ x ∧ x ≤ 255
def St (l : List Int) (p : Int) : Prop := 0 ≤ p ∧ p ≤ l.length
theorem code_of {l : List Int} (h1 : l.length * 1 ≤ 140737488351232) (h2 : ∀ x ∈ l, (Lit.int .u8 x).wf = true) : Code l :=
 ⟨by omega, fun x hx => by
  have := h2 x hx
  simpa [Lit.wf, IntKind.min, IntKind.max, IntKind.signed, IntKind.bits] using this⟩
theorem rd_byte {l : List Int} (h : Code l) (i : Int) : 0 ≤ rd l i ∧ rd l i ≤ 255 := by
 unfold rd
 rw [List.getD_eq_getElem?_getD]
 rcases e : l[i.toNat]? with _ | x
 ·simp
 ·exact h.2 x (List.mem_of_getElem? e)
theorem next_f {l : List Int} {p : Int} (h : Code l) (hp : St l p) : ∃ v q, spec_l1Rd_next.f l p = some (v, q) ∧ 0 ≤ v ∧ v ≤ 255 ∧ St l q := by
 have hl := h.1
 obtain ⟨p0, p1⟩ := hp
 unfold spec_l1Rd_next.f
 by_cases c : p ≥ (l.length : Int)
 ·rw [if_pos c]; exact ⟨0, p, rfl, by omega, by omega, p0, p1⟩
 ·have w1 : wrap64 (p + 1) = p + 1 := by rw [w64] <;> omega
  have w2 : wrap64 (p + 1 - 1) = p := by rw [w64] <;> omega
  have hb := rd_byte h p
  have w3 : wrap64 (rd l p) = rd l p := by rw [w64] <;> omega
  rw [if_neg c, w1, w2, if_pos (by omega), if_pos (by omega), w3]
  exact ⟨_, _, rfl, hb.1, hb.2, by omega, by omega⟩
theorem bwf {l : List Int} {p : Int} (h : Code l) (hp : St l p) (n : Int) (h1 : 1 ≤ n) (h2 : n ≤ 256) : ∃ v q, spec_l1Rd_below.f l p n = some (v, q) ∧ 0 ≤ v ∧ v < n ∧ St l q := by
 unfold spec_l1Rd_below.f
 by_cases c : n ≤ 1
 ·rw [if_pos c]; exact ⟨0, p, rfl, by omega, by omega, hp⟩
 ·obtain ⟨v, q, e, v0, v1, hq⟩ := next_f h hp
  rw [if_neg c, if_pos h2, e]
  simp only [oB]
  rw [if_neg (by omega), Int.tmod_eq_emod_of_nonneg v0]
  exact ⟨_, _, rfl, Int.emod_nonneg _ (by omega), Int.emod_lt_of_pos _ (by omega), hq⟩
theorem once_f {l : List Int} {p : Int} (h : Code l) (hp : St l p) (n : Int) (h1 : 1 ≤ n) (h2 : n ≤ 256) : ∃ v q, spec_l1Rd_once.f l p n = some (v, q) ∧ St l q := by
 obtain ⟨v, q, e, _, _, hq⟩ := bwf h hp n h1 h2
 unfold spec_l1Rd_once.f
 rw [e]
 exact ⟨_, _, rfl, hq⟩
theorem rdOf_size (y : List ByteArray) (i : Int) (n : Nat) (h : ∀ s ∈ y, s.size ≤ n) : (rdOf ByteArray.empty y i).size ≤ n := by
 unfold rdOf
 rw [List.getD_eq_getElem?_getD]
 rcases e : y[i.toNat]? with _ | x
 ·simp only [Option.getD_none]; exact Nat.zero_le _
 ·exact h x (List.mem_of_getElem? e)
theorem name_f {l : List Int} {p : Int} (h : Code l) (hp : St l p) : ∃ s q, spec_l1Rd_name.f l p = some (s, q) ∧ s.size ≤ 5 ∧ St l q := by
 obtain ⟨v, q, e, v0, v1, hq⟩ := bwf h hp 7 (by omega) (by omega)
 unfold spec_l1Rd_name.f
 simp only [oB]
 rw [e]
 simp only [oB]
 rw [if_pos v0, if_pos (by simpa using v1)]
 exact ⟨_, _, rfl, rdOf_size _ _ 5 (by decide), hq⟩
theorem word_l0 {l : List Int} (h : Code l) : ∀ (n : Nat) (x i p : Int), St l p → 0 ≤ i → i + n = 8 → ∃ v q, Ev (fun k => spec_l1Rd_word.l0 k x i l p) (v, q) ∧ St l q := by
 intro n
 induction n with
 | zero =>
  intro x i p hp hi hn
  refine ⟨x, p, Ev.step (f := fun _ => some (x, p)) (fun k => ?_) (Ev.now _), hp⟩
  conv => lhs; unfold spec_l1Rd_word.l0
  rw [if_neg (by omega)]
 | succ n ih =>
  intro x i p hp hi hn
  obtain ⟨v, q, e, _, _, hq⟩ := next_f h hp
  obtain ⟨v2, q2, he, hq2⟩ := ih (Go.bits .or .u64 (IntKind.u64.wrap (x * 256)) (IntKind.u64.wrap v)) (i + 1) q hq (by omega) (by omega)
  refine ⟨v2, q2, Ev.step (fun k => ?_) he, hq2⟩
  conv => lhs; unfold spec_l1Rd_word.l0
  rw [if_pos (by omega), e, oB, w64 (by omega) (by omega)]
theorem word_f {l : List Int} {p : Int} (h : Code l) (hp : St l p) : ∃ v q, Ev (fun k => spec_l1Rd_word.f k l p) (v, q) ∧ St l q := word_l0 h 8 0 0 p hp (by omega) (by omega)
theorem near_f {l : List Int} {p : Int} (h : Code l) (hp : St l p) (a b : Int) (ha : -1 ≤ a) (hb : b ≤ 1048576) (ha2 : a ≤ 1048576) : ∃ v q, Ev (fun k => spec_l1Rd_near.f k l p a b) (v, q) ∧ St l q := by
 obtain ⟨v, q, e, v0, v1, hq⟩ := bwf h hp 8 (by omega) (by omega)
 have hf : ∀ k, spec_l1Rd_near.f k l p a b = if v = 0 then (some (a, q)) else (if v = 1 then (some (b, q)) else (if b < a then (some (a, q)) else ((spec_l1Rd_word.f k l q).bind fun bt425 => (if (IntKind.u64.wrap (wrap64 ((wrap64 (b - a)) + 1))) = 0 then (none) else (some (wrap64 (a + (wrap64 (Int.tmod (bt425.1 / 2) (IntKind.u64.wrap (wrap64 ((wrap64 (b - a)) + 1)))))), bt425.2)))))) := by
  intro k
  unfold spec_l1Rd_near.f
  rw [e, oB]
 by_cases c1 : v = 0
 ·exact ⟨a, q, Ev.congr (f := fun _ => some (a, q)) (fun k => by rw [hf, if_pos c1]) (Ev.now _), hq⟩
 ·by_cases c2 : v = 1
  ·exact ⟨b, q, Ev.congr (f := fun _ => some (b, q)) (fun k => by rw [hf, if_neg c1, if_pos c2]) (Ev.now _), hq⟩
  ·by_cases c3 : b < a
   ·exact ⟨a, q, Ev.congr (f := fun _ => some (a, q)) (fun k => by rw [hf, if_neg c1, if_neg c2, if_pos c3]) (Ev.now _), hq⟩
   ·obtain ⟨x, r, hx, hr⟩ := word_f h hq
    have e1 : wrap64 (wrap64 (b - a) + 1) = b - a + 1 := by rw [w64 (n := b - a) (by omega) (by omega), w64] <;> omega
    have e2 : IntKind.u64.wrap (b - a + 1) = b - a + 1 := by
     simp only [IntKind.wrap, IntKind.signed, IntKind.bits]
     simp
     omega
    refine ⟨wrap64 (a + (wrap64 (Int.tmod (x / 2) (b - a + 1)))), r, Ev.congr (fun k => by rw [hf, if_neg c1, if_neg c2, if_neg c3]) (Ev.bind hx ?_), hr⟩
    simp only [e1, e2, if_neg (show ¬ (b - a + 1 = 0) by omega)]
    exact Ev.now _
theorem off_f {l : List Int} {p : Int} (h : Code l) (hp : St l p) (a b : Int) (ha : -1 ≤ a) (hb : b ≤ 1048576) (ha2 : a ≤ 1048576) : ∃ v q, Ev (fun k => spec_l1Rd_off.f k l p a b) (v, q) ∧ St l q := by
 obtain ⟨c, q, e, hq⟩ := once_f h hp 24 (by omega) (by omega)
 have hf : ∀ k, spec_l1Rd_off.f k l p a b = if c = true then ((some (([wrap64 (a - 1), wrap64 (b + 1), (-9223372036854775808), 9223372036854775807] : List Int) : List Int)).bind fun y429 => ((spec_l1Rd_below.f l q 4).bind fun bt432 => (if 0 ≤ bt432.1 then (if bt432.1 < (y429.length : Int) then (some (rd y429 bt432.1, bt432.2)) else (none)) else (none)))) else ((spec_l1Rd_near.f k l q a b).bind fun bt435 => (some (bt435.1, bt435.2))) := by
  intro k
  unfold spec_l1Rd_off.f
  rw [e, oB]
 cases c with
 | true =>
  obtain ⟨v, r, e2, v0, v1, hr⟩ := bwf h hq 4 (by omega) (by omega)
  refine ⟨rd [wrap64 (a - 1), wrap64 (b + 1), (-9223372036854775808), 9223372036854775807] v, r, Ev.congr (f := fun _ => some (rd [wrap64 (a - 1), wrap64 (b + 1), (-9223372036854775808), 9223372036854775807] v, r)) (fun k => ?_) (Ev.now _), hr⟩
  rw [hf, if_pos rfl, oB, e2, oB, if_pos v0, if_pos (by simpa using v1)]
 | false =>
  obtain ⟨v, r, hv, hr⟩ := near_f h hq a b ha hb ha2
  refine ⟨v, r, Ev.congr (fun k => by rw [hf, if_neg (by decide)]) (Ev.bind hv (Ev.now _)), hr⟩
/-! steps -/
theorem Ev.ifp {α : Type} {c : Prop} [Decidable c] (hc : c) {a b : Nat → Option α} {r : α} (h : Ev a r) : Ev (fun k => if c then a k else b k) r := by
 simp only [if_pos hc]; exact h
theorem Ev.ifn {α : Type} {c : Prop} [Decidable c] (hc : ¬ c) {a b : Nat → Option α} {r : α} (h : Ev b r) : Ev (fun k => if c then a k else b k) r := by
 simp only [if_neg hc]; exact h
theorem Ev.eqb {α β : Type} {g : Option α} {x : α} (e : g = some x) {f : Nat → α → Option β} {r : β} (h : Ev (fun k => f k x) r) : Ev (fun k => g.bind (f k)) r := by
 simp only [e, oB]; exact h
/-! a model's text -/
def BM : Nat → Nat
 | 0 => 2
 | d + 1 => 3 * BM d + 6
theorem bs_app (a b : ByteArray) : (a ++ b).size = a.size + b.size := ByteArray.size_append
theorem mtext_ev {l : List Int} (h : Code l) : ∀ (d : Nat), d ≤ 2 → ∀ p, St l p → ∃ s q, Ev (fun k => spec_l1Rd_mtext.f k l p (d : Int)) (s, q) ∧ s.size ≤ BM d ∧ St l q := by
 intro d
 induction d with
 | zero =>
  intro _ p hp
  obtain ⟨v, q, e, v0, v1, hq⟩ := bwf h hp 5 (by omega) (by omega)
  obtain ⟨v2, q2, e2, v20, v21, hq2⟩ := bwf h hq 7 (by omega) (by omega)
  have s1 := rdOf_size [(⟨#[]⟩ : ByteArray), (⟨#[]⟩ : ByteArray), (⟨#[63]⟩ : ByteArray), (⟨#[42]⟩ : ByteArray), (⟨#[43]⟩ : ByteArray)] v 1 (by decide)
  have s2 := rdOf_size [(⟨#[97]⟩ : ByteArray), (⟨#[98]⟩ : ByteArray), (⟨#[99]⟩ : ByteArray), (⟨#[100]⟩ : ByteArray), (⟨#[97]⟩ : ByteArray), (⟨#[98]⟩ : ByteArray), (⟨#[35]⟩ : ByteArray)] v2 1 (by decide)
  refine ⟨_, q2, Ev.step (f := fun k => spec_l1Rd_mtext.j0 k 0 (rdOf ByteArray.empty [(⟨#[]⟩ : ByteArray), (⟨#[]⟩ : ByteArray), (⟨#[63]⟩ : ByteArray), (⟨#[42]⟩ : ByteArray), (⟨#[43]⟩ : ByteArray)] v) true l q) (fun k => ?_) (Ev.step (f := fun _ => some (rdOf ByteArray.empty [(⟨#[97]⟩ : ByteArray), (⟨#[98]⟩ : ByteArray), (⟨#[99]⟩ : ByteArray), (⟨#[100]⟩ : ByteArray), (⟨#[97]⟩ : ByteArray), (⟨#[98]⟩ : ByteArray), (⟨#[35]⟩ : ByteArray)] v2 ++ rdOf ByteArray.empty [(⟨#[]⟩ : ByteArray), (⟨#[]⟩ : ByteArray), (⟨#[63]⟩ : ByteArray), (⟨#[42]⟩ : ByteArray), (⟨#[43]⟩ : ByteArray)] v, q2)) (fun k => ?_) (Ev.now _)), by rw [bs_app]; unfold BM; omega, hq2⟩
  ·conv => lhs; unfold spec_l1Rd_mtext.f
   rw [oB, e, oB, if_pos v0, if_pos (by simpa using v1), if_pos (show ((0 : Nat) : Int) = 0 from rfl)]
   rfl
  ·conv => lhs; unfold spec_l1Rd_mtext.j0
   rw [if_pos rfl, oB, e2, oB]
   dsimp only
   rw [if_pos v20, if_pos (by simpa using v21), if_pos (by omega)]
 | succ d ih =>
  intro hd p hp
  have ih := ih (by omega)
  have hB : BM d ≤ 12 := by
   have : d = 0 ∨ d = 1 := by omega
   rcases this with rfl | rfl <;> decide
  have hw : wrap64 (((d + 1 : Nat) : Int) - 1) = (d : Int) := by rw [w64] <;> omega
  obtain ⟨v, q, e, v0, v1, hq⟩ := bwf h hp 5 (by omega) (by omega)
  have s1 := rdOf_size [(⟨#[]⟩ : ByteArray), (⟨#[]⟩ : ByteArray), (⟨#[63]⟩ : ByteArray), (⟨#[42]⟩ : ByteArray), (⟨#[43]⟩ : ByteArray)] v 1 (by decide)
  obtain ⟨c, q1, e1, hq1⟩ := once_f h hq 2 (by omega) (by omega)
  have hstart : ∀ {r : ByteArray × Int}, Ev (fun k => spec_l1Rd_mtext.j0 k ((d + 1 : Nat) : Int) (rdOf ByteArray.empty [(⟨#[]⟩ : ByteArray), (⟨#[]⟩ : ByteArray), (⟨#[63]⟩ : ByteArray), (⟨#[42]⟩ : ByteArray), (⟨#[43]⟩ : ByteArray)] v) c l q1) r → Ev (fun k => spec_l1Rd_mtext.f k l p ((d + 1 : Nat) : Int)) r := by
   intro r hr
   refine Ev.step (fun k => ?_) hr
   conv => lhs; unfold spec_l1Rd_mtext.f
   rw [oB, e, oB, if_pos v0, if_pos (by simpa using v1), if_neg (by omega), e1, oB]
  generalize rdOf ByteArray.empty [(⟨#[]⟩ : ByteArray), (⟨#[]⟩ : ByteArray), (⟨#[63]⟩ : ByteArray), (⟨#[42]⟩ : ByteArray), (⟨#[43]⟩ : ByteArray)] v = sg at s1 hstart
  cases c with
  | true =>
   obtain ⟨v2, q2, e2, v20, v21, hq2⟩ := bwf h hq1 7 (by omega) (by omega)
   have s2 := rdOf_size [(⟨#[97]⟩ : ByteArray), (⟨#[98]⟩ : ByteArray), (⟨#[99]⟩ : ByteArray), (⟨#[100]⟩ : ByteArray), (⟨#[97]⟩ : ByteArray), (⟨#[98]⟩ : ByteArray), (⟨#[35]⟩ : ByteArray)] v2 1 (by decide)
   refine ⟨_, q2, hstart (Ev.step (f := fun _ => some (rdOf ByteArray.empty [(⟨#[97]⟩ : ByteArray), (⟨#[98]⟩ : ByteArray), (⟨#[99]⟩ : ByteArray), (⟨#[100]⟩ : ByteArray), (⟨#[97]⟩ : ByteArray), (⟨#[98]⟩ : ByteArray), (⟨#[35]⟩ : ByteArray)] v2 ++ sg, q2)) (fun k => ?_) (Ev.now _)), by rw [bs_app]; unfold BM; omega, hq2⟩
   conv => lhs; unfold spec_l1Rd_mtext.j0
   rw [if_pos rfl, oB, e2, oB]
   dsimp only
   rw [if_pos v20, if_pos (by simpa using v21), if_pos (by omega)]
  | false =>
   obtain ⟨t1, q2, h1, z1, hq2⟩ := ih q1 hq1
   obtain ⟨v3, q3, e3, v30, v31, hq3⟩ := bwf h hq2 2 (by omega) (by omega)
   have s3 := rdOf_size [(⟨#[44]⟩ : ByteArray), (⟨#[124]⟩ : ByteArray)] v3 1 (by decide)
   obtain ⟨v4, q4, e4, v40, v41, hq4⟩ := bwf h hq3 3 (by omega) (by omega)
   have loop : ∀ (n : Nat) (x6 : ByteArray) (pp : Int), n ≤ 2 → x6.size ≤ (3 - n) * (BM d + 1) → St l pp → ∃ s q, Ev (fun k => spec_l1Rd_mtext.l0 k ((d + 1 : Nat) : Int) sg x6 (rdOf ByteArray.empty [(⟨#[44]⟩ : ByteArray), (⟨#[124]⟩ : ByteArray)] v3) (n : Int) l pp) (s, q) ∧ s.size ≤ BM (d + 1) ∧ St l q := by
    intro n
    induction n with
    | zero =>
     intro x6 pp _ hx hpp
     have f1 : ((⟨#[40]⟩ : ByteArray) ++ x6).size = 1 + x6.size := bs_app _ _
     have f2 : (((⟨#[40]⟩ : ByteArray) ++ x6) ++ (⟨#[41]⟩ : ByteArray)).size = 1 + x6.size + 1 := by rw [bs_app, f1]; rfl
     refine ⟨(((⟨#[40]⟩ : ByteArray) ++ x6) ++ (⟨#[41]⟩ : ByteArray)) ++ sg, pp, Ev.step (f := fun _ => some ((((⟨#[40]⟩ : ByteArray) ++ x6) ++ (⟨#[41]⟩ : ByteArray)) ++ sg, pp)) (fun k => ?_) (Ev.now _), by rw [bs_app, f2]; unfold BM; omega, hpp⟩
     conv => lhs; unfold spec_l1Rd_mtext.l0
     rw [if_neg (by omega), if_pos (by omega), if_pos (by omega), if_pos (by omega)]
    | succ n ihn =>
     intro x6 pp hn hx hpp
     obtain ⟨t2, q5, h5, z5, hq5⟩ := ih pp hpp
     have hx3 : (3 - (n + 1)) * (BM d + 1) ≤ 26 := by
      have : n = 0 ∨ n = 1 := by omega
      rcases this with rfl | rfl <;> omega
     have f1 : (x6 ++ rdOf ByteArray.empty [(⟨#[44]⟩ : ByteArray), (⟨#[124]⟩ : ByteArray)] v3).size = x6.size + (rdOf ByteArray.empty [(⟨#[44]⟩ : ByteArray), (⟨#[124]⟩ : ByteArray)] v3).size := bs_app _ _
     have hz : ((x6 ++ rdOf ByteArray.empty [(⟨#[44]⟩ : ByteArray), (⟨#[124]⟩ : ByteArray)] v3) ++ t2).size ≤ (3 - n) * (BM d + 1) := by
      rw [bs_app, f1]
      have : (3 - n) * (BM d + 1) = (3 - (n + 1)) * (BM d + 1) + (BM d + 1) := by
       rw [show 3 - n = (3 - (n + 1)) + 1 by omega, Nat.succ_mul]
      omega
     obtain ⟨s, q, he, hs, hq⟩ := ihn _ q5 (by omega) hz hq5
     refine ⟨s, q, Ev.step (f := fun k => (spec_l1Rd_mtext.f k l pp (d : Int)).bind fun bt169 => (if (x6 ++ rdOf ByteArray.empty [(⟨#[44]⟩ : ByteArray), (⟨#[124]⟩ : ByteArray)] v3).size + bt169.1.size ≤ 9223372036854775807 then (spec_l1Rd_mtext.l0 k ((d + 1 : Nat) : Int) sg ((x6 ++ rdOf ByteArray.empty [(⟨#[44]⟩ : ByteArray), (⟨#[124]⟩ : ByteArray)] v3) ++ bt169.1) (rdOf ByteArray.empty [(⟨#[44]⟩ : ByteArray), (⟨#[124]⟩ : ByteArray)] v3) (n : Int) l bt169.2) else none)) (fun k => ?_) (Ev.bind h5 ?_), hs, hq⟩
     ·conv => lhs; unfold spec_l1Rd_mtext.l0
      rw [if_pos (by omega), if_pos (by omega), hw, show wrap64 (((n + 1 : Nat) : Int) - 1) = (n : Int) by rw [w64] <;> omega]
     ·simp only [if_pos (show (x6 ++ rdOf ByteArray.empty [(⟨#[44]⟩ : ByteArray), (⟨#[124]⟩ : ByteArray)] v3).size + t2.size ≤ 9223372036854775807 by rw [f1]; omega)]
      exact he
   obtain ⟨n4, rfl⟩ : ∃ n : Nat, v4 = (n : Int) := ⟨v4.toNat, by omega⟩
   obtain ⟨s, q5, he, hs, hq5⟩ := loop n4 t1 q4 (by omega) (by
    have : BM d + 1 ≤ (3 - n4) * (BM d + 1) := Nat.le_mul_of_pos_left _ (by omega)
    omega) hq4
   refine ⟨s, q5, hstart (Ev.step (f := fun k => (spec_l1Rd_mtext.f k l q1 (d : Int)).bind fun bt159 => ((some (([(⟨#[44]⟩ : ByteArray), (⟨#[124]⟩ : ByteArray)] : List ByteArray) : List ByteArray)).bind fun y161 => ((spec_l1Rd_below.f l bt159.2 2).bind fun bt164 => (if 0 ≤ bt164.1 then (if bt164.1 < (y161.length : Int) then ((spec_l1Rd_below.f l bt164.2 3).bind fun bt167 => (spec_l1Rd_mtext.l0 k ((d + 1 : Nat) : Int) sg bt159.1 (rdOf ByteArray.empty y161 bt164.1) bt167.1 l bt167.2)) else (none)) else (none))))) (fun k => ?_) (Ev.bind h1 ?_)), hs, hq5⟩
   ·conv => lhs; unfold spec_l1Rd_mtext.j0
    rw [if_neg (by decide), hw]
   ·simp only [oB]
    rw [e3]
    simp only [oB]
    refine Ev.ifp v30 (Ev.ifp (by simpa using v31) ?_)
    simp only [e4, oB]
    exact he
def smallD (x : PM) : Prop := x.f1.data.toList.length ≤ 20000 ∧ x.f2.length ≤ 2000
theorem smallD_of {x : PM} (h : smallN x) : smallD x := ⟨h.1, by have := h.2; omega⟩
def DrawnM (m : List PM) : Prop := m.length ≤ 40 ∧ ∀ x ∈ m, smallD x
theorem DrawnM.small {m : List PM} (h : DrawnM m) : smallM m := fun x hx => by have := h.2 x hx; unfold smallD at this; omega
theorem set_drawn {m : List PM} (h : DrawnM m) (i : Nat) (x : PM) (hx : smallD x) : DrawnM (m.set i x) :=
 ⟨by rw [List.length_set]; exact h.1, fun y hy => by
  rcases List.mem_or_eq_of_mem_set hy with h1 | rfl
  ·exact h.2 y h1
  ·exact hx⟩
theorem model_j0 {l : List Int} (h : Code l) {p : Int} (hp : St l p) {m : List PM} (hm : m.length ≤ 40 ∧ ∀ x ∈ m, smallN x) : ∃ m' q, Ev (fun k => spec_l1Rd_model.j0 k m l p) (m', q) ∧ DrawnM m' ∧ St l q := by
 have hD : DrawnM m := ⟨hm.1, fun x hx => smallD_of (hm.2 x hx)⟩
 obtain ⟨c, q, e, hq⟩ := once_f h hp 30 (by omega) (by omega)
 have hno : ∀ k, spec_l1Rd_model.j1 (k + 1) m false l q = some (m, q) := fun k => rfl
 cases c with
 | false =>
  refine ⟨m, q, Ev.step (f := fun k => spec_l1Rd_model.j1 k m false l q) (fun k => ?_) (Ev.step (f := fun _ => some (m, q)) hno (Ev.now _)), hD, hq⟩
  show ((spec_l1Rd_once.f l p 30).bind fun bt219 => (if bt219.1 = true then (spec_l1Rd_model.j1 k m (decide ((m.length : Int) > 0)) l bt219.2) else (spec_l1Rd_model.j1 k m false l bt219.2))) = _
  rw [e, oB]
  rfl
 | true =>
  have hj : ∀ {r : List PM × Int}, Ev (fun k => spec_l1Rd_model.j1 k m (decide ((m.length : Int) > 0)) l q) r → Ev (fun k => spec_l1Rd_model.j0 k m l p) r := by
   intro r hr
   refine Ev.step (fun k => ?_) hr
   show ((spec_l1Rd_once.f l p 30).bind fun bt219 => (if bt219.1 = true then (spec_l1Rd_model.j1 k m (decide ((m.length : Int) > 0)) l bt219.2) else (spec_l1Rd_model.j1 k m false l bt219.2))) = _
   rw [e, oB, if_pos rfl]
  by_cases hz : (m.length : Int) > 0
  ·rw [decide_eq_true hz] at hj
   have hml := hm.1
   obtain ⟨i, q1, e1, i0, i1, hq1⟩ := bwf h hq (m.length : Int) (by omega) (by omega)
   obtain ⟨v, q2, e2, v0, v1, hq2⟩ := bwf h hq1 3 (by omega) (by omega)
   obtain ⟨n, rfl⟩ : ∃ n : Nat, i = (n : Int) := ⟨i.toNat, by omega⟩
   have hx : smallD (rd_T42 m (n : Int)) := by
    have e9 : rd_T42 m (n : Int) = at_ m n := rfl
    rw [e9, at_lt (by omega)]
    exact hD.2 _ (List.getElem_mem _)
   have hj1 : ∀ k, spec_l1Rd_model.j1 (k + 1) m true l q = if v = 0 then ((spec_l1Rd_off.f k l q2 0 3).bind fun t => some (m.set n (⟨(rd_T42 m (n : Int)).f0, (rd_T42 m (n : Int)).f1, (rd_T42 m (n : Int)).f2, t.1⟩ : PM), t.2)) else if v = 1 then ((spec_l1Rd_off.f k l q2 1 4).bind fun t => some (m.set n (⟨t.1, (rd_T42 m (n : Int)).f1, (rd_T42 m (n : Int)).f2, (rd_T42 m (n : Int)).f3⟩ : PM), t.2)) else if v = 2 then ((spec_l1Rd_off.f k l q2 0 (n : Int)).bind fun t => if (rd_T42 m (n : Int)).f2.length < 17592186044416 then some (m.set n (⟨(rd_T42 m (n : Int)).f0, (rd_T42 m (n : Int)).f1, (rd_T42 m (n : Int)).f2 ++ [t.1], (rd_T42 m (n : Int)).f3⟩ : PM), t.2) else none) else some (m, q2) := by
    intro k
    show ((spec_l1Rd_below.f l q (m.length : Int)).bind fun bt221 => ((spec_l1Rd_below.f l bt221.2 3).bind fun bt223 => (if bt223.1 = 0 then ((spec_l1Rd_off.f k l bt223.2 0 3).bind fun bt225 => (if 0 ≤ bt221.1 then (if bt221.1 < (m.length : Int) then (some ((m.set (bt221.1 : Int).toNat (⟨(rd_T42 m bt221.1).f0, (rd_T42 m bt221.1).f1, (rd_T42 m bt221.1).f2, bt225.1⟩ : PM)), bt225.2)) else (none)) else (none))) else (if bt223.1 = 1 then ((spec_l1Rd_off.f k l bt223.2 1 4).bind fun bt228 => (if 0 ≤ bt221.1 then (if bt221.1 < (m.length : Int) then (some ((m.set (bt221.1 : Int).toNat (⟨bt228.1, (rd_T42 m bt221.1).f1, (rd_T42 m bt221.1).f2, (rd_T42 m bt221.1).f3⟩ : PM)), bt228.2)) else (none)) else (none))) else (if bt223.1 = 2 then (if 0 ≤ bt221.1 then (if bt221.1 < (m.length : Int) then ((spec_l1Rd_off.f k l bt223.2 0 bt221.1).bind fun bt232 => (if ((rd_T42 m bt221.1).f2).length < 17592186044416 then (some ((m.set (bt221.1 : Int).toNat (⟨(rd_T42 m bt221.1).f0, (rd_T42 m bt221.1).f1, (((rd_T42 m bt221.1).f2) ++ [bt232.1]), (rd_T42 m bt221.1).f3⟩ : PM)), bt232.2)) else (none))) else (none)) else (none)) else (some (m, bt223.2))))))) = _
    rw [e1, oB, e2, oB]
    simp only [if_pos i0, if_pos i1, Int.toNat_natCast]
   have hm9 : (rd_T42 m (n : Int)).f2.length ≤ 1000 := by
    have e9 : rd_T42 m (n : Int) = at_ m n := rfl
    rw [e9, at_lt (by omega)]
    exact (hm.2 _ (List.getElem_mem _)).2
   by_cases c0 : v = 0
   ·obtain ⟨x, q3, h3, hq3⟩ := off_f h hq2 0 3 (by omega) (by omega) (by omega)
    refine ⟨m.set n (⟨(rd_T42 m (n : Int)).f0, (rd_T42 m (n : Int)).f1, (rd_T42 m (n : Int)).f2, x⟩ : PM), q3, hj (Ev.step hj1 (Ev.ifp c0 (Ev.bind h3 (Ev.now _)))), set_drawn hD _ _ ⟨hx.1, hx.2⟩, hq3⟩
   ·by_cases c1 : v = 1
    ·obtain ⟨x, q3, h3, hq3⟩ := off_f h hq2 1 4 (by omega) (by omega) (by omega)
     refine ⟨m.set n (⟨x, (rd_T42 m (n : Int)).f1, (rd_T42 m (n : Int)).f2, (rd_T42 m (n : Int)).f3⟩ : PM), q3, hj (Ev.step hj1 (Ev.ifn c0 (Ev.ifp c1 (Ev.bind h3 (Ev.now _))))), set_drawn hD _ _ ⟨hx.1, hx.2⟩, hq3⟩
    ·obtain ⟨x, q3, h3, hq3⟩ := off_f h hq2 0 (n : Int) (by omega) (by omega) (by omega)
     refine ⟨m.set n (⟨(rd_T42 m (n : Int)).f0, (rd_T42 m (n : Int)).f1, (rd_T42 m (n : Int)).f2 ++ [x], (rd_T42 m (n : Int)).f3⟩ : PM), q3, hj (Ev.step hj1 (Ev.ifn c0 (Ev.ifn c1 (Ev.ifp (by omega) (Ev.bind h3 (Ev.ifp (by omega) (Ev.now _))))))), set_drawn hD _ _ ⟨hx.1, by show ((rd_T42 m (n : Int)).f2 ++ [x]).length ≤ 2000; rw [List.length_append, List.length_singleton]; omega⟩, hq3⟩
  ·rw [decide_eq_false hz] at hj
   exact ⟨m, q, hj (Ev.step (f := fun _ => some (m, q)) hno (Ev.now _)), hD, hq⟩
theorem model_ev {l : List Int} (h : Code l) {p : Int} (hp : St l p) : ∃ m q, Ev (fun k => spec_l1Rd_model.f k l p) (m, q) ∧ DrawnM m ∧ St l q := by
 obtain ⟨t1, q1, h1, z1, hq1⟩ := mtext_ev h 2 (by omega) p hp
 obtain ⟨v2, q2, e2, v20, v21, hq2⟩ := bwf h hq1 2 (by omega) (by omega)
 obtain ⟨t3, q3, h3, z3, hq3⟩ := mtext_ev h 2 (by omega) q2 hq2
 obtain ⟨v4, q4, e4, v40, v41, hq4⟩ := bwf h hq3 3 (by omega) (by omega)
 have s2 := rdOf_size [(⟨#[44]⟩ : ByteArray), (⟨#[124]⟩ : ByteArray)] v2 1 (by decide)
 have s4 := rdOf_size [(⟨#[]⟩ : ByteArray), (⟨#[63]⟩ : ByteArray), (⟨#[42]⟩ : ByteArray)] v4 1 (by decide)
 have k1 : (⟨#[40]⟩ : ByteArray).size = 1 := rfl
 have k2 : (⟨#[41]⟩ : ByteArray).size = 1 := rfl
 have b2 : BM 2 = 42 := rfl
 obtain ⟨R, hR, hR2⟩ := read_ev ((((((⟨#[40]⟩ : ByteArray) ++ t1) ++ (rdOf ByteArray.empty [(⟨#[44]⟩ : ByteArray), (⟨#[124]⟩ : ByteArray)] v2)) ++ t3) ++ (⟨#[41]⟩ : ByteArray)) ++ (rdOf ByteArray.empty [(⟨#[]⟩ : ByteArray), (⟨#[63]⟩ : ByteArray), (⟨#[42]⟩ : ByteArray)] v4))
 obtain ⟨c, q5, e5, hq5⟩ := once_f h hq4 3 (by omega) (by omega)
 have hgo : ∀ {r : List PM × Int}, Ev (fun k => if c = true then ((some (([(⟨#[40, 41]⟩ : ByteArray), (⟨#[40, 97, 41]⟩ : ByteArray), (⟨#[40, 97, 44, 98, 63, 44, 99, 42, 41]⟩ : ByteArray), (⟨#[40, 97, 124, 98, 41, 42]⟩ : ByteArray), (⟨#[40, 97, 44, 40, 98, 124, 99, 41, 43, 44, 100, 63, 41]⟩ : ByteArray), (⟨#[40, 40, 97, 44, 98, 41, 124, 40, 99, 44, 100, 41, 41, 42]⟩ : ByteArray), (⟨#[40, 97, 63, 44, 98, 63, 44, 99, 63, 41]⟩ : ByteArray)] : List ByteArray) : List ByteArray)).bind fun y209 => ((spec_l1Rd_below.f l q5 7).bind fun bt212 => (if 0 ≤ bt212.1 then (if bt212.1 < (y209.length : Int) then ((spec_ReadModel.f k (rdOf ByteArray.empty y209 bt212.1)).bind fun bt215 => (spec_l1Rd_model.j0 k bt215.1 l bt212.2)) else (none)) else (none)))) else (spec_l1Rd_model.j0 k R.1 l q5)) r → Ev (fun k => spec_l1Rd_model.f k l p) r := by
  intro r hr
  unfold spec_l1Rd_model.f
  refine Ev.bind h1 (Ev.ifp (by dsimp only; omega) (Ev.eqb rfl (Ev.eqb e2 (Ev.ifp v20 (Ev.ifp (by simpa using v21) (Ev.ifp (by simp only [bs_app]; omega) (Ev.bind h3 (Ev.ifp (by simp only [bs_app]; omega) (Ev.ifp (by simp only [bs_app]; omega) (Ev.eqb rfl (Ev.eqb e4 (Ev.ifp v40 (Ev.ifp (by simpa using v41) (Ev.ifp (by simp only [bs_app]; omega) (Ev.bind hR (Ev.eqb e5 hr))))))))))))))))
 cases c with
 | false =>
  obtain ⟨m, q, hm, hD, hq⟩ := model_j0 h hq5 hR2
  exact ⟨m, q, hgo (Ev.ifn (by decide) hm), hD, hq⟩
 | true =>
  obtain ⟨v6, q6, e6, v60, v61, hq6⟩ := bwf h hq5 7 (by omega) (by omega)
  obtain ⟨R2, hR3, hR4⟩ := read_ev (rdOf ByteArray.empty [(⟨#[40, 41]⟩ : ByteArray), (⟨#[40, 97, 41]⟩ : ByteArray), (⟨#[40, 97, 44, 98, 63, 44, 99, 42, 41]⟩ : ByteArray), (⟨#[40, 97, 124, 98, 41, 42]⟩ : ByteArray), (⟨#[40, 97, 44, 40, 98, 124, 99, 41, 43, 44, 100, 63, 41]⟩ : ByteArray), (⟨#[40, 40, 97, 44, 98, 41, 124, 40, 99, 44, 100, 41, 41, 42]⟩ : ByteArray), (⟨#[40, 97, 63, 44, 98, 63, 44, 99, 63, 41]⟩ : ByteArray)] v6)
  obtain ⟨m, q, hm, hD, hq⟩ := model_j0 h hq6 hR4
  exact ⟨m, q, hgo (Ev.ifp rfl (Ev.eqb rfl (Ev.eqb e6 (Ev.ifp v60 (Ev.ifp (by simpa using v61) (Ev.bind hR3 hm)))))), hD, hq⟩
theorem first_ev {p : List PM} (hs : smallM p) (hok : okV p = true) : Ev (fun k => spec_FirstOf.f k p) (srt (ints (fst (md p) (p.length - 1)))) := by
 have h1 := spec_ok p hs
 rw [hok] at h1
 have K := okP hok
 have ho := K.one
 have hm := K.most
 have hw : wrap64 ((p.length : Int) - 1) = ((p.length - 1 : Nat) : Int) := by rw [w64] <;> omega
 have hl := len_fst K (show p.length - 1 < p.length by omega)
 refine Ev.bind h1 ?_
 simp only [if_true]
 rw [hw]
 exact Ev.bind (e_false K (by omega)) (Ev.bind (spec_sorted _ (by rw [iLn]; omega)) (Ev.now _))
def DrawnR (w : List ByteArray) (n : Nat) : Prop := w.length ≤ n ∧ ∀ x ∈ w, x.size ≤ 20000
theorem DrawnR.snoc {w : List ByteArray} {n : Nat} {x : ByteArray} (h : DrawnR w n) (hx : x.size ≤ 20000) : DrawnR (w ++ [x]) (n + 1) :=
 ⟨by rw [List.length_append, List.length_singleton]; have := h.1; omega, fun y hy => by
  rcases List.mem_append.1 hy with h1 | h1
  ·exact h.2 y h1
  ·rw [List.mem_singleton.1 h1]; exact hx⟩
theorem name_small {m : List PM} (hD : DrawnM m) (a : Nat) (ha : a < m.length) : (rd_T42 m (a : Int)).f1.size ≤ 20000 := by
 have e9 : rd_T42 m (a : Int) = at_ m a := rfl
 rw [e9, at_lt ha]
 have := (hD.2 _ (List.getElem_mem ha)).1
 rw [Array.length_toList] at this
 exact this
theorem row_l0 {l : List Int} (h : Code l) {m : List PM} (hD : DrawnM m) (hok : okV m = true) : ∀ (n : Nat) (x5 : List ByteArray) (next : List Int) (q : Int), St l q → (∀ a ∈ next, 0 ≤ a ∧ a < (m.length : Int)) → next.length ≤ 40 → n ≤ 6 → DrawnR x5 (6 - n) →
  ∃ w q', Ev (fun k => spec_l1Rd_row.l0 k m x5 next (n : Int) l q) (w, q') ∧ DrawnR w 6 ∧ St l q' := by
 have K := okP hok
 intro n
 induction n with
 | zero =>
  intro x5 next q hq hb hl hn hx
  refine ⟨x5, q, Ev.step (f := fun k => spec_l1Rd_row.j2 k m x5 next 0 false l q) (fun k => ?_) (Ev.step (f := fun _ => some (x5, q)) (fun k => ?_) (Ev.now _)), hx, hq⟩
  ·conv => lhs; unfold spec_l1Rd_row.l0
   rw [if_neg (by omega)]
   rfl
  ·conv => lhs; unfold spec_l1Rd_row.j2
   rw [if_neg (by decide)]
 | succ n ih =>
  intro x5 next q hq hb hl hn hx
  have hx1 := hx.1
  have hst : ∀ {r : List ByteArray × Int}, Ev (fun k => spec_l1Rd_row.j2 k m x5 next ((n + 1 : Nat) : Int) (decide ((next.length : Int) > 0)) l q) r → Ev (fun k => spec_l1Rd_row.l0 k m x5 next ((n + 1 : Nat) : Int) l q) r := by
   intro r hr
   refine Ev.step (fun k => ?_) hr
   conv => lhs; unfold spec_l1Rd_row.l0
   rw [if_pos (by omega)]
  by_cases hz : 0 < next.length
  ·rw [decide_eq_true (show (next.length : Int) > 0 by omega)] at hst
   obtain ⟨i, q1, e1, i0, i1, hq1⟩ := bwf h hq (next.length : Int) (by omega) (by omega)
   obtain ⟨j, rfl⟩ : ∃ j : Nat, i = (j : Int) := ⟨i.toNat, by omega⟩
   have hj : j < next.length := by omega
   have hrd := rdZ next j hj
   have hbj := hb _ (List.getElem_mem hj)
   obtain ⟨a, ha⟩ : ∃ a : Nat, next[j] = (a : Int) := ⟨next[j].toNat, by omega⟩
   rw [ha] at hrd hbj
   have hal : a < m.length := by omega
   have hnext : ∀ (y : ByteArray) (q2 : Int), St l q2 → y.size ≤ 20000 → ∃ w q', Ev (fun k => (spec_l8Follow.f k m (a : Int)).bind fun t379 => spec_l1Rd_row.l0 k m (x5 ++ [y]) t379 (wrap64 (((n + 1 : Nat) : Int) - 1)) l q2) (w, q') ∧ DrawnR w 6 ∧ St l q' := by
    intro y q2 hq2 hy
    have hsn := hx.snoc hy
    rw [show 6 - (n + 1) + 1 = 6 - n by omega] at hsn
    have hfl := srt_small K (fol_in K a)
    obtain ⟨w, q', hw, hR, hq'⟩ := ih (x5 ++ [y]) (srt (ints (folS (md m) a))) q2 hq2 (fol_in K a) hfl (by omega) hsn
    refine ⟨w, q', Ev.bind (spec_follow K a) ?_, hR, hq'⟩
    rw [show wrap64 (((n + 1 : Nat) : Int) - 1) = (n : Int) by rw [w64] <;> omega]
    exact hw
   by_cases c4 : (rd_T42 m (a : Int)).f0 = 4
   ·obtain ⟨y, q2, e2, hy, hq2⟩ := name_f h hq1
    obtain ⟨w, q', hw, hR, hq'⟩ := hnext y q2 hq2 (by omega)
    refine ⟨w, q', hst (Ev.step (fun k => ?_) hw), hR, hq'⟩
    conv => lhs; unfold spec_l1Rd_row.j2
    rw [if_pos rfl, e1, oB]
    simp only [hrd, if_pos i0, if_pos i1, if_pos hbj.1, if_pos hbj.2, if_pos c4, e2, oB]
    rw [if_pos (by omega)]
   ·obtain ⟨w, q', hw, hR, hq'⟩ := hnext (rd_T42 m (a : Int)).f1 q1 hq1 (name_small hD a hal)
    refine ⟨w, q', hst (Ev.step (fun k => ?_) hw), hR, hq'⟩
    conv => lhs; unfold spec_l1Rd_row.j2
    rw [if_pos rfl, e1, oB]
    simp only [hrd, if_pos i0, if_pos i1, if_pos hbj.1, if_pos hbj.2, if_neg c4, oB]
    rw [if_pos (by omega)]
  ·rw [decide_eq_false (show ¬ (next.length : Int) > 0 by omega)] at hst
   refine ⟨x5, q, hst (Ev.step (f := fun _ => some (x5, q)) (fun k => ?_) (Ev.now _)), ⟨by omega, hx.2⟩, hq⟩
   conv => lhs; unfold spec_l1Rd_row.j2
   rw [if_neg (by decide)]
theorem row_l1 {l : List Int} (h : Code l) : ∀ (n : Nat) (x5 : List ByteArray) (q : Int), St l q → n ≤ 4 → DrawnR x5 (6 - n) → ∃ w q', Ev (fun k => spec_l1Rd_row.l1 k x5 (n : Int) l q) (w, q') ∧ DrawnR w 6 ∧ St l q' := by
 intro n
 induction n with
 | zero =>
  intro x5 q hq hn hx
  refine ⟨x5, q, Ev.step (f := fun _ => some (x5, q)) (fun k => ?_) (Ev.now _), hx, hq⟩
  conv => lhs; unfold spec_l1Rd_row.l1
  rw [if_neg (by omega)]
 | succ n ih =>
  intro x5 q hq hn hx
  have hx1 := hx.1
  obtain ⟨v, q1, e1, v0, v1, hq1⟩ := bwf h hq 4 (by omega) (by omega)
  have s1 := rdOf_size [(⟨#[97]⟩ : ByteArray), (⟨#[98]⟩ : ByteArray), (⟨#[99]⟩ : ByteArray), (⟨#[100]⟩ : ByteArray)] v 1 (by decide)
  have hsn := hx.snoc (x := rdOf ByteArray.empty [(⟨#[97]⟩ : ByteArray), (⟨#[98]⟩ : ByteArray), (⟨#[99]⟩ : ByteArray), (⟨#[100]⟩ : ByteArray)] v) (by omega)
  rw [show 6 - (n + 1) + 1 = 6 - n by omega] at hsn
  obtain ⟨w, q', hw, hR, hq'⟩ := ih _ q1 hq1 (by omega) hsn
  refine ⟨w, q', Ev.step (fun k => ?_) hw, hR, hq'⟩
  conv => lhs; unfold spec_l1Rd_row.l1
  rw [if_pos (by omega), oB, e1, oB, if_pos v0, if_pos (by simpa using v1), if_pos (by omega), show wrap64 (((n + 1 : Nat) : Int) - 1) = (n : Int) by rw [w64] <;> omega]
theorem row_ev {l : List Int} (h : Code l) {p : Int} (hp : St l p) {m : List PM} (hD : DrawnM m) : ∃ w q, Ev (fun k => spec_l1Rd_row.f k l p m) (w, q) ∧ DrawnR w 6 ∧ St l q := by
 have hnil : ∀ n, DrawnR [] n := fun n => ⟨Nat.zero_le _, by simp⟩
 have hoth : ∀ q, St l q → ∃ w q', Ev (fun k => spec_l1Rd_row.j0 k m [] false l q) (w, q') ∧ DrawnR w 6 ∧ St l q' := by
  intro q hq
  obtain ⟨v, q1, e1, v0, v1, hq1⟩ := bwf h hq 5 (by omega) (by omega)
  obtain ⟨n, rfl⟩ : ∃ n : Nat, v = (n : Int) := ⟨v.toNat, by omega⟩
  obtain ⟨w, q', hw, hR, hq'⟩ := row_l1 h n [] q1 hq1 (by omega) (hnil _)
  refine ⟨w, q', Ev.step (fun k => ?_) hw, hR, hq'⟩
  show ((spec_l1Rd_below.f l q 5).bind fun bt389 => spec_l1Rd_row.l1 k [] bt389.1 l bt389.2) = _
  rw [e1]
  rfl
 have h1 := spec_ok m hD.small
 cases hok : okV m with
 | false =>
  rw [hok] at h1
  obtain ⟨w, q', hw, hR⟩ := hoth p hp
  refine ⟨w, q', Ev.eqb rfl (Ev.bind h1 ?_), hR⟩
  simp only [Bool.false_eq_true, if_false]
  exact hw
 | true =>
  rw [hok] at h1
  obtain ⟨c, q1, e1, hq1⟩ := once_f h hp 3 (by omega) (by omega)
  have K := okP hok
  suffices hs : ∃ w q, Ev (fun k => spec_l1Rd_row.j0 k m [] (!c) l q1) (w, q) ∧ DrawnR w 6 ∧ St l q by
   obtain ⟨w, q, hw, hR⟩ := hs
   refine ⟨w, q, Ev.eqb rfl (Ev.bind h1 ?_), hR⟩
   simp only [if_true, e1, oB]
   exact hw
  cases c with
  | true => exact hoth q1 hq1
  | false =>
   obtain ⟨v, q2, e2, v0, v1, hq2⟩ := bwf h hq1 7 (by omega) (by omega)
   obtain ⟨n, rfl⟩ : ∃ n : Nat, v = (n : Int) := ⟨v.toNat, by omega⟩
   obtain ⟨w, q', hw, hR, hq'⟩ := row_l0 h hD hok n [] (srt (ints (fst (md m) (m.length - 1)))) q2 hq2 (fst_in K) (srt_small K (fst_in K)) (by omega) (hnil _)
   refine ⟨w, q', Ev.step (f := fun k => (spec_FirstOf.f k m).bind fun t365 => spec_l1Rd_row.l0 k m [] t365 (n : Int) l q2) (fun k => ?_) (Ev.bind (first_ev hD.small hok) hw), hR, hq'⟩
   show ((spec_FirstOf.f k m).bind fun t365 => ((spec_l1Rd_below.f l q1 7).bind fun bt368 => spec_l1Rd_row.l0 k m [] t365 bt368.1 l bt368.2)) = _
   simp only [e2, oB]
theorem draw_accepts {l : List Int} (h : Code l) : ∃ m w, Ev (fun k => spec_DrawAccepts.f k l) (m, w) ∧ DrawnM m ∧ DrawnR w 6 := by
 obtain ⟨m, q, hm, hD, hq⟩ := model_ev h (p := 0) ⟨by omega, by omega⟩
 obtain ⟨w, q2, hw, hR, _⟩ := row_ev h hq hD
 refine ⟨m, w, ?_, hD, hR⟩
 unfold spec_DrawAccepts.f
 exact Ev.eqb rfl (Ev.bind hm (Ev.bind hw (Ev.now _)))
end Go.Proofs.Ytajdfbgbkgabjaa.Pure
namespace Go.Proofs.Ytajdfbgbkgabjaa.Pure
open Go.RowKit Ytajdfbgbkgabjaa.L YtajdfbgbkgabjaaW.PrintWords YtajdfbgbkgabjaaW.PrintLast YtajdfbgbkgabjaaW.PrintMore
open MT
set_option linter.unusedVariables false
set_option linter.unusedSimpArgs false
section
variable {p : List PM} (K : OkP p)
include K
theorem samp_small {i : Nat} (hi : i < p.length) : (samp (md p) i).length ≤ 40 := by
 have := samp_len K.tr i (by rw [mL]; exact hi)
 have := K.most
 omega
theorem spec_short : ∀ i, i < p.length → Ev (fun k => spec_l8Short.f k p (i : Int)) (samp (md p) i) := by
 intro i
 induction i using Nat.strongRecOn with
 | _ i ih =>
 intro hi
 have him : i < (md p).length := by rw [mL]; exact hi
 have e : rd_T42 p (i : Int) = at_ p i := rfl
 have hk := K.f2 hi
 have e0 := nd_md hi
 have hkind : (nd (md p) i).kind = (at_ p i).f0 := by rw [e0]; rfl
 have hname : (nd (md p) i).name = (at_ p i).f1 := by rw [e0]; rfl
 have hopt : (nd (md p) i).opt = optB (at_ p i) := by rw [e0]; rfl
 have hks := kS K hi
 have hm := K.most
 have hkid : ∀ k ∈ (nd (md p) i).kids, k < i := fun k hk => (K.tr.kid him hk).2
 rw [samp_eq K.tr.ahead him, hkind, hopt, hname]
 have hst : ∀ {r : List ByteArray}, Ev (fun k => spec_l8Short.j0 k p (optB (at_ p i)) (at_ p i).f0 (at_ p i).f1 (at_ p i).f2 (at_ p i).f3) r → Ev (fun k => spec_l8Short.f k p (i : Int)) r := by
  intro r hr
  refine Ev.step (fun k => ?_) hr
  conv => lhs; unfold spec_l8Short.f
  rw [if_pos (by omega), if_pos (by omega), e]
  by_cases c : (at_ p i).f3 = 1
  ·rw [if_pos c, show optB (at_ p i) = true by unfold optB; simp [c]]
  ·rw [if_neg c, show optB (at_ p i) = ((at_ p i).f3 == 2) by unfold optB; simp [c]]
 apply hst
 by_cases ho : optB (at_ p i) = true
 ·rw [if_pos ho, ho]
  refine Ev.step (f := fun _ => some []) (fun k => ?_) (Ev.now _)
  first | rfl | (conv => lhs; unfold spec_l8Short.j0; rw [if_pos rfl])
 ·rw [if_neg ho, show optB (at_ p i) = false by simpa using ho]
  have hj : ∀ {r : List ByteArray}, Ev (fun k => if (at_ p i).f0 = 1 then some [(at_ p i).f1] else if (at_ p i).f0 = 4 then some [anyN] else spec_l8Short.l0 k p [] 0 (at_ p i).f0 (at_ p i).f1 (at_ p i).f2 (at_ p i).f3) r → Ev (fun k => spec_l8Short.j0 k p false (at_ p i).f0 (at_ p i).f1 (at_ p i).f2 (at_ p i).f3) r := by
   intro r hr
   refine Ev.step (fun k => ?_) hr
   first | rfl | (conv => lhs; unfold spec_l8Short.j0; rw [if_neg (by decide)]; rfl)
  apply hj
  by_cases c1 : (at_ p i).f0 = 1
  ·rw [if_pos c1]; exact Ev.ifp c1 (Ev.now _)
  ·by_cases c4 : (at_ p i).f0 = 4
   ·rw [if_neg c1, if_pos c4]; exact Ev.ifn c1 (Ev.ifp c4 (Ev.now _))
   ·rw [if_neg c1, if_neg c4]
    refine Ev.ifn c1 (Ev.ifn c4 ?_)
    by_cases c2 : (at_ p i).f0 = 2
    ·rw [if_pos c2]
     have loop : ∀ (m j : Nat) (out : List ByteArray), j + m = (nd (md p) i).kids.length → out.length ≤ 40 * j → Ev (fun k => spec_l8Short.l0 k p out (j : Int) (at_ p i).f0 (at_ p i).f1 (at_ p i).f2 (at_ p i).f3) (out ++ ((nd (md p) i).kids.drop j).flatMap (samp (md p))) := by
      intro m
      induction m with
      | zero =>
       intro j out hj ho
       rw [List.drop_of_length_le (by omega), List.flatMap_nil, List.append_nil]
       refine Ev.step (f := fun _ => some out) (fun k => ?_) (Ev.now _)
       conv => lhs; unfold spec_l8Short.l0
       rw [if_neg (by rw [hk, iLn]; omega)]
      | succ m ihm =>
       intro j out hj ho
       have hlt : j < (nd (md p) i).kids.length := by omega
       have hjk := hkid _ (List.getElem_mem hlt)
       have hsm := samp_small K (show (nd (md p) i).kids[j] < p.length by omega)
       rw [List.drop_eq_getElem_cons hlt, List.flatMap_cons, ← List.append_assoc]
       refine Ev.step (f := fun k => (spec_l8Short.f k p ((nd (md p) i).kids[j] : Int)).bind fun t => (if (at_ p i).f0 = 2 then (if out.length + t.length < 8796093022208 then (spec_l8Short.l0 k p (out ++ t) ((j + 1 : Nat) : Int) (at_ p i).f0 (at_ p i).f1 (at_ p i).f2 (at_ p i).f3) else none) else (if (j : Int) = 0 then (spec_l8Short.l0 k p t ((j + 1 : Nat) : Int) (at_ p i).f0 (at_ p i).f1 (at_ p i).f2 (at_ p i).f3) else (if (t.length : Int) < (out.length : Int) then (spec_l8Short.l0 k p t ((j + 1 : Nat) : Int) (at_ p i).f0 (at_ p i).f1 (at_ p i).f2 (at_ p i).f3) else (spec_l8Short.l0 k p out ((j + 1 : Nat) : Int) (at_ p i).f0 (at_ p i).f1 (at_ p i).f2 (at_ p i).f3))))) (fun k => ?_) (Ev.bind (ih _ hjk (by omega)) (Ev.ifp c2 (Ev.ifp (by omega) (ihm (j + 1) _ (by omega) (by rw [List.length_append]; omega)))))
       conv => lhs; unfold spec_l8Short.l0
       rw [if_pos (by rw [hk, iLn]; omega), if_pos (by omega), w1n hlt (by omega)]
       rw [show rd (at_ p i).f2 (j : Int) = ((nd (md p) i).kids[j] : Int) by rw [hk]; exact rd_ints hlt]
     have := loop (nd (md p) i).kids.length 0 [] (Nat.zero_add _) (by simp)
     rw [List.drop_zero, List.nil_append] at this
     exact this
    ·rw [if_neg c2]
     have loop : ∀ (m j : Nat) (out : List ByteArray), 0 < j → j + m = (nd (md p) i).kids.length → Ev (fun k => spec_l8Short.l0 k p out (j : Int) (at_ p i).f0 (at_ p i).f1 (at_ p i).f2 (at_ p i).f3) ((((nd (md p) i).kids.drop j).map (samp (md p))).foldl lessL out) := by
      intro m
      induction m with
      | zero =>
       intro j out h0 hj
       rw [List.drop_of_length_le (by omega)]
       refine Ev.step (f := fun _ => some out) (fun k => ?_) (Ev.now _)
       conv => lhs; unfold spec_l8Short.l0
       rw [if_neg (by rw [hk, iLn]; omega)]
      | succ m ihm =>
       intro j out h0 hj
       have hlt : j < (nd (md p) i).kids.length := by omega
       have hjk := hkid _ (List.getElem_mem hlt)
       rw [List.drop_eq_getElem_cons hlt, List.map_cons, List.foldl_cons]
       refine Ev.step (f := fun k => (spec_l8Short.f k p ((nd (md p) i).kids[j] : Int)).bind fun t => (if (at_ p i).f0 = 2 then (if out.length + t.length < 8796093022208 then (spec_l8Short.l0 k p (out ++ t) ((j + 1 : Nat) : Int) (at_ p i).f0 (at_ p i).f1 (at_ p i).f2 (at_ p i).f3) else none) else (if (j : Int) = 0 then (spec_l8Short.l0 k p t ((j + 1 : Nat) : Int) (at_ p i).f0 (at_ p i).f1 (at_ p i).f2 (at_ p i).f3) else (if (t.length : Int) < (out.length : Int) then (spec_l8Short.l0 k p t ((j + 1 : Nat) : Int) (at_ p i).f0 (at_ p i).f1 (at_ p i).f2 (at_ p i).f3) else (spec_l8Short.l0 k p out ((j + 1 : Nat) : Int) (at_ p i).f0 (at_ p i).f1 (at_ p i).f2 (at_ p i).f3))))) (fun k => ?_) (Ev.bind (ih _ hjk (by omega)) (Ev.ifn c2 (Ev.ifn (by omega) ?_)))
       ·conv => lhs; unfold spec_l8Short.l0
        rw [if_pos (by rw [hk, iLn]; omega), if_pos (by omega), w1n hlt (by omega)]
        rw [show rd (at_ p i).f2 (j : Int) = ((nd (md p) i).kids[j] : Int) by rw [hk]; exact rd_ints hlt]
       ·have hrec := ihm (j + 1) (lessL out (samp (md p) (nd (md p) i).kids[j])) (by omega) (by omega)
        by_cases cl : (samp (md p) (nd (md p) i).kids[j]).length < out.length
        ·rw [show lessL out (samp (md p) (nd (md p) i).kids[j]) = samp (md p) (nd (md p) i).kids[j] by unfold lessL; rw [if_pos cl]] at hrec ⊢
         exact Ev.ifp (by omega) hrec
        ·rw [show lessL out (samp (md p) (nd (md p) i).kids[j]) = out by unfold lessL; rw [if_neg cl]] at hrec ⊢
         exact Ev.ifn (by omega) hrec
     cases hkk : (nd (md p) i).kids with
     | nil =>
      refine Ev.step (f := fun _ => some []) (fun k => ?_) (Ev.now _)
      conv => lhs; unfold spec_l8Short.l0
      rw [if_neg (by rw [hk, iLn, hkk]; simp)]
     | cons k0 ks =>
      have hlt : 0 < (nd (md p) i).kids.length := by rw [hkk]; simp
      have hk0 : (nd (md p) i).kids[0] = k0 := by simp [hkk]
      have hjk := hkid k0 (by rw [hkk]; simp)
      have hl := loop ((nd (md p) i).kids.length - 1) 1 (samp (md p) k0) (by omega) (by omega)
      rw [hkk] at hl
      refine Ev.step (f := fun k => (spec_l8Short.f k p (k0 : Int)).bind fun t => (if (at_ p i).f0 = 2 then (if ([] : List ByteArray).length + t.length < 8796093022208 then (spec_l8Short.l0 k p ([] ++ t) ((0 + 1 : Nat) : Int) (at_ p i).f0 (at_ p i).f1 (at_ p i).f2 (at_ p i).f3) else none) else (if ((0 : Nat) : Int) = 0 then (spec_l8Short.l0 k p t ((0 + 1 : Nat) : Int) (at_ p i).f0 (at_ p i).f1 (at_ p i).f2 (at_ p i).f3) else (if (t.length : Int) < (([] : List ByteArray).length : Int) then (spec_l8Short.l0 k p t ((0 + 1 : Nat) : Int) (at_ p i).f0 (at_ p i).f1 (at_ p i).f2 (at_ p i).f3) else (spec_l8Short.l0 k p [] ((0 + 1 : Nat) : Int) (at_ p i).f0 (at_ p i).f1 (at_ p i).f2 (at_ p i).f3))))) (fun k => ?_) (Ev.bind (ih _ hjk (by omega)) (Ev.ifn c2 (Ev.ifp rfl hl)))
      conv => lhs; unfold spec_l8Short.l0
      rw [if_pos (by rw [hk, iLn]; omega), if_pos (by omega), show wrap64 ((0 : Int) + 1) = ((0 + 1 : Nat) : Int) by rw [w64] <;> omega]
      rw [show rd (at_ p i).f2 (0 : Int) = (k0 : Int) by rw [hk, ← hk0]; exact rd_ints hlt]
      rfl
theorem impl_short : ∀ i, i < p.length → Ev (fun k => impl_sample.f k p (i : Int)) (samp (md p) i) := by
 intro i
 induction i using Nat.strongRecOn with
 | _ i ih =>
 intro hi
 have him : i < (md p).length := by rw [mL]; exact hi
 have e : rd_T42 p (i : Int) = at_ p i := rfl
 have hk := K.f2 hi
 have e0 := nd_md hi
 have hkind : (nd (md p) i).kind = (at_ p i).f0 := by rw [e0]; rfl
 have hname : (nd (md p) i).name = (at_ p i).f1 := by rw [e0]; rfl
 have hopt : (nd (md p) i).opt = optB (at_ p i) := by rw [e0]; rfl
 have hks := kS K hi
 have hm := K.most
 have hkid : ∀ k ∈ (nd (md p) i).kids, k < i := fun k hk => (K.tr.kid him hk).2
 have hin := K.tr.kinds i him
 rw [samp_eq K.tr.ahead him, hkind, hopt, hname]
 have hst : ∀ {r : List ByteArray}, Ev (fun k => if optB (at_ p i) = true then (some ([] : List ByteArray)) else (if (at_ p i).f0 = 1 then (if ([] : List ByteArray).length < 8796093022208 then (some (([] : List ByteArray) ++ [(at_ p i).f1])) else none) else (if (at_ p i).f0 = 4 then (if ([] : List ByteArray).length < 8796093022208 then (some (([] : List ByteArray) ++ [(⟨#[97, 110, 121]⟩ : ByteArray)])) else none) else (if (at_ p i).f0 = 2 then (impl_sample.l0 k p [] (at_ p i).f2 ((at_ p i).f2.length : Int) 0) else (if 0 < ((at_ p i).f2.length : Int) then ((impl_sample.f k p (rd (at_ p i).f2 0)).bind fun t642 => (if 1 ≤ ((at_ p i).f2.length : Int) then (impl_sample.l1 k p t642 ((at_ p i).f2.drop 1) (((at_ p i).f2.drop 1).length : Int) 0) else none)) else none))))) r → Ev (fun k => impl_sample.f k p (i : Int)) r := by
  intro r hr
  refine Ev.step (fun k => ?_) hr
  conv => lhs; unfold impl_sample.f
  rw [if_pos (by omega), if_pos (by omega), e, oB, opt_f, oB]
 apply hst
 by_cases ho : optB (at_ p i) = true
 ·rw [if_pos ho]; exact Ev.ifp ho (Ev.now _)
 ·rw [if_neg ho]
  refine Ev.ifn ho ?_
  by_cases c1 : (at_ p i).f0 = 1
  ·rw [if_pos c1]; exact Ev.ifp c1 (Ev.ifp (by simp) (Ev.now _))
  ·rw [if_neg c1]
   refine Ev.ifn c1 ?_
   by_cases c4 : (at_ p i).f0 = 4
   ·rw [if_pos c4]; exact Ev.ifp c4 (Ev.ifp (by simp) (Ev.now _))
   ·rw [if_neg c4]
    refine Ev.ifn c4 ?_
    by_cases c2 : (at_ p i).f0 = 2
    ·rw [if_pos c2]
     refine Ev.ifp c2 ?_
     have loop : ∀ (m j : Nat) (out : List ByteArray), j + m = (nd (md p) i).kids.length → out.length ≤ 40 * j → Ev (fun k => impl_sample.l0 k p out (at_ p i).f2 ((at_ p i).f2.length : Int) (j : Int)) (out ++ ((nd (md p) i).kids.drop j).flatMap (samp (md p))) := by
      intro m
      induction m with
      | zero =>
       intro j out hj ho
       rw [List.drop_of_length_le (by omega), List.flatMap_nil, List.append_nil]
       refine Ev.step (f := fun _ => some out) (fun k => ?_) (Ev.now _)
       conv => lhs; unfold impl_sample.l0
       rw [if_neg (by rw [hk, iLn]; omega)]
      | succ m ihm =>
       intro j out hj ho
       have hlt : j < (nd (md p) i).kids.length := by omega
       have hjk := hkid _ (List.getElem_mem hlt)
       have hsm := samp_small K (show (nd (md p) i).kids[j] < p.length by omega)
       rw [List.drop_eq_getElem_cons hlt, List.flatMap_cons, ← List.append_assoc]
       refine Ev.step (f := fun k => (impl_sample.f k p ((nd (md p) i).kids[j] : Int)).bind fun t => if out.length + t.length < 8796093022208 then (impl_sample.l0 k p (out ++ t) (at_ p i).f2 ((at_ p i).f2.length : Int) ((j + 1 : Nat) : Int)) else none) (fun k => ?_) (Ev.bind (ih _ hjk (by omega)) (Ev.ifp (by omega) (ihm (j + 1) _ (by omega) (by rw [List.length_append]; omega))))
       conv => lhs; unfold impl_sample.l0
       rw [if_pos (by rw [hk, iLn]; omega), if_pos (by omega), if_pos (by rw [hk, iLn]; omega), w1n hlt (by omega)]
       rw [show rd (at_ p i).f2 (j : Int) = ((nd (md p) i).kids[j] : Int) by rw [hk]; exact rd_ints hlt]
     have := loop (nd (md p) i).kids.length 0 [] (Nat.zero_add _) (by simp)
     rw [List.drop_zero, List.nil_append] at this
     exact this
    ·rw [if_neg c2]
     refine Ev.ifn c2 ?_
     have h2 : 2 ≤ (nd (md p) i).kids.length := by
      rcases hin with ⟨hp, _⟩ | h | ⟨_, h⟩
      ·unfold Nd.pos at hp
       rw [hkind] at hp
       simp [c1, c4] at hp
      ·rw [hkind] at h; exact absurd h c2
      ·exact h
     have hfl : (at_ p i).f2.length = (nd (md p) i).kids.length := by rw [hk, iLn]
     have hdl : ((at_ p i).f2.drop 1).length = (nd (md p) i).kids.length - 1 := by rw [List.length_drop, hfl]
     have loop : ∀ (m j : Nat) (out : List ByteArray), j + 1 + m = (nd (md p) i).kids.length → Ev (fun k => impl_sample.l1 k p out ((at_ p i).f2.drop 1) (((at_ p i).f2.drop 1).length : Int) (j : Int)) ((((nd (md p) i).kids.drop (j + 1)).map (samp (md p))).foldl lessL out) := by
      intro m
      induction m with
      | zero =>
       intro j out hj
       rw [show (nd (md p) i).kids.drop (j + 1) = [] from List.drop_of_length_le (by omega)]
       refine Ev.step (f := fun _ => some out) (fun k => ?_) (Ev.now _)
       conv => lhs; unfold impl_sample.l1
       rw [if_neg (by rw [hdl]; omega)]
      | succ m ihm =>
       intro j out hj
       have hlt : j + 1 < (nd (md p) i).kids.length := by omega
       have hjk := hkid _ (List.getElem_mem hlt)
       have hrd : rd ((at_ p i).f2.drop 1) (j : Int) = ((nd (md p) i).kids[j + 1] : Int) := by
        have h1 := rd_ints (l := (nd (md p) i).kids) hlt
        rw [← hk] at h1
        rw [← h1]
        unfold rd
        rw [Int.toNat_natCast, Int.toNat_natCast, List.getD_eq_getElem?_getD, List.getD_eq_getElem?_getD, List.getElem?_drop, Nat.add_comm 1 j]
       rw [List.drop_eq_getElem_cons hlt, List.map_cons, List.foldl_cons]
       have hrec := ihm (j + 1) (lessL out (samp (md p) (nd (md p) i).kids[j + 1])) (by omega)
       refine Ev.step (f := fun k => (impl_sample.f k p ((nd (md p) i).kids[j + 1] : Int)).bind fun t => (if (t.length : Int) < (out.length : Int) then (impl_sample.l1 k p t ((at_ p i).f2.drop 1) (((at_ p i).f2.drop 1).length : Int) ((j + 1 : Nat) : Int)) else (impl_sample.l1 k p out ((at_ p i).f2.drop 1) (((at_ p i).f2.drop 1).length : Int) ((j + 1 : Nat) : Int)))) (fun k => ?_) (Ev.bind (ih _ hjk (by omega)) ?_)
       ·conv => lhs; unfold impl_sample.l1
        rw [if_pos (by rw [hdl]; omega), if_pos (by omega), if_pos (by rw [hdl]; omega), hrd, w1n (show j < (nd (md p) i).kids.length by omega) (by omega)]
       ·by_cases cl : (samp (md p) (nd (md p) i).kids[j + 1]).length < out.length
        ·rw [show lessL out (samp (md p) (nd (md p) i).kids[j + 1]) = samp (md p) (nd (md p) i).kids[j + 1] by unfold lessL; rw [if_pos cl]] at hrec ⊢
         exact Ev.ifp (by omega) hrec
        ·rw [show lessL out (samp (md p) (nd (md p) i).kids[j + 1]) = out by unfold lessL; rw [if_neg cl]] at hrec ⊢
         exact Ev.ifn (by omega) hrec
     have h0 : 0 < (nd (md p) i).kids.length := by omega
     have hjk := hkid _ (List.getElem_mem h0)
     have hl := loop ((nd (md p) i).kids.length - 1) 0 (samp (md p) (nd (md p) i).kids[0]) (by omega)
     have hv : minL ((nd (md p) i).kids.map (samp (md p))) = (((nd (md p) i).kids.drop (0 + 1)).map (samp (md p))).foldl lessL (samp (md p) (nd (md p) i).kids[0]) := by
      conv => lhs; rw [← List.drop_zero (l := (nd (md p) i).kids), List.drop_eq_getElem_cons h0]
      rfl
     rw [hv, show rd (at_ p i).f2 (0 : Int) = ((nd (md p) i).kids[0] : Int) by rw [hk]; exact rd_ints h0]
     exact Ev.ifp (by rw [hfl]; omega) (Ev.bind (ih _ hjk (by omega)) (Ev.ifp (by rw [hfl]; omega) hl))
end
def sampV (p : List PM) : List ByteArray × Bool := if okV p = true then (samp (md p) (p.length - 1), true) else ([], false)
theorem spec_sample (p : List PM) (hs : smallM p) : Ev (fun k => spec_Sample.f k p) (sampV p) := by
 have h1 := spec_ok p hs
 unfold sampV
 cases h : okV p with
 | false => rw [h] at h1; rw [if_neg (by decide)]; exact Ev.bind h1 (Ev.now _)
 | true =>
  rw [h] at h1
  have K := okP h
  have ho := K.one
  have hm := K.most
  rw [if_pos rfl]
  refine Ev.bind h1 (Ev.ifp rfl ?_)
  rw [show wrap64 ((p.length : Int) - 1) = ((p.length - 1 : Nat) : Int) by rw [w64] <;> omega]
  exact Ev.bind (spec_short K _ (by omega)) (Ev.now _)
theorem impl_sampleT (p : List PM) (hs : smallM p) : Ev (fun k => impl_Sample.f k p) (sampV p) := by
 have h1 := impl_ok p hs
 unfold sampV
 cases h : okV p with
 | false => rw [h] at h1; rw [if_neg (by decide)]; exact Ev.bind h1 (Ev.now _)
 | true =>
  rw [h] at h1
  have K := okP h
  have ho := K.one
  have hm := K.most
  rw [if_pos rfl]
  refine Ev.bind h1 (Ev.ifp rfl ?_)
  rw [show wrap64 ((p.length : Int) - 1) = ((p.length - 1 : Nat) : Int) by rw [w64] <;> omega]
  exact Ev.bind (impl_short K _ (by omega)) (Ev.now _)
theorem impl_null (p : List PM) (hs : smallM p) : Ev (fun k => impl_Nullable.f k p) (okV p && nul (md p) (p.length - 1)) := by
 have h2 := impl_ok p hs
 cases h : okV p with
 | false =>
  rw [h] at h2
  rw [Bool.false_and]
  exact Ev.bind h2 (Ev.now _)
 | true =>
  rw [h] at h2
  rw [Bool.true_and]
  have K := okP h
  have ho := K.one
  have hr : p.length - 1 < p.length := by omega
  obtain ⟨N, hN, HN⟩ := net_tells h
  refine Ev.bind h2 ?_
  simp only [if_true]
  rw [hN]
  simp only [oB]
  rw [if_pos ⟨by omega, by rw [HN.fst]; simp, fun l hl => by
   rw [HN.fst] at hl
   obtain ⟨j, hj, rfl⟩ := List.mem_map.1 hl
   have := len_fst K (List.mem_range.1 hj)
   rw [iLn]
   unfold LIMK
   omega, by rw [HN.nul]; simp, by rw [HN.lst]; simp⟩]
  have : mayF N p.length [-1] = nul (md p) (p.length - 1) := by
   unfold mayF
   rw [List.any_cons, List.any_nil, Bool.or_false]
   unfold endB
   rw [if_pos (by decide), show (p.length : Int) - 1 = ((p.length - 1 : Nat) : Int) by omega, HN.nul]
   exact rR hr
  rw [this]
  exact Ev.now _
theorem same_l0 (l : List ByteArray) (hl : l.length ≤ 1048576) : ∀ (n i : Nat), i + n = l.length → Ev (fun k => laws_sameTexts.l0 k l l (i : Int)) true := by
 intro n
 induction n with
 | zero =>
  intro i hi
  refine Ev.step (f := fun _ => some true) (fun k => ?_) (Ev.now _)
  unfold laws_sameTexts.l0
  rw [if_neg (by omega)]
 | succ n ih =>
  intro i hi
  refine Ev.step (f := fun k => laws_sameTexts.l0 k l l ((i + 1 : Nat) : Int)) (fun k => ?_) (ih (i + 1) (by omega))
  conv => lhs; unfold laws_sameTexts.l0
  rw [if_pos (by omega), if_pos (by omega), if_pos (by omega), if_pos rfl, w1n (show i < l.length by omega) (by omega)]
theorem same_texts (l : List ByteArray) (hl : l.length ≤ 1048576) : Ev (fun k => laws_sameTexts.f k l l) true := by
 refine Ev.congr (f := fun k => laws_sameTexts.l0 k l l ((0 : Nat) : Int)) (fun k => ?_) (same_l0 l hl l.length 0 (by omega))
 unfold laws_sameTexts.f
 rw [if_pos rfl]
 rfl
open Classical in
theorem acc_iff {p : List PM} {w : List ByteArray} : accV p w = true ↔ okV p = true ∧ w.length ≤ 200 ∧ GL (md p) (loT p) (p.length - 1) w := by
 unfold accV
 rw [Bool.and_eq_true, Bool.and_eq_true, decide_eq_true_eq, decide_eq_true_eq]
theorem FnSample : laws_FnSample.Pure := by
 intro l hm h1 h2
 have C := code_of h1 h2
 suffices this : Ev (fun k => laws_FnSample.f k l) true from this.rounds
 obtain ⟨m, q, hmd, hD, hq⟩ := model_ev C (p := 0) ⟨by omega, by omega⟩
 obtain ⟨m2, w, hacc, hD2, hR⟩ := draw_accepts C
 have hsm := hD.small
 have hds : Ev (fun k => spec_DrawSample.f k l) m := by
  unfold spec_DrawSample.f
  exact Ev.eqb rfl (Ev.bind hmd (Ev.now _))
 have hsp := spec_sample m hsm
 have him := impl_sampleT m hsm
 have hnu := impl_null m hsm
 by_cases hb : (l.length : Int) > 1048576
 ·refine Ev.congr (f := fun _ => some true) (fun k => ?_) (Ev.now _)
  unfold laws_FnSample.f laws_big.f
  rw [oB, decide_eq_true hb, if_pos rfl]
 have hst : ∀ {r : Bool}, Ev (fun k => if ((sampV m).2 != (sampV m).2) = true then (laws_FnSample.j0 k l m (sampV m).1 (sampV m).2 (sampV m).1 (sampV m).2 true) else ((laws_sameTexts.f k (sampV m).1 (sampV m).1).bind fun t693 => (if t693 = true then (laws_FnSample.j0 k l m (sampV m).1 (sampV m).2 (sampV m).1 (sampV m).2 (!(sampV m).2)) else (laws_FnSample.j0 k l m (sampV m).1 (sampV m).2 (sampV m).1 (sampV m).2 true)))) r → Ev (fun k => laws_FnSample.f k l) r := by
  intro r hr
  unfold laws_FnSample.f
  refine Ev.eqb (x := false) (by unfold laws_big.f; rw [decide_eq_false hb]) (Ev.ifn (by decide) (Ev.bind hds (Ev.bind him (Ev.bind hsp hr))))
 apply hst
 refine Ev.ifn (by simp) ?_
 cases hok : okV m with
 | false =>
  have hv : sampV m = ([], false) := by unfold sampV; rw [hok]; rfl
  rw [hv]
  refine Ev.bind (same_texts [] (by simp)) (Ev.ifp rfl (Ev.step (f := fun k => (laws_sameTexts.f k [] []).bind fun t694 => some t694) (fun k => ?_) (Ev.bind (same_texts [] (by simp)) (Ev.now _))))
  rfl
 | true =>
  have K := okP hok
  have ho := K.one
  have hr : m.length - 1 < m.length := by omega
  have hrm : m.length - 1 < (md m).length := by rw [mL]; exact hr
  have hv : sampV m = (samp (md m) (m.length - 1), true) := by unfold sampV; rw [hok]; rfl
  have hlen := samp_small K hr
  have hin := samp_in K.tr (m.length - 1) hrm
  have hmin := samp_min K.tr (m.length - 1) hrm
  have ha := impl_accepts m hsm (samp (md m) (m.length - 1))
  have ha2 := impl_accepts m hsm w
  rw [hok, Bool.true_and] at hnu
  rw [hv]
  have hsl : (samp (md m) (m.length - 1)).length ≤ 1048576 := by omega
  refine Ev.bind (same_texts _ hsl) (Ev.ifp rfl ?_)
  clear hsl
  obtain ⟨s, hs⟩ : ∃ s, samp (md m) (m.length - 1) = s := ⟨_, rfl⟩
  rw [hs] at hlen hin hmin ha ⊢
  have hav : accV m s = true := acc_iff.2 ⟨hok, by omega, hin⟩
  rw [hav] at ha
  have hfin : (((s.length : Int) == 0) == nul (md m) (m.length - 1)) = true := by
   rw [beq_iff_eq]
   apply Bool.eq_iff_iff.2
   rw [beq_iff_eq, ← GL_nil (lo := loT m)]
   constructor
   ·intro h
    have : s = [] := List.eq_nil_of_length_eq_zero (by omega)
    rw [← this]; exact hin
   ·intro h
    have := hmin [] h
    simp at this
    simp [this]
  have hend : Ev (fun k => (impl_Nullable.f k m).bind fun t702 => some (((s.length : Int) == 0) == t702)) true := by
   refine Ev.bind hnu ?_
   rw [hfin]
   exact Ev.now _
  refine Ev.step (f := fun k => (spec_DrawAccepts.f k l).bind fun bt695 => ((impl_Accepts.f k m s).bind fun t701 => (if t701 = true then (if (bt695.2.length : Int) ≥ (s.length : Int) then ((impl_Nullable.f k m).bind fun t702 => (some (((s.length : Int) == 0) == t702))) else ((impl_Accepts.f k m bt695.2).bind fun t703 => (if t703 = true then (some false) else ((impl_Nullable.f k m).bind fun t704 => (some (((s.length : Int) == 0) == t704)))))) else (some false)))) (fun k => rfl) (Ev.bind hacc (Ev.bind ha (Ev.ifp rfl ?_)))
  by_cases c : (w.length : Int) ≥ (s.length : Int)
  ·exact Ev.ifp c hend
  ·refine Ev.ifn c (Ev.bind ha2 ?_)
   have : accV m w = false := by
    cases h9 : accV m w with
    | false => rfl
    | true =>
     have := hmin w (acc_iff.1 h9).2.2
     omega
   rw [this]
   exact Ev.ifn (by decide) hend
end Go.Proofs.Ytajdfbgbkgabjaa.Pure
