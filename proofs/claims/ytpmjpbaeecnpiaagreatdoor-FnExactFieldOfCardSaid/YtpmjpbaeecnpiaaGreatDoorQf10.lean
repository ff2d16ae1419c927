/- Words and contracts for the row RowFnExactFieldOf: what the Go functions answer that it calls; printed by programs of the kit and of this session, and merged. -/
import Derived.Test.YtpmjpbaeecnpiaaGreatDoorQf9
import Derived.Lib.TrimUEq
import Derived.Lib.MapLaws
import Derived.ChangeArms
import Derived.ChangeSlices
import Derived.DataElems
namespace Go.Proofs.YtpmjpbaeecnpiaaGreatDoor.Pure
open Go.RowKit Go.Proofs.YtpmjpbaeecnpiaaGreatDoor.L Go.Proofs.YtpmjpbaeecnpiaaGreatDoorW.PrintWords Go.Proofs.YtpmjpbaeecnpiaaGreatDoorW.PrintLast Go.Proofs.YtpmjpbaeecnpiaaGreatDoorW.PrintMore
set_option linter.unusedVariables false
set_option linter.unusedSimpArgs false

theorem dec_low (s : ByteArray) (pos : Nat) (h : (s.data.toList.getD pos 0).toNat < 128) : Utf8.decode s pos = ((s.data.toList.getD pos 0).toNat, 1) := by
  rw [Lib.decode_N]
  unfold Lib.decodeN
  rw [if_pos h]
theorem dec_high (s : ByteArray) (pos : Nat) (hp : pos < s.data.toList.length) (h : ¬ (s.data.toList.getD pos 0).toNat < 128) :
    128 ≤ (Utf8.decode s pos).1 ∧ 1 ≤ (Utf8.decode s pos).2 ∧ pos + (Utf8.decode s pos).2 ≤ s.data.toList.length ∧ ∀ j, j < (Utf8.decode s pos).2 → 128 ≤ (s.data.toList.getD (pos + j) 0).toNat := by
  rw [Lib.decode_N]
  rcases Lib.decodeN_shape (s.data.toList.length - pos) (s.data.toList.getD pos 0).toNat (s.data.toList.getD (pos + 1) 0).toNat (s.data.toList.getD (pos + 2) 0).toNat (s.data.toList.getD (pos + 3) 0).toNat with ⟨a, _⟩ | ⟨a, b, c, d, e⟩ | ⟨a, b, c, c2, d, d2, e⟩ | ⟨a, b, c, c2, c3, d, d2, e⟩ | e
  · exact absurd a h
  · rw [e]
    refine ⟨d, by simp only; omega, by simp only; omega, fun j hj => ?_⟩
    simp only at hj
    match j, hj with
    | 0, _ => rw [Nat.add_zero]; omega
    | 1, _ => omega
  · rw [e]
    refine ⟨by simp only; omega, by simp only; omega, by simp only; omega, fun j hj => ?_⟩
    simp only at hj
    match j, hj with
    | 0, _ => rw [Nat.add_zero]; omega
    | 1, _ => omega
    | 2, _ => omega
  · rw [e]
    refine ⟨by simp only; omega, by simp only; omega, by simp only; omega, fun j hj => ?_⟩
    simp only at hj
    match j, hj with
    | 0, _ => rw [Nat.add_zero]; omega
    | 1, _ => omega
    | 2, _ => omega
    | 3, _ => omega
  · rw [e]
    refine ⟨by decide, by decide, by simp only; omega, fun j hj => ?_⟩
    simp only at hj
    match j, hj with
    | 0, _ => rw [Nat.add_zero]; omega
theorem blank_high {n : Nat} (h : 128 ≤ n) : blankN n = false := by
  have h1 : ¬ n = 32 := by omega
  have h2 : ¬ n = 9 := by omega
  have h3 : ¬ n = 10 := by omega
  have h4 : ¬ n = 13 := by omega
  simp [blankN, h1, h2, h3, h4]
/-- The spans, byte by byte. -/
def scan (l : List UInt8) : Nat → Nat → Option Nat → List (Nat × Nat) → List (Nat × Nat) × Option Nat
  | 0, _, st, acc => (acc, st)
  | f + 1, pos, st, acc =>
    if blankN (l.getD pos 0).toNat = true then
      (match st with
       | some a => scan l f (pos + 1) none (acc ++ [(a, pos)])
       | none => scan l f (pos + 1) none acc)
    else scan l f (pos + 1) (some (st.getD pos)) acc
theorem scan_s (l : List UInt8) (f pos : Nat) (st : Option Nat) (acc : List (Nat × Nat)) : scan l (f + 1) pos st acc = if blankN (l.getD pos 0).toNat = true then (match st with | some a => scan l f (pos + 1) none (acc ++ [(a, pos)]) | none => scan l f (pos + 1) none acc) else scan l f (pos + 1) (some (st.getD pos)) acc := rfl
theorem spans_s (s : ByteArray) (f pos : Nat) (st : Option Nat) (acc : List (Nat × Nat)) : Lib.spansFromP blankN s (f + 1) pos st acc = if pos < s.size then (if blankN (Utf8.decode s pos).1 = true then (match st with | some a => Lib.spansFromP blankN s f (pos + (Utf8.decode s pos).2) none (acc ++ [(a, pos)]) | none => Lib.spansFromP blankN s f (pos + (Utf8.decode s pos).2) none acc) else (match st with | some a => Lib.spansFromP blankN s f (pos + (Utf8.decode s pos).2) (some a) acc | none => Lib.spansFromP blankN s f (pos + (Utf8.decode s pos).2) (some pos) acc)) else (acc, st) := rfl
theorem scan_skip (l : List UInt8) : ∀ (w m pos : Nat) (st : Option Nat) (acc : List (Nat × Nat)), (∀ j, j < w + 1 → blankN (l.getD (pos + j) 0).toNat = false) → scan l (m + (w + 1)) pos st acc = scan l m (pos + (w + 1)) (some (st.getD pos)) acc
  | 0, m, pos, st, acc, h => by
    have h0 := h 0 (by omega)
    rw [Nat.add_zero] at h0
    rw [show m + (0 + 1) = m + 1 by omega, scan_s, if_neg (by rw [h0]; decide)]
  | w + 1, m, pos, st, acc, h => by
    have h0 := h 0 (by omega)
    rw [Nat.add_zero] at h0
    rw [show m + (w + 1 + 1) = (m + (w + 1)) + 1 by omega, scan_s, if_neg (by rw [h0]; decide), scan_skip l w m (pos + 1) _ acc (fun j hj => by
      have := h (j + 1) (by omega)
      rwa [show pos + (j + 1) = pos + 1 + j by omega] at this), show pos + 1 + (w + 1) = pos + (w + 1 + 1) by omega]
    rfl
theorem spans_scan (s : ByteArray) : ∀ (n pos f : Nat) (st : Option Nat) (acc : List (Nat × Nat)), pos + n = s.data.toList.length → n ≤ f → Lib.spansFromP blankN s f pos st acc = scan s.data.toList n pos st acc := by
  intro n
  induction n using Nat.strongRecOn with
  | _ n ih =>
  intro pos f st acc hp hf
  cases n with
  | zero => rw [Lib.spansFromP_end _ _ _ _ _ _ (by rw [sz]; omega), scan]
  | succ n =>
    obtain ⟨f, rfl⟩ : ∃ g, f = g + 1 := ⟨f - 1, by omega⟩
    rw [spans_s, if_pos (by rw [sz]; omega)]
    by_cases hlow : (s.data.toList.getD pos 0).toNat < 128
    · rw [dec_low s pos hlow, scan_s]
      simp only
      by_cases hb : blankN (s.data.toList.getD pos 0).toNat = true
      · rw [if_pos hb, if_pos hb]
        cases st with
        | some a => exact ih n (by omega) (pos + 1) f _ _ (by omega) (by omega)
        | none => exact ih n (by omega) (pos + 1) f _ _ (by omega) (by omega)
      · rw [if_neg hb, if_neg hb]
        cases st with
        | some a => exact ih n (by omega) (pos + 1) f _ _ (by omega) (by omega)
        | none => exact ih n (by omega) (pos + 1) f _ _ (by omega) (by omega)
    · obtain ⟨d1, d2, d3, d4⟩ := dec_high s pos (by omega) hlow
      rw [if_neg (by rw [blank_high d1]; decide)]
      generalize (Utf8.decode s pos).2 = w at d2 d3 d4
      obtain ⟨w, rfl⟩ : ∃ v, w = v + 1 := ⟨w - 1, by omega⟩
      have hsk := scan_skip s.data.toList w (n - w) pos st acc (fun j hj => blank_high (d4 j hj))
      rw [show n + 1 = n - w + (w + 1) by omega, hsk]
      cases st with
      | some a => exact ih (n - w) (by omega) (pos + (w + 1)) f _ _ (by omega) (by omega)
      | none => exact ih (n - w) (by omega) (pos + (w + 1)) f _ _ (by omega) (by omega)
def pieces (s : ByteArray) (L : List (Nat × Nat)) : List ByteArray := L.map fun x => s.extract x.1 x.2
theorem words_scan (s : ByteArray) : wordsV s = pieces s (Lib.closeSpans s (scan s.data.toList s.data.toList.length 0 none [])) := by
  unfold wordsV Lib.goFieldsP Lib.spansOfP pieces
  rw [spans_scan s s.data.toList.length 0 s.size none [] (by omega) (by rw [sz]; omega)]
theorem blank_spec (n : Nat) : spec_l7Blank.f (n : Int) = some (blankN n) := by
  unfold spec_l7Blank.f blankN
  by_cases h1 : n = 32
  · subst h1; rfl
  rw [if_neg (by omega)]
  by_cases h2 : n = 9
  · subst h2; rfl
  rw [if_neg (by omega)]
  by_cases h3 : n = 10
  · subst h3; rfl
  rw [if_neg (by omega)]
  by_cases h4 : n = 13
  · subst h4; rfl
  have h5 : ((n : Int) == 13) = false := beq_eq_false_iff_ne.2 (by omega)
  rw [h5]
  simp [h1, h2, h3, h4]
def curV (s : ByteArray) (st : Option Nat) (i : Nat) : ByteArray := match st with | some a => s.extract a i | none => ⟨#[]⟩
theorem ext_next (s : ByteArray) (a i : Nat) (ha : a ≤ i) (hi : i < s.data.toList.length) : s.extract a i ++ s.extract i (i + 1) = s.extract a (i + 1) := by
  apply ba_ext
  rw [ba_app, ex1 s i hi]
  rw [ByteArray.data_extract, Array.toList_extract, ByteArray.data_extract, Array.toList_extract]
  simp only [List.extract_eq_take_drop]
  rw [show i + 1 - a = (i - a) + 1 by omega, List.take_succ_eq_append_getElem (by rw [List.length_drop]; omega)]
  congr 1
  simp only [List.getElem_drop]
  congr 2
  omega
theorem curV_size (s : ByteArray) (st : Option Nat) (i : Nat) : (curV s st i).data.toList.length ≤ s.data.toList.length := by
  unfold curV
  cases st with
  | some a =>
    rw [ByteArray.data_extract, Array.toList_extract]
    simp only [List.extract_eq_take_drop, List.length_take, List.length_drop]
    omega
  | none => simp
theorem curV_ne (s : ByteArray) (a i : Nat) (ha : a < i) (hi : i ≤ s.data.toList.length) : s.extract a i ≠ ⟨#[]⟩ := by
  intro e
  have := congrArg (fun x : ByteArray => x.data.toList.length) e
  simp only at this
  rw [ByteArray.data_extract, Array.toList_extract] at this
  simp only [List.extract_eq_take_drop, List.length_take, List.length_drop] at this
  have h0 : ((⟨#[]⟩ : ByteArray).data.toList.length) = 0 := rfl
  rw [h0] at this
  omega
theorem toList_nil {x : ByteArray} : x.toList = ([] : List UInt8) ↔ x = ⟨#[]⟩ := by
  rw [Lib.toList_data]
  exact ⟨fun h => ba_ext (by rw [h]), fun h => by rw [h]⟩
theorem spec_words_l0 (s : ByteArray) (hs : s.data.toList.length ≤ 1048576) : ∀ (n i : Nat) (st : Option Nat) (acc : List (Nat × Nat)), i + n = s.data.toList.length → (∀ a, st = some a → a < i) → acc.length ≤ i →
    Ev (fun k => spec_l7Words.l0 k s (pieces s acc) (curV s st i) (i : Int)) (pieces s (Lib.closeSpans s (scan s.data.toList n i st acc))) := by
  intro n
  induction n with
  | zero =>
    intro i st acc hi hst hacc
    have hlen : (pieces s acc).length < 8796093022208 := by unfold pieces; rw [List.length_map]; omega
    have hend : ∀ L : List ByteArray, Ev (fun k => spec_l7Words.l0 k s L (⟨#[]⟩ : ByteArray) ((i + 1 : Nat) : Int)) L := fun L => by
      refine Ev.step (f := fun _ => some L) (fun k => ?_) (Ev.now _)
      conv => lhs; unfold spec_l7Words.l0
      rw [if_neg (by rw [sz]; omega)]
    have hw : wrap64 ((i : Int) + 1) = ((i + 1 : Nat) : Int) := by rw [w64] <;> omega
    rw [scan]
    unfold Lib.closeSpans
    cases st with
    | none =>
      refine Ev.step (f := fun k => spec_l7Words.j1 k s (pieces s acc) (curV s none i) (i : Int) false) (fun k => ?_) ?_
      · conv => lhs; unfold spec_l7Words.l0
        rw [if_pos (by rw [sz]; omega), if_neg (by rw [sz]; omega)]
      · refine Ev.step (fun k => ?_) (hend (pieces s acc))
        conv => lhs; unfold spec_l7Words.j1
        rw [if_neg (by decide), show curV s none i = ⟨#[]⟩ from rfl, if_pos (toList_nil.2 rfl), hw]
    | some a =>
      have ha := hst a rfl
      have hne := curV_ne s a i ha (by omega)
      have hp : pieces s acc ++ [s.extract a i] = pieces s (acc ++ [(a, s.size)]) := by
        unfold pieces
        rw [List.map_append, show i = s.size by rw [sz]; omega]
        rfl
      have he := hend (pieces s acc ++ [s.extract a i])
      refine Ev.step (f := fun k => spec_l7Words.j1 k s (pieces s acc) (curV s (some a) i) (i : Int) false) (fun k => ?_) ?_
      · conv => lhs; unfold spec_l7Words.l0
        rw [if_pos (by rw [sz]; omega), if_neg (by rw [sz]; omega)]
      · simp only
        rw [← hp]
        refine Ev.step (fun k => ?_) he
        conv => lhs; unfold spec_l7Words.j1
        rw [if_neg (by decide), show curV s (some a) i = s.extract a i from rfl, if_neg (fun h => hne (toList_nil.1 h)), if_pos hlen, hw]
  | succ n ih =>
    intro i st acc hi hst hacc
    have hlt : i < s.data.toList.length := by omega
    have hlen : (pieces s acc).length < 8796093022208 := by unfold pieces; rw [List.length_map]; omega
    have hw : wrap64 ((i : Int) + 1) = ((i + 1 : Nat) : Int) := by rw [w64] <;> omega
    have hgd : s.data.toList.getD i 0 = s.data.toList[i] := by rw [List.getD_eq_getElem?_getD, List.getElem?_eq_getElem hlt]; rfl
    have hbl := blank_spec (s.data.toList[i]).toNat
    rw [scan_s, hgd]
    refine Ev.step (f := fun k => spec_l7Words.j1 k s (pieces s acc) (curV s st i) (i : Int) (!(blankN (s.data.toList[i]).toNat))) (fun k => ?_) ?_
    · conv => lhs; unfold spec_l7Words.l0
      rw [if_pos (by rw [sz]; omega), if_pos (by rw [sz]; omega), if_pos (by omega), bt_nat s i hlt, hbl, Option.bind_some]
    · cases hb : blankN (s.data.toList[i]).toNat with
      | true =>
        simp only [if_true, Bool.not_true]
        cases st with
        | none =>
          refine Ev.step (fun k => ?_) (ih (i + 1) none acc (by omega) (fun a h => by cases h) (by omega))
          conv => lhs; unfold spec_l7Words.j1
          rw [if_neg (by decide), show curV s none i = ⟨#[]⟩ from rfl, if_pos (toList_nil.2 rfl), hw]
          rfl
        | some a =>
          have ha := hst a rfl
          have hne := curV_ne s a i ha (by omega)
          have hp : pieces s acc ++ [s.extract a i] = pieces s (acc ++ [(a, i)]) := by
            unfold pieces
            rw [List.map_append]
            rfl
          have he := ih (i + 1) none (acc ++ [(a, i)]) (by omega) (fun a h => by cases h) (by rw [List.length_append, List.length_cons, List.length_nil]; omega)
          rw [← hp] at he
          refine Ev.step (fun k => ?_) he
          conv => lhs; unfold spec_l7Words.j1
          rw [if_neg (by decide), show curV s (some a) i = s.extract a i from rfl, if_neg (fun h => hne (toList_nil.1 h)), if_pos hlen, hw]
          rfl
      | false =>
        simp only [Bool.false_eq_true, if_false, Bool.not_false]
        have hc : curV s st i ++ s.extract i (i + 1) = curV s (some (st.getD i)) (i + 1) := by
          cases st with
          | none =>
            show (⟨#[]⟩ : ByteArray) ++ s.extract i (i + 1) = s.extract i (i + 1)
            apply ba_ext
            rw [ba_app]
            rfl
          | some a => exact ext_next s a i (by have := hst a rfl; omega) hlt
        have hsz1 : (s.extract i (i + 1)).size = 1 := by rw [sz, ex1 s i hlt]; rfl
        have hcs := curV_size s st i
        have he := ih (i + 1) (some (st.getD i)) acc (by omega) (fun a h => by
          cases h
          cases st with
          | none => show i < i + 1; omega
          | some b => have := hst b rfl; show b < i + 1; omega) (by omega)
        refine Ev.step (fun k => ?_) he
        conv => lhs; unfold spec_l7Words.j1
        rw [if_pos rfl, if_pos (by omega), hw, if_pos (by omega), if_pos (by rw [sz]; omega), Int.toNat_natCast, Int.toNat_natCast, if_pos (by rw [hsz1, sz]; omega), hc]
theorem spec_words (s : ByteArray) (hs : s.data.toList.length ≤ 1048576) : Ev (fun k => spec_l7Words.f k s) (wordsV s) := by
  rw [words_scan]
  exact Ev.congr (fun k => rfl) (spec_words_l0 s hs s.data.toList.length 0 none [] (by omega) (fun a h => by cases h) (by simp))
theorem rdB {l : List ByteArray} {i : Nat} (h : i < l.length) : rdOf ByteArray.empty l (i : Int) = l[i] := by
  unfold rdOf
  simp [h]
theorem spec_join_l0 (xs : List ByteArray) (hn : xs.length ≤ 1048577) (hb : sumB xs ≤ 4398046511104) : ∀ (n i : Nat), i + n = xs.length → Ev (fun k => spec_l7Join.l0 k xs (mkB (joinV (xs.take i))) (i : Int)) (mkB (joinV xs)) := by
  intro n
  induction n with
  | zero =>
    intro i hi
    rw [List.take_of_length_le (by omega)]
    refine Ev.step (f := fun _ => some (mkB (joinV xs))) (fun k => ?_) (Ev.now _)
    conv => lhs; unfold spec_l7Join.l0
    rw [if_neg (by omega)]
  | succ n ih =>
    intro i hi
    have hlt : i < xs.length := by omega
    have hw : wrap64 ((i : Int) + 1) = ((i + 1 : Nat) : Int) := by rw [w64] <;> omega
    have h1 := joinV_len (xs.take i)
    have h2 := sumB_le xs (i + 1)
    have h3 := sumB_take hlt
    have h4 : (xs.take i).length ≤ xs.length := by rw [List.length_take]; omega
    have hsz : (mkB (joinV (xs.take i))).size = (joinV (xs.take i)).length := by rw [sz, mkB_list]
    refine Ev.step (fun k => ?_) (ih (i + 1) (by omega))
    conv => lhs; unfold spec_l7Join.l0
    cases i with
    | zero =>
      have e : mkB (joinV (xs.take 0)) ++ xs[0] = mkB (joinV (xs.take 1)) := by
        apply ba_ext
        rw [ba_app, mkB_list, mkB_list]
        cases xs with
        | nil => cases hlt
        | cons x r => simp [joinV]
      rw [if_pos (by omega), if_neg (by omega), if_pos (by omega), rdB hlt, if_pos (by omega), e, hw]
    | succ i =>
      have e : mkB (joinV (xs.take (i + 1))) ++ (⟨#[32]⟩ : ByteArray) ++ xs[i + 1] = mkB (joinV (xs.take (i + 2))) := by
        apply ba_ext
        rw [ba_app, ba_app, mkB_list, mkB_list, joinV_step hlt]
        simp
      have hs1 : (mkB (joinV (xs.take (i + 1))) ++ (⟨#[32]⟩ : ByteArray)).size = (joinV (xs.take (i + 1))).length + 1 := by
        rw [sz, ba_app, mkB_list, List.length_append]
        rfl
      rw [if_pos (by omega), if_pos (by omega), if_pos (by omega), if_pos (by omega), rdB hlt, if_pos (by rw [hs1]; omega), e, hw]
def whiteV (s : ByteArray) : ByteArray := mkB (joinV (wordsV s))
theorem spec_white (s : ByteArray) (hs : s.data.toList.length ≤ 1048576) : Ev (fun k => spec_White.f k s 2) (whiteV s) := by
  have h1 := words_count s
  have h2 := sumB_bound (wordsV s) (words_size s)
  have h3 : sumB (wordsV s) ≤ 4398046511104 := by
    have : (wordsV s).length * s.size ≤ 1048577 * 1048576 := Nat.mul_le_mul (by rw [sz] at h1; omega) (by rw [sz]; exact hs)
    omega
  have hj := spec_join_l0 (wordsV s) (by rw [sz] at h1; omega) h3 (wordsV s).length 0 (by omega)
  have : Ev (fun k => spec_l7Join.f k (wordsV s)) (whiteV s) := Ev.congr (fun k => rfl) hj
  refine Ev.congr (f := fun k => (spec_l7Words.f k s).bind fun t => (spec_l7Join.f k t)) (fun k => ?_) (Ev.bind (spec_words s hs) this)
  unfold spec_White.f
  rw [if_pos rfl]
theorem impl_white (s : ByteArray) (hs : s.data.toList.length ≤ 1048576) : impl_White.f s 2 = some (whiteV s) := by
  unfold impl_White.f
  rw [if_pos ⟨rfl, by rw [sz]; exact hs⟩]
  rfl
end Go.Proofs.YtpmjpbaeecnpiaaGreatDoor.Pure

namespace Go.Proofs.YtpmjpbaeecnpiaaGreatDoor.Pure
open Go.RowKit Go.Proofs.YtpmjpbaeecnpiaaGreatDoor.L Go.Proofs.YtpmjpbaeecnpiaaGreatDoorW.PrintWords Go.Proofs.YtpmjpbaeecnpiaaGreatDoorW.PrintLast Go.Proofs.YtpmjpbaeecnpiaaGreatDoorW.PrintMore
open DT MT
set_option linter.unusedVariables false
set_option linter.unusedSimpArgs false

def atV (l : List It) (j : Nat) : List At := match l[j]? with | some x => x.f3 | none => []
theorem atV_at {l : List It} {j : Nat} (h : j < l.length) : atV l j = l[j].f3 := by
  unfold atV; rw [List.getElem?_eq_getElem h]
/-- What an attribute of this name says. -/
def hitV (nm : ByteArray) (L : List At) : List ByteArray := (L.filter fun a => decide (a.f0.toList = nm.toList)).map (·.f1)
/-- What the elements say. -/
def saysV (l : List It) (nm : ByteArray) (K : List Nat) : List ByteArray := K.flatMap fun (j : Nat) => if nm.toList = ([] : List UInt8) then [mkB (txtV l (j : Int))] else hitV nm (atV l j)
def lastD (A : List ByteArray) : ByteArray := A.getLast?.getD ⟨#[]⟩
theorem lastD_snoc (A : List ByteArray) (x : ByteArray) : lastD (A ++ [x]) = x := by unfold lastD; simp
def outV (A : List ByteArray) : ByteArray × Int := if A.length = 1 then (whiteV (lastD A), 1) else (⟨#[]⟩, (A.length : Int))
def okA (A : List ByteArray) : Prop := ∀ x ∈ A, x.data.toList.length ≤ 1048576
theorem okA_last {A : List ByteArray} (h : okA A) : (lastD A).data.toList.length ≤ 1048576 := by
  unfold lastD
  cases hx : A.getLast? with
  | none => simp
  | some x => exact h x (List.mem_of_getLast? hx)
theorem okA_snoc {A : List ByteArray} {x : ByteArray} (h : okA A) (hx : x.data.toList.length ≤ 1048576) : okA (A ++ [x]) := by
  intro y hy
  rcases List.mem_append.1 hy with h1 | h1
  · exact h y h1
  · rw [List.mem_singleton] at h1
    rw [h1]; exact hx
theorem hit_drop (nm : ByteArray) (L : List At) {q : Nat} (h : q < L.length) : hitV nm (L.drop q) = (if L[q].f0.toList = nm.toList then [L[q].f1] else []) ++ hitV nm (L.drop (q + 1)) := by
  unfold hitV
  rw [List.drop_eq_getElem_cons h, List.filter_cons]
  by_cases c : L[q].f0.toList = nm.toList
  · rw [if_pos (by simpa using c), if_pos c]
    rfl
  · rw [if_neg (by simpa using c), if_neg c]
    rfl
theorem says_drop (l : List It) (nm : ByteArray) (K : List Nat) {i : Nat} (h : i < K.length) : saysV l nm (K.drop i) = (if nm.toList = ([] : List UInt8) then [mkB (txtV l (K[i] : Int))] else hitV nm (atV l K[i])) ++ saysV l nm (K.drop (i + 1)) := by
  unfold saysV
  rw [List.drop_eq_getElem_cons h, List.flatMap_cons]
def whD (A : List ByteArray) : ByteArray := if A = [] then ⟨#[]⟩ else whiteV (lastD A)
theorem whD_snoc (A : List ByteArray) (x : ByteArray) : whD (A ++ [x]) = whiteV x := by
  unfold whD
  rw [if_neg (by simp), lastD_snoc]
section
variable (l : List It) (hsm : smallD l) (nm : ByteArray)
include hsm
theorem ifv_l1 (K : List Nat) (i j : Nat) (hj : j < l.length) (R : ByteArray × Int) : ∀ (n q : Nat) (A : List ByteArray), q + n = l[j].f3.length → A.length ≤ 1048577 * i + q → i ≤ 200 → okA A →
    (∀ A' : List ByteArray, A' = A ++ hitV nm (l[j].f3.drop q) → okA A' → A'.length ≤ 1048577 * (i + 1) → Ev (fun k => impl_fieldOf.l0 k l nm (lastD A') (A'.length : Int) (ints K) (K.length : Int) (wrap64 ((i : Int) + 1))) R) →
    Ev (fun k => impl_fieldOf.l1 k l nm (lastD A) (A.length : Int) (ints K) (K.length : Int) (i : Int) l[j].f3 (l[j].f3.length : Int) (q : Int)) R := by
  have hs3 := (hsm _ (List.getElem_mem hj)).2.2
  intro n
  induction n with
  | zero =>
    intro q A hq hA hi ok h
    have h1 := h A (by rw [List.drop_eq_nil_of_le (by omega)]; simp [hitV]) ok (by have := hs3.1; omega)
    refine Ev.step (fun k => ?_) h1
    conv => lhs; unfold impl_fieldOf.l1
    rw [if_neg (by omega)]
  | succ n ih =>
    intro q A hq hA hi ok h
    have hlt : q < l[j].f3.length := by omega
    have hsa := hs3.2 _ (List.getElem_mem hlt)
    have hw : wrap64 ((q : Int) + 1) = ((q + 1 : Nat) : Int) := by rw [w64] <;> (have := hs3.1; omega)
    have hd1 := hit_drop nm l[j].f3 hlt
    by_cases c : l[j].f3[q].f0.toList = nm.toList
    · rw [if_pos c] at hd1
      have hwA : wrap64 ((A.length : Int) + 1) = ((A ++ [l[j].f3[q].f1]).length : Int) := by rw [List.length_append, List.length_cons, List.length_nil, w64] <;> (have := hs3.1; omega)
      have he := ih (q + 1) (A ++ [l[j].f3[q].f1]) (by omega) (by rw [List.length_append, List.length_cons, List.length_nil]; omega) hi (okA_snoc ok (by rw [← sz]; exact hsa.2)) (fun A' e o b => h A' (by rw [e, hd1, List.append_assoc]) o b)
      rw [lastD_snoc] at he
      refine Ev.step (fun k => ?_) he
      conv => lhs; unfold impl_fieldOf.l1
      rw [if_pos (by omega), if_pos (by omega), if_pos (by omega), rdAt _ _ hlt, if_pos c, hwA, hw]
    · rw [if_neg c, List.nil_append] at hd1
      have he := ih (q + 1) A (by omega) (by omega) hi ok (fun A' e o b => h A' (by rw [e, hd1]) o b)
      refine Ev.step (fun k => ?_) he
      conv => lhs; unfold impl_fieldOf.l1
      rw [if_pos (by omega), if_pos (by omega), if_pos (by omega), rdAt _ _ hlt, if_neg c, hw]
theorem ifv_l0 (hd : docV l = true) (K : List Nat) (hK : ∀ j ∈ K, j < l.length) (hKl : K.length ≤ 200) : ∀ (n i : Nat) (A : List ByteArray), i + n = K.length → A.length ≤ 1048577 * i → okA A →
    Ev (fun k => impl_fieldOf.l0 k l nm (lastD A) (A.length : Int) (ints K) (K.length : Int) (i : Int)) (outV (A ++ saysV l nm (K.drop i))) := by
  obtain ⟨_, h2, V⟩ := doc_val hd
  intro n
  induction n with
  | zero =>
    intro i A hi hA ok
    rw [List.drop_eq_nil_of_le (by omega)]
    have e : A ++ saysV l nm [] = A := by simp [saysV]
    rw [e]
    unfold outV
    by_cases c : A.length = 1
    · rw [if_pos c]
      refine Ev.step (f := fun k => (impl_White.f (lastD A) 2).bind fun t444 => (some (t444, (A.length : Int)))) (fun k => ?_) ?_
      · conv => lhs; unfold impl_fieldOf.l0
        rw [if_neg (by omega), if_pos (by omega)]
      · rw [impl_white (lastD A) (okA_last ok), c]
        exact Ev.now _
    · rw [if_neg c]
      refine Ev.step (f := fun _ => some ((⟨#[]⟩ : ByteArray), (A.length : Int))) (fun k => ?_) (Ev.now _)
      conv => lhs; unfold impl_fieldOf.l0
      rw [if_neg (by omega), if_neg (by omega)]
  | succ n ih =>
    intro i A hi hA ok
    have hlt : i < K.length := by omega
    have hj := hK _ (List.getElem_mem hlt)
    have hw : wrap64 ((i : Int) + 1) = ((i + 1 : Nat) : Int) := by rw [w64] <;> omega
    rw [says_drop l nm K hlt, ← List.append_assoc]
    by_cases c : nm.toList = ([] : List UInt8)
    · rw [if_pos c]
      have hwA : wrap64 ((A.length : Int) + 1) = ((A ++ [mkB (txtV l (K[i] : Int))]).length : Int) := by rw [List.length_append, List.length_cons, List.length_nil, w64] <;> omega
      have he := ih (i + 1) (A ++ [mkB (txtV l (K[i] : Int))]) (by omega) (by rw [List.length_append, List.length_cons, List.length_nil]; omega) (okA_snoc ok (by rw [mkB_list]; have := txtV_doc hd hsm (K[i] : Int); omega))
      rw [lastD_snoc] at he
      refine Ev.step (fun k => ?_) he
      conv => lhs; unfold impl_fieldOf.l0
      rw [if_pos (by omega), if_pos (by omega), if_pos (by rw [ints_len]; omega), if_pos c, rdI K i hlt, impl_txt hd hsm, Option.bind_some, hwA, hw]
    · rw [if_neg c, atV_at hj]
      have he := ifv_l1 l hsm nm K i K[i] hj (outV (A ++ hitV nm l[K[i]].f3 ++ saysV l nm (K.drop (i + 1)))) l[K[i]].f3.length 0 A (by omega) (by omega) (by omega) ok (fun A' e o b => by
        rw [List.drop_zero] at e
        rw [hw, ← e]
        exact ih (i + 1) A' (by omega) b o)
      refine Ev.step (fun k => ?_) he
      conv => lhs; unfold impl_fieldOf.l0
      rw [if_pos (by omega), if_pos (by omega), if_pos (by rw [ints_len]; omega), if_neg c, rdI K i hlt, if_pos (by omega), if_pos (by omega), rdIt l K[i] hj]
      rfl
theorem sfv_l1 (K : List Nat) (i : Nat) (hi2 : i < K.length) (hj : K[i] < l.length) (R : ByteArray × Int) : ∀ (n q : Nat) (A : List ByteArray), q + n = l[K[i]].f3.length → A.length ≤ 1048577 * i + q → i ≤ 200 → okA A →
    (∀ A' : List ByteArray, A' = A ++ hitV nm (l[K[i]].f3.drop q) → okA A' → A'.length ≤ 1048577 * (i + 1) → Ev (fun k => spec_l11Value.l0 k l nm (ints K) (whD A') (A'.length : Int) (wrap64 ((i : Int) + 1))) R) →
    Ev (fun k => spec_l11Value.l1 k l nm (ints K) (whD A) (A.length : Int) (i : Int) (q : Int)) R := by
  have hs3 := (hsm _ (List.getElem_mem hj)).2.2
  intro n
  induction n with
  | zero =>
    intro q A hq hA hi ok h
    have h1 := h A (by rw [List.drop_eq_nil_of_le (by omega)]; simp [hitV]) ok (by have := hs3.1; omega)
    refine Ev.step (fun k => ?_) h1
    conv => lhs; unfold spec_l11Value.l1
    rw [if_pos (by omega), if_pos (by rw [ints_len]; omega), rdI K i hi2, if_pos (by omega), if_pos (by omega), rdIt l K[i] hj, if_neg (by omega)]
  | succ n ih =>
    intro q A hq hA hi ok h
    have hlt : q < l[K[i]].f3.length := by omega
    have hsa := hs3.2 _ (List.getElem_mem hlt)
    have hw : wrap64 ((q : Int) + 1) = ((q + 1 : Nat) : Int) := by rw [w64] <;> (have := hs3.1; omega)
    have hd1 := hit_drop nm l[K[i]].f3 hlt
    by_cases c : l[K[i]].f3[q].f0.toList = nm.toList
    · rw [if_pos c] at hd1
      have hwA : wrap64 ((A.length : Int) + 1) = ((A ++ [l[K[i]].f3[q].f1]).length : Int) := by rw [List.length_append, List.length_cons, List.length_nil, w64] <;> (have := hs3.1; omega)
      have he := ih (q + 1) (A ++ [l[K[i]].f3[q].f1]) (by omega) (by rw [List.length_append, List.length_cons, List.length_nil]; omega) hi (okA_snoc ok (by rw [← sz]; exact hsa.2)) (fun A' e o b => h A' (by rw [e, hd1, List.append_assoc]) o b)
      rw [whD_snoc] at he
      have hwh := spec_white l[K[i]].f3[q].f1 (by rw [← sz]; exact hsa.2)
      refine Ev.step (f := fun k => (spec_White.f k l[K[i]].f3[q].f1 2).bind fun t297 => (spec_l11Value.l1 k l nm (ints K) t297 ((A ++ [l[K[i]].f3[q].f1]).length : Int) (i : Int) ((q + 1 : Nat) : Int))) (fun k => ?_) (Ev.bind hwh he)
      conv => lhs; unfold spec_l11Value.l1
      rw [if_pos (by omega), if_pos (by rw [ints_len]; omega), rdI K i hi2, if_pos (by omega), if_pos (by omega), rdIt l K[i] hj, if_pos (by omega), if_pos (by omega), rdAt _ _ hlt, if_pos c, hwA, hw]
    · rw [if_neg c, List.nil_append] at hd1
      have he := ih (q + 1) A (by omega) (by omega) hi ok (fun A' e o b => h A' (by rw [e, hd1]) o b)
      refine Ev.step (fun k => ?_) he
      conv => lhs; unfold spec_l11Value.l1
      rw [if_pos (by omega), if_pos (by rw [ints_len]; omega), rdI K i hi2, if_pos (by omega), if_pos (by omega), rdIt l K[i] hj, if_pos (by omega), if_pos (by omega), rdAt _ _ hlt, if_neg c, hw]
theorem sfv_l0 (hd : docV l = true) (K : List Nat) (hK : ∀ j ∈ K, j < l.length) (hKl : K.length ≤ 200) : ∀ (n i : Nat) (A : List ByteArray), i + n = K.length → A.length ≤ 1048577 * i → okA A →
    Ev (fun k => spec_l11Value.l0 k l nm (ints K) (whD A) (A.length : Int) (i : Int)) (outV (A ++ saysV l nm (K.drop i))) := by
  obtain ⟨_, h2, V⟩ := doc_val hd
  intro n
  induction n with
  | zero =>
    intro i A hi hA ok
    rw [List.drop_eq_nil_of_le (by omega)]
    have e : A ++ saysV l nm [] = A := by simp [saysV]
    rw [e]
    unfold outV
    by_cases c : A.length = 1
    · rw [if_pos c]
      have hne : A ≠ [] := by rintro rfl; cases c
      have e2 : whD A = whiteV (lastD A) := by unfold whD; rw [if_neg hne]
      rw [e2]
      refine Ev.step (f := fun _ => some (whiteV (lastD A), (1 : Int))) (fun k => ?_) (Ev.now _)
      conv => lhs; unfold spec_l11Value.l0
      rw [if_neg (by rw [ints_len]; omega), if_pos (by omega)]
    · rw [if_neg c]
      refine Ev.step (f := fun _ => some ((⟨#[]⟩ : ByteArray), (A.length : Int))) (fun k => ?_) (Ev.now _)
      conv => lhs; unfold spec_l11Value.l0
      rw [if_neg (by rw [ints_len]; omega), if_neg (by omega)]
  | succ n ih =>
    intro i A hi hA ok
    have hlt : i < K.length := by omega
    have hj := hK _ (List.getElem_mem hlt)
    have hw : wrap64 ((i : Int) + 1) = ((i + 1 : Nat) : Int) := by rw [w64] <;> omega
    rw [says_drop l nm K hlt, ← List.append_assoc]
    by_cases c : nm.toList = ([] : List UInt8)
    · rw [if_pos c]
      have hwA : wrap64 ((A.length : Int) + 1) = ((A ++ [mkB (txtV l (K[i] : Int))]).length : Int) := by rw [List.length_append, List.length_cons, List.length_nil, w64] <;> omega
      have htl : (mkB (txtV l (K[i] : Int))).data.toList.length ≤ 1048576 := by rw [mkB_list]; have := txtV_doc hd hsm (K[i] : Int); omega
      have he := ih (i + 1) (A ++ [mkB (txtV l (K[i] : Int))]) (by omega) (by rw [List.length_append, List.length_cons, List.length_nil]; omega) (okA_snoc ok htl)
      rw [whD_snoc] at he
      have ht := spec_txt hd hsm hj
      have hwh := spec_white _ htl
      refine Ev.step (f := fun k => (spec_l2Text.f k l (K[i] : Int)).bind fun t287 => ((spec_White.f k t287 2).bind fun t288 => (spec_l11Value.l0 k l nm (ints K) t288 ((A ++ [mkB (txtV l (K[i] : Int))]).length : Int) ((i + 1 : Nat) : Int)))) (fun k => ?_) (Ev.bind ht (Ev.bind hwh he))
      conv => lhs; unfold spec_l11Value.l0
      rw [if_pos (by rw [ints_len]; omega), if_pos c, if_pos (by omega), rdI K i hlt, hwA, hw]
    · rw [if_neg c, atV_at hj]
      have he := sfv_l1 l hsm nm K i hlt hj (outV (A ++ hitV nm l[K[i]].f3 ++ saysV l nm (K.drop (i + 1)))) l[K[i]].f3.length 0 A (by omega) (by omega) (by omega) ok (fun A' e o b => by
        rw [List.drop_zero] at e
        rw [hw, ← e]
        exact ih (i + 1) A' (by omega) b o)
      refine Ev.step (fun k => ?_) he
      conv => lhs; unfold spec_l11Value.l0
      rw [if_pos (by rw [ints_len]; omega), if_neg c]
      rfl
end
/-- Whom a field without a path names. -/
theorem only_self (t m : Nat) (h : t < m) : (List.range m).filter (fun i => decide (i = t)) = [t] := by
  induction m with
  | zero => omega
  | succ m ih =>
    rw [filt_succ]
    by_cases c : m = t
    · subst c
      have : (List.range m).filter (fun i => decide (i = m)) = [] := by
        rw [List.filter_eq_nil_iff]
        intro a ha
        rw [List.mem_range] at ha
        simp
        omega
      rw [this]
      simp
    · rw [ih (by omega)]
      simp [c]
theorem start_one (l : List It) (t : Nat) : startB l t false = fun i => decide (i = t) := by
  funext i
  unfold startB
  simp
/-- The two answer alike. -/
theorem field_alike (l : List It) (n : Int) (s : ByteArray) (hl : l.length ≤ 1048576) (hsm : smallD l) (hs : s.data.toList.length ≤ 1048576) : ∃ r, Ev (fun k => impl_FieldOf.f k l n s) r ∧ Ev (fun k => spec_FieldOf.f k l n s) r ∧ (r = ((⟨#[]⟩ : ByteArray), (-1)) ∨ ∃ up nm K, docV l = true ∧ 0 ≤ n ∧ n < l.length ∧ elV l n.toNat = true ∧ FieldIs s.data.toList up nm ∧ (up = ⟨#[]⟩ → K = [n.toNat]) ∧ r = outV (saysV l nm K)) := by
  obtain ⟨ri, hi, vi, fi⟩ := impl_fieldF s hs
  obtain ⟨rs, hr, vs, fs⟩ := spec_fieldF s hs
  have hel := impl_elem l n hsm hl
  have hdoc := spec_doc l hsm hl
  obtain ⟨names, nmi, oki⟩ := ri
  obtain ⟨up, nm, oks⟩ := rs
  simp only at vi vs fi fs
  have hI : ∀ r, Ev (fun k => (if oki = true then ((impl_isElement.f k l n).bind fun t455 => (if t455 = true then ((impl_fieldOf.f k l n names nmi).bind fun bt456 => (some (bt456.1, bt456.2))) else (some ((⟨#[]⟩ : ByteArray), (-1))))) else (some ((⟨#[]⟩ : ByteArray), (-1))))) r → Ev (fun k => impl_FieldOf.f k l n s) r := fun r h => Ev.congr (f := fun k => (impl_fieldParts.f k s).bind fun bt450 => (if bt450.2.2 = true then ((impl_isElement.f k l n).bind fun t455 => (if t455 = true then ((impl_fieldOf.f k l n bt450.1 bt450.2.1).bind fun bt456 => (some (bt456.1, bt456.2))) else (some ((⟨#[]⟩ : ByteArray), (-1))))) else (some ((⟨#[]⟩ : ByteArray), (-1))))) (fun k => rfl) (Ev.bind hi h)
  have hS : ∀ r, Ev (fun k => ((spec_DocOk.f k l).bind fun t301 => (if t301 = true then ((spec_l1In.f n 0 (wrap64 ((l.length : Int) - 1))).bind fun t302 => (if t302 = true then (if 0 ≤ n then (if n < (l.length : Int) then (if ((rd_T65 l n).f1).toList = ([] : List UInt8) then (some ((⟨#[]⟩ : ByteArray), (-1))) else (if oks = true then (if (s.size : Int) > 20000 then (some ((⟨#[]⟩ : ByteArray), (-1))) else ((spec_l11Value.f k l n s).bind fun bt304 => (some (bt304.1, bt304.2)))) else (some ((⟨#[]⟩ : ByteArray), (-1))))) else (none)) else (none)) else (some ((⟨#[]⟩ : ByteArray), (-1))))) else (some ((⟨#[]⟩ : ByteArray), (-1)))))) r → Ev (fun k => spec_FieldOf.f k l n s) r := fun r h => Ev.congr (f := fun k => (spec_l11Field.f k s).bind fun bt298 => ((spec_DocOk.f k l).bind fun t301 => (if t301 = true then ((spec_l1In.f n 0 (wrap64 ((l.length : Int) - 1))).bind fun t302 => (if t302 = true then (if 0 ≤ n then (if n < (l.length : Int) then (if ((rd_T65 l n).f1).toList = ([] : List UInt8) then (some ((⟨#[]⟩ : ByteArray), (-1))) else (if bt298.2.2 = true then (if (s.size : Int) > 20000 then (some ((⟨#[]⟩ : ByteArray), (-1))) else ((spec_l11Value.f k l n s).bind fun bt304 => (some (bt304.1, bt304.2)))) else (some ((⟨#[]⟩ : ByteArray), (-1))))) else (none)) else (none)) else (some ((⟨#[]⟩ : ByteArray), (-1))))) else (some ((⟨#[]⟩ : ByteArray), (-1)))))) (fun k => rfl) (Ev.bind hr h)
  by_cases cE : docV l = true ∧ 0 ≤ n ∧ n < l.length ∧ elV l n.toNat = true
  · obtain ⟨hd, h0, h1, he⟩ := cE
    obtain ⟨t, rfl⟩ : ∃ t : Nat, n = (t : Int) := ⟨n.toNat, by omega⟩
    have htl : t < l.length := by omega
    rw [Int.toNat_natCast] at he
    have hhas : hasV l (t : Int) = true := decide_eq_true ⟨hd, h0, h1⟩
    have hS2 : ∀ r, Ev (fun k => (if oks = true then (if (s.size : Int) > 20000 then (some ((⟨#[]⟩ : ByteArray), (-1))) else ((spec_l11Value.f k l (t : Int) s).bind fun bt304 => (some (bt304.1, bt304.2)))) else (some ((⟨#[]⟩ : ByteArray), (-1))))) r → Ev (fun k => spec_FieldOf.f k l (t : Int) s) r := fun r h => by
      refine hS r ?_
      refine Ev.bind hdoc ?_
      rw [hd]
      simp only [if_true, spec_in', Option.bind_some, in_doc hd, hhas, if_pos h0, if_pos h1, rdIt l t htl, if_neg ((el_yes htl).1 he)]
      exact h
    rw [decide_eq_true (show docV l = true ∧ 0 ≤ (t : Int) ∧ (t : Int) < l.length ∧ elV l (t : Int).toNat = true from ⟨hd, h0, h1, he⟩)] at hel
    by_cases cB : fieldB s.data.toList = true
    · have hlen : s.data.toList.length ≤ 20000 := by
        unfold fieldB at cB
        simp only [Bool.and_eq_true, decide_eq_true_eq] at cB
        exact cB.1
      have cS : fieldS s.data.toList = true := by
        unfold fieldB at cB
        simp only [Bool.and_eq_true] at cB
        exact cB.2
      obtain ⟨e1, hup⟩ := field_same (fs (by rw [vs, cS])) (fi (by rw [vi, cB]))
      obtain ⟨_, h2, V⟩ := doc_val hd
      -- the elements
      obtain ⟨K, hKs, hKl, hKi, hKled, hKv⟩ : ∃ K : List Nat, (∀ j ∈ K, j < l.length) ∧ K.length ≤ 200 ∧ (up = ⟨#[]⟩ → K = [t]) ∧ Ev (fun k => impl_led.f k l (t : Int) names false) (ints K) ∧ (∀ r, Ev (fun k => spec_l11Value.j0 k l nm (ints K)) r → Ev (fun k => spec_l11Value.f k l (t : Int) s) r) := by
        have hvf : ∀ r, Ev (fun k => (if up.toList = ([] : List UInt8) then (spec_l11Value.j0 k l nm (([(t : Int)] : List Int))) else ((spec_l11Select.f k l (t : Int) up).bind fun t283 => (spec_l11Value.j0 k l nm t283)))) r → Ev (fun k => spec_l11Value.f k l (t : Int) s) r := fun r h => Ev.congr (f := fun k => (spec_l11Field.f k s).bind fun bt277 => (if bt277.1.toList = ([] : List UInt8) then (spec_l11Value.j0 k l bt277.2.1 (([(t : Int)] : List Int))) else ((spec_l11Select.f k l (t : Int) bt277.1).bind fun t283 => (spec_l11Value.j0 k l bt277.2.1 t283)))) (fun k => rfl) (Ev.bind hr h)
        rcases hup with ⟨u1, u2⟩ | ⟨u1, u2, u3⟩
        · refine ⟨[t], by simpa using htl, by simp, fun _ => rfl, ?_, fun r h => hvf r ?_⟩
          · have := impl_led_is l V h2 t names (by rw [u2]; simp) false
            rw [u2] at this ⊢
            have e : (List.range l.length).filter (finB l (startB l t false) []) = [t] := by
              show (List.range l.length).filter (startB l t false) = [t]
              rw [start_one]
              exact only_self t l.length htl
            rw [e] at this
            exact this
          · rw [u1]
            simp only [if_pos (show (⟨#[]⟩ : ByteArray).toList = ([] : List UInt8) from toList_nil.2 rfl)]
            exact h
        · have hne : ¬ up.toList = ([] : List UInt8) := by rw [Lib.toList_data]; exact u1
          have hul : up.data.toList.length ≤ 20000 := by
            rcases fs (by rw [vs, cS]) with ⟨a1, a2, a3⟩ | ⟨u, v, e, hv, hn, hb, hu⟩ | ⟨a1, a2, a3, a4, a5⟩
            · rw [a2] at u1; exact absurd rfl u1
            · rcases hu with ⟨c1, c2⟩ | ⟨c1, c2, c3, c4⟩
              · rw [c2] at u1; exact absurd rfl u1
              · rw [c3, List.length_dropLast]
                have := congrArg List.length e
                rw [List.length_append, List.length_cons] at this
                omega
            · rw [a3]; exact hlen
          have hfew := steps_few up.data.toList (by omega)
          have hdeep : (specSteps up.data.toList).2.1 = false := by
            unfold okS at u3
            simp only [Bool.and_eq_true, Bool.not_eq_true'] at u3
            exact u3.2
          have hsp := spec_led l h2 V t htl up (by omega) hfew
          rw [hdeep] at hsp
          have him := impl_led_is l V h2 t names (by rw [u2]; exact hfew) false
          rw [u2] at him
          refine ⟨(List.range l.length).filter (finB l (startB l t false) (specSteps up.data.toList).1), fun j hj => ?_, ?_, fun e => absurd (by rw [e]) u1, ?_, fun r h => hvf r ?_⟩
          · rw [List.mem_filter, List.mem_range] at hj
            exact hj.1
          · have := List.length_filter_le (finB l (startB l t false) (specSteps up.data.toList).1) (List.range l.length)
            rw [List.length_range] at this
            omega
          · rw [u2]
            exact him
          · simp only [if_neg hne]
            exact Ev.bind hsp h
      subst e1
      have okn : okA [] := fun x hx => by cases hx
      have hiv := ifv_l0 l hsm nm hd K hKs hKl K.length 0 [] (by omega) (by simp) okn
      have hsv := sfv_l0 l hsm nm hd K hKs hKl K.length 0 [] (by omega) (by simp) okn
      rw [List.drop_zero, List.nil_append] at hiv hsv
      refine ⟨outV (saysV l nm K), hI _ ?_, hS2 _ ?_, .inr ⟨up, nm, K, hd, h0, h1, by rw [Int.toNat_natCast]; exact he, fs (by rw [vs, cS]), fun e => by rw [Int.toNat_natCast]; exact hKi e, rfl⟩⟩
      · rw [vi, cB]
        simp only [if_true]
        refine Ev.bind hel ?_
        simp only [if_true]
        refine Ev.bind (g := fun k => impl_fieldOf.f k l (t : Int) names nm) (a := outV (saysV l nm K)) ?_ (Ev.now _)
        refine Ev.congr (f := fun k => (impl_led.f k l (t : Int) names false).bind fun t441 => (impl_fieldOf.l0 k l nm (⟨#[]⟩ : ByteArray) 0 t441 (t441.length : Int) 0)) (fun k => rfl) (Ev.bind hKled ?_)
        simp only [ints_len]
        exact hiv
      · rw [vs, cS]
        have hns : ¬ ((s.size : Int) > 20000) := by rw [sz]; omega
        simp only [if_true, if_neg hns]
        refine Ev.bind (g := fun k => spec_l11Value.f k l (t : Int) s) (a := outV (saysV l nm K)) (hKv _ ?_) (Ev.now _)
        refine Ev.step (fun k => ?_) hsv
        rfl
    · rw [Bool.not_eq_true] at cB
      refine ⟨((⟨#[]⟩ : ByteArray), (-1)), hI _ ?_, hS2 _ ?_, .inl rfl⟩
      · rw [vi, cB]
        simp only [Bool.false_eq_true, if_false]
        exact Ev.now _
      · rw [vs]
        by_cases hbig : (s.size : Int) > 20000
        · simp only [if_pos hbig, ite_self]
          exact Ev.now _
        · have cS : fieldS s.data.toList = false := by
            unfold fieldB at cB
            rw [decide_eq_true (show s.data.toList.length ≤ 20000 by rw [← sz]; omega), Bool.true_and] at cB
            exact cB
          rw [cS]
          simp only [Bool.false_eq_true, if_false]
          exact Ev.now _
  · rw [decide_eq_false cE] at hel
    refine ⟨((⟨#[]⟩ : ByteArray), (-1)), hI _ ?_, hS _ ?_, .inl rfl⟩
    · cases oki with
      | false => simp only [Bool.false_eq_true, if_false]; exact Ev.now _
      | true =>
        simp only [if_true]
        refine Ev.bind hel ?_
        simp only [Bool.false_eq_true, if_false]
        exact Ev.now _
    · refine Ev.bind hdoc ?_
      cases hd : docV l with
      | false => simp only [Bool.false_eq_true, if_false]; exact Ev.now _
      | true =>
        simp only [if_true, spec_in', Option.bind_some, in_doc hd]
        by_cases c : 0 ≤ n ∧ n < l.length
        · have hhas : hasV l n = true := decide_eq_true ⟨hd, c.1, c.2⟩
          obtain ⟨t, rfl⟩ : ∃ t : Nat, n = (t : Int) := ⟨n.toNat, by omega⟩
          have htl : t < l.length := by omega
          have he : elV l t = false := by
            rw [Bool.eq_false_iff]
            exact fun h => cE ⟨hd, c.1, c.2, by rw [Int.toNat_natCast]; exact h⟩
          simp only [hhas, if_true, if_pos c.1, if_pos c.2, rdIt l t htl, if_pos ((el_no htl).1 he)]
          exact Ev.now _
        · have hhas : hasV l n = false := decide_eq_false (fun h => c ⟨h.2.1, h.2.2⟩)
          simp only [hhas, Bool.false_eq_true, if_false]
          exact Ev.now _
end Go.Proofs.YtpmjpbaeecnpiaaGreatDoor.Pure

namespace Go.Proofs.YtpmjpbaeecnpiaaGreatDoor.O
open Go.RowKit Go.Proofs.YtpmjpbaeecnpiaaGreatDoor.L Go.Proofs.YtpmjpbaeecnpiaaGreatDoorW.PrintWords Go.Proofs.YtpmjpbaeecnpiaaGreatDoorW.PrintLast Go.Proofs.YtpmjpbaeecnpiaaGreatDoorW.PrintMore
set_option linter.unusedVariables false
set_option linter.unusedSimpArgs false

/-- Whatever reads as a datum of type t is a d, and is ok. -/
def Opens {H α : Type} (enc : TypeId × Value → H) (P : Program) (w : World) (base : Nat) (sp : Nat → Bool) (held : Bool) (t : TypeId) (d : Kd α) (ok : α → Prop) : Prop :=
  ∀ n cs x, DataW.trod enc P w base sp held n t cs = some x → ∃ a, d.K w a cs ∧ ok a
section
variable {H : Type} {enc : TypeId × Value → H} {P : Program} {w : World} {base : Nat} {sp : Nat → Bool} {held : Bool} {t : TypeId}
theorem opens_string (ht : P.underlying t = some .string) : Opens enc P w base sp held t Kd.string (fun s => s.size ≤ maxLen) := by
  intro n cs x h
  obtain ⟨s, rfl, _, hs⟩ := DataW.trod_string ht h
  exact ⟨s, rfl, hs⟩
theorem opens_int {k : IntKind} (ht : P.underlying t = some (.int k)) : Opens enc P w base sp held t (Kd.int k) (fun n => (Lit.int k n).wf = true) := by
  intro n cs x h
  obtain ⟨s, rfl, _, hs⟩ := DataW.trod_int ht h
  exact ⟨s, rfl, hs⟩
theorem rows_of {α : Type} {d : Kd α} {ok : α → Prop} {a : Addr} (len : Nat) (h : ∀ i, i < len → ∃ cs x, w.cells? base (a.add (i * d.sz)) d.sz = some cs ∧ d.K w x cs ∧ ok x) :
    ∃ xs : List α, xs.length = len ∧ ∀ i x, xs[i]? = some x → ok x ∧ ∃ cs, w.cells? base (a.add (i * d.sz)) d.sz = some cs ∧ d.K w x cs := by
  induction len with
  | zero => exact ⟨[], rfl, fun i x hx => by simp at hx⟩
  | succ m ih =>
    obtain ⟨xs, hl, hx⟩ := ih fun i hi => h i (by omega)
    obtain ⟨cs, x, hc, hk, ho⟩ := h m (by omega)
    refine ⟨xs ++ [x], by simp [hl], fun i y hy => ?_⟩
    by_cases hi : i < m
    · rw [List.getElem?_append_left (by omega)] at hy
      exact hx i y hy
    · have hlt := (List.getElem?_eq_some_iff.1 hy).1
      simp only [List.length_append, List.length_singleton, hl] at hlt
      have : i = m := by omega
      subst this
      rw [List.getElem?_append_right (by omega), hl] at hy
      simp at hy
      subst hy
      exact ⟨ho, cs, hc, hk⟩
theorem opens_slice {α : Type} {e : TypeId} {d : Kd α} {ok : α → Prop} (e' : Nat) (ht : P.underlying t = some (.slice e)) (hc : P.cellsOf e = d.sz)
    (ho : Opens enc P w base sp held e d ok) : Opens enc P w base sp held t (Kd.slice e' d) (fun xs => xs.length ≤ maxLen ∧ ∀ x ∈ xs, ok x) := by
  intro n cs x h
  rcases DataW.trod_slice ht h with ⟨rfl, _⟩ | ⟨a, len, cap, elems, rest, m, _, rfl, _, hb, hl, hm, hlen, hel, _, _⟩
  · exact ⟨[], ⟨none, 0, rfl, by simp, Kd.C_nil d w⟩, by simp [maxLen], fun x hx => by cases hx⟩
  · rw [hc] at hel
    obtain ⟨xs, hxl, hx⟩ := rows_of (w := w) (base := base) (d := d) (ok := ok) (a := a) len (fun i hi => by
      have h1 := hel i hi
      rw [List.getElem?_eq_getElem (by omega), Option.bind_eq_some_iff] at h1
      obtain ⟨cs, hcs, htr⟩ := h1
      obtain ⟨y, hk, hok⟩ := ho m cs _ htr
      exact ⟨cs, y, hcs, hk, hok⟩)
    refine ⟨xs, ⟨some a, cap, by rw [hxl], by omega, ?_⟩, by omega, fun x hx' => ?_⟩
    · refine ⟨rfl, by unfold maxLen at hm; omega, fun _ => ⟨a, rfl, fun j p hp => ?_⟩⟩
      obtain ⟨_, cs, hcs, hk⟩ := hx j p hp
      obtain ⟨_, hcl, hcell⟩ := World.cells?_some hcs
      refine ⟨cs, hcl, hk, fun i u hu => ?_⟩
      have hlt := (List.getElem?_eq_some_iff.1 hu).1
      have := hcell i (by omega)
      rw [hu] at this
      rw [← this]
      have e : a.add (j * d.sz + i) = (a.add (j * d.sz)).add i := (Addr.add_add a _ _).symm
      rw [e]
    · obtain ⟨i, hi⟩ := List.getElem?_of_mem hx'
      exact (hx i x hi).1
/-- A struct's fields, one cell each. -/
theorem field_cell {fs : Array Field} {cs : List Value} {x : DataW H × List MemPlace} {fuel : Nat} (ht : P.underlying t = some (.struct fs)) (h : DataW.trod enc P w base sp held fuel t cs = some x)
    (i : Nat) (f : Field) (hf : fs[i]? = some f) (hof : f.offset = i) (hcf : P.cellsOf f.type = 1) : ∃ n y, DataW.trod enc P w base sp held n f.type ((cs.drop i).take 1) = some y := by
  obtain ⟨xs, n, _, _, _, hxl, hall⟩ := DataW.trod_struct ht h
  have := hall i f hf
  have hlt := (Array.getElem?_eq_some_iff.1 hf).1
  rw [hof, hcf, List.getElem?_eq_getElem (by omega)] at this
  exact ⟨n, _, this⟩
end
/-- What an attribute's and an item's mirror that came in read as. -/
def okAttr (x : S165) : Prop := x.f0.size ≤ maxLen ∧ x.f1.size ≤ maxLen
theorem opens_attr {H : Type} {enc : TypeId × Value → H} {w : World} {base : Nat} {sp : Nat → Bool} {held : Bool} :
    Opens enc Tryz.prog w base sp held 165 k165 okAttr := by
  intro n cs x h
  have hl : cs.length = 2 := by
    obtain ⟨_, _, _, _, hcl, _, _⟩ := DataW.trod_struct Tryz.underlying165 h
    exact hcl.trans (by kernel_rfl)
  obtain ⟨n0, y0, h0⟩ := field_cell Tryz.underlying165 h 0 _ rfl rfl (by kernel_rfl)
  obtain ⟨n1, y1, h1⟩ := field_cell Tryz.underlying165 h 1 _ rfl rfl (by kernel_rfl)
  clear h
  obtain ⟨s0, e0, o0⟩ := opens_string (enc := enc) (base := base) (sp := sp) (held := held) (w := w) Tryz.underlying9 _ _ _ h0
  obtain ⟨s1, e1, o1⟩ := opens_string (enc := enc) (base := base) (sp := sp) (held := held) (w := w) Tryz.underlying9 _ _ _ h1
  match cs, hl with
  | [c0, c1], _ =>
    obtain rfl : c0 = Value.string s0 := (List.cons.inj (show [c0] = [Value.string s0] from e0)).1
    obtain rfl : c1 = Value.string s1 := (List.cons.inj (show [c1] = [Value.string s1] from e1)).1
    exact ⟨⟨s0, s1⟩, k165_mk w ⟨s0, s1⟩, o0, o1⟩
def okItem (x : S80) : Prop := x.f1.size ≤ maxLen ∧ x.f2.size ≤ maxLen ∧ x.f3.length ≤ maxLen ∧ ∀ a ∈ x.f3, okAttr a
theorem opens_item {H : Type} {enc : TypeId × Value → H} {w : World} {base : Nat} {sp : Nat → Bool} {held : Bool} :
    Opens enc Tryz.prog w base sp held 80 k80 okItem := by
  intro n cs x h
  have hl : cs.length = 4 := by
    obtain ⟨_, _, _, _, hcl, _, _⟩ := DataW.trod_struct Tryz.underlying80 h
    exact hcl.trans (by kernel_rfl)
  obtain ⟨n0, y0, h0⟩ := field_cell Tryz.underlying80 h 0 _ rfl rfl (by kernel_rfl)
  obtain ⟨n1, y1, h1⟩ := field_cell Tryz.underlying80 h 1 _ rfl rfl (by kernel_rfl)
  obtain ⟨n2, y2, h2⟩ := field_cell Tryz.underlying80 h 2 _ rfl rfl (by kernel_rfl)
  obtain ⟨n3, y3, h3⟩ := field_cell Tryz.underlying80 h 3 _ rfl rfl (by kernel_rfl)
  clear h
  obtain ⟨s0, e0, o0⟩ := opens_int (enc := enc) (base := base) (sp := sp) (held := held) (w := w) (k := .i64) Tryz.underlying2 _ _ _ h0
  obtain ⟨s1, e1, o1⟩ := opens_string (enc := enc) (base := base) (sp := sp) (held := held) (w := w) Tryz.underlying9 _ _ _ h1
  obtain ⟨s2, e2, o2⟩ := opens_string (enc := enc) (base := base) (sp := sp) (held := held) (w := w) Tryz.underlying9 _ _ _ h2
  obtain ⟨s3, ⟨A3, c3, e3, l3, g3⟩, o3⟩ := opens_slice (enc := enc) (base := base) (sp := sp) (held := held) (w := w) 165 Tryz.underlying78 (by kernel_rfl) opens_attr _ _ _ h3
  match cs, hl with
  | [c0, c1, c2, c3'], _ =>
    obtain rfl : c0 = Value.int .i64 s0 := (List.cons.inj (show [c0] = [Value.int .i64 s0] from e0)).1
    obtain rfl : c1 = Value.string s1 := (List.cons.inj (show [c1] = [Value.string s1] from e1)).1
    obtain rfl : c2 = Value.string s2 := (List.cons.inj (show [c2] = [Value.string s2] from e2)).1
    obtain rfl : c3' = Value.slice A3 s3.length c3 := (List.cons.inj (show [c3'] = [Value.slice A3 s3.length c3] from e3)).1
    exact ⟨⟨s0, s1, s2, s3⟩, k80_mk w ⟨s0, s1, s2, s3⟩ l3 g3, o1, o2, o3⟩
end Go.Proofs.YtpmjpbaeecnpiaaGreatDoor.O

namespace Go.Proofs.YtpmjpbaeecnpiaaGreatDoor.Pure
open Go.RowKit Go.Proofs.YtpmjpbaeecnpiaaGreatDoor.L Go.Proofs.YtpmjpbaeecnpiaaGreatDoor.O Go.Proofs.YtpmjpbaeecnpiaaGreatDoorW.PrintWords Go.Proofs.YtpmjpbaeecnpiaaGreatDoorW.PrintLast Go.Proofs.YtpmjpbaeecnpiaaGreatDoorW.PrintMore
set_option linter.unusedVariables false
set_option linter.unusedSimpArgs false

abbrev LIt : Type := S80
abbrev LAt : Type := S165
theorem rdLI (l : List LIt) (i : Nat) (h : i < l.length) : rd_T80 l (i : Int) = l[i] := by
  unfold rd_T80
  simp [h]
theorem rdLA (l : List LAt) (i : Nat) (h : i < l.length) : rd_T165 l (i : Int) = l[i] := by
  unfold rd_T165
  simp [h]
theorem wsub {c : Int} {m : Nat} (h0 : 0 ≤ c) (h1 : c ≤ 1048576) (hm : m ≤ 9223372036854775807) : wrap64 (c - (m : Int)) = c - m := by rw [w64] <;> omega
theorem mxLen : maxLen = 9223372036854775807 := by decide
def convA (x : LAt) : At := ⟨x.f0, x.f1⟩
def convI (x : LIt) : It := ⟨x.f0, x.f1, x.f2, x.f3.map convA⟩
/-! #### sizes -/
theorem szAttr (x : LAt) (ok : okAttr x) (c : Int) (h0 : 0 ≤ c) (h1 : c ≤ 1048576) :
    ∃ v, laws_szAttr.f x.f0 x.f1 c = some v ∧ (v < 0 ∨ (0 ≤ v ∧ v ≤ c ∧ smallA (convA x))) := by
  unfold okAttr at ok
  rw [mxLen] at ok
  have hw := wsub h0 h1 ok.1
  unfold laws_szAttr.f
  rw [hw]
  by_cases c0 : c - (x.f0.size : Int) < 0
  · exact ⟨-1, by rw [if_pos c0], .inl (by decide)⟩
  · have hw2 := wsub (c := c - (x.f0.size : Int)) (by omega) (by omega) ok.2
    rw [if_neg c0, hw2]
    by_cases c1 : c - (x.f0.size : Int) - (x.f1.size : Int) < 0
    · exact ⟨-1, by rw [if_pos c1], .inl (by decide)⟩
    · exact ⟨c - (x.f0.size : Int) - (x.f1.size : Int), by rw [if_neg c1], .inr ⟨by omega, by omega, show x.f0.size ≤ 1048576 by omega, show x.f1.size ≤ 1048576 by omega⟩⟩
theorem szAS_l0 (l : List LAt) (hl : l.length ≤ 9223372036854775807) (hs : ∀ s ∈ l, okAttr s) : ∀ (n i : Nat) (c : Int), i + n = l.length → 0 ≤ c → c ≤ 1048576 →
    ∃ v, Ev (fun k => laws_szAttrS.l0 k l c (i : Int)) v ∧ (v < 0 ∨ (0 ≤ v ∧ v ≤ c ∧ ∀ s ∈ l.drop i, smallA (convA s))) := by
  intro n
  induction n with
  | zero =>
    intro i c hi h0 h1
    refine ⟨c, Ev.step (f := fun _ => some c) (fun k => ?_) (Ev.now _), .inr ⟨h0, Int.le_refl _, ?_⟩⟩
    · unfold laws_szAttrS.l0
      rw [if_neg (by omega)]
    · rw [List.drop_of_length_le (by omega)]; intro s hs; cases hs
  | succ n ih =>
    intro i c hi h0 h1
    have hlt : i < l.length := by omega
    obtain ⟨v, hv, hr⟩ := szAttr l[i] (hs _ (List.getElem_mem hlt)) c h0 h1
    have hf : ∀ k, laws_szAttrS.l0 (k + 1) l c (i : Int) = if v < 0 then (some (-1)) else (laws_szAttrS.l0 k l v ((i + 1 : Nat) : Int)) := by
      intro k
      conv => lhs; unfold laws_szAttrS.l0
      rw [if_pos (by omega), if_pos (by omega), rdLA l i hlt, w1n hlt hl, hv, Option.bind_some]
    rcases hr with h | ⟨a, b, d⟩
    · refine ⟨-1, Ev.step hf ?_, .inl (by decide)⟩
      simp only [if_pos h]
      exact Ev.now _
    · obtain ⟨v2, hv2, hr2⟩ := ih (i + 1) v (by omega) a (by omega)
      refine ⟨v2, Ev.step hf ?_, ?_⟩
      · simp only [if_neg (show ¬ v < 0 by omega)]
        exact hv2
      · rcases hr2 with h | ⟨a2, b2, d2⟩
        · exact .inl h
        · refine .inr ⟨a2, by omega, fun s hs => ?_⟩
          rw [List.drop_eq_getElem_cons hlt] at hs
          rcases List.mem_cons.1 hs with e | e
          · subst e; exact d
          · exact d2 s e
theorem szAS (l : List LAt) (hl : l.length ≤ 9223372036854775807) (hs : ∀ s ∈ l, okAttr s) (c : Int) (h0 : 0 ≤ c) (h1 : c ≤ 1048576) :
    ∃ v, Ev (fun k => laws_szAttrS.f k l c) v ∧ (v < 0 ∨ (0 ≤ v ∧ v ≤ c ∧ smallAs (l.map convA))) := by
  have hw := wsub h0 h1 hl
  by_cases c0 : c - (l.length : Int) < 0
  · refine ⟨-1, Ev.congr (f := fun _ => some (-1)) (fun k => ?_) (Ev.now _), .inl (by decide)⟩
    unfold laws_szAttrS.f
    rw [hw, if_pos c0]
  · obtain ⟨v, hv, hr⟩ := szAS_l0 l hl hs l.length 0 (c - (l.length : Int)) (by omega) (by omega) (by omega)
    refine ⟨v, Ev.congr (f := fun k => laws_szAttrS.l0 k l (c - (l.length : Int)) ((0 : Nat) : Int)) (fun k => ?_) hv, ?_⟩
    · unfold laws_szAttrS.f
      rw [hw, if_neg c0]
      rfl
    · rcases hr with h | ⟨a, b, d⟩
      · exact .inl h
      · refine .inr ⟨a, by omega, by rw [List.length_map]; omega, fun y hy => ?_⟩
        obtain ⟨z, hz, rfl⟩ := List.mem_map.1 hy
        exact d z (by simpa using hz)
theorem szItem (x : LIt) (ok : okItem x) (c : Int) (h0 : 0 ≤ c) (h1 : c ≤ 1048576) :
    ∃ v, Ev (fun k => laws_szItem.f k x.f0 x.f1 x.f2 x.f3 c) v ∧ (v < 0 ∨ (0 ≤ v ∧ v ≤ c ∧ smallI (convI x))) := by
  obtain ⟨o1, o2, o3, o4⟩ := ok
  rw [mxLen] at o1 o2 o3
  have hw := wsub h0 h1 o1
  by_cases c0 : c - (x.f1.size : Int) < 0
  · refine ⟨-1, Ev.congr (f := fun _ => some (-1)) (fun k => ?_) (Ev.now _), .inl (by decide)⟩
    unfold laws_szItem.f
    rw [hw, if_pos c0]
  · have hw2 := wsub (c := c - (x.f1.size : Int)) (by omega) (by omega) o2
    by_cases c1 : c - (x.f1.size : Int) - (x.f2.size : Int) < 0
    · refine ⟨-1, Ev.congr (f := fun _ => some (-1)) (fun k => ?_) (Ev.now _), .inl (by decide)⟩
      unfold laws_szItem.f
      rw [hw, if_neg c0, hw2, if_pos c1]
    · obtain ⟨v, hv, hr⟩ := szAS x.f3 o3 o4 (c - (x.f1.size : Int) - (x.f2.size : Int)) (by omega) (by omega)
      have hf : ∀ k, laws_szItem.f k x.f0 x.f1 x.f2 x.f3 c = (laws_szAttrS.f k x.f3 (c - (x.f1.size : Int) - (x.f2.size : Int))).bind fun t105 => (if t105 < 0 then (some (-1)) else (some t105)) := by
        intro k
        unfold laws_szItem.f
        rw [hw, if_neg c0, hw2, if_neg c1]
      rcases hr with h | ⟨a, b, d⟩
      · refine ⟨-1, Ev.congr hf (Ev.bind hv ?_), .inl (by decide)⟩
        simp only [if_pos h]
        exact Ev.now _
      · refine ⟨v, Ev.congr hf (Ev.bind hv ?_), .inr ⟨a, by omega, show x.f1.size ≤ 1048576 by omega, show x.f2.size ≤ 1048576 by omega, d⟩⟩
        simp only [if_neg (show ¬ v < 0 by omega)]
        exact Ev.now _
theorem szIS_l0 (l : List LIt) (hl : l.length ≤ 9223372036854775807) (hs : ∀ s ∈ l, okItem s) : ∀ (n i : Nat) (c : Int), i + n = l.length → 0 ≤ c → c ≤ 1048576 →
    ∃ v, Ev (fun k => laws_szItemS.l0 k l c (i : Int)) v ∧ (v < 0 ∨ (0 ≤ v ∧ v ≤ c ∧ ∀ s ∈ l.drop i, smallI (convI s))) := by
  intro n
  induction n with
  | zero =>
    intro i c hi h0 h1
    refine ⟨c, Ev.step (f := fun _ => some c) (fun k => ?_) (Ev.now _), .inr ⟨h0, Int.le_refl _, ?_⟩⟩
    · unfold laws_szItemS.l0
      rw [if_neg (by omega)]
    · rw [List.drop_of_length_le (by omega)]; intro s hs; cases hs
  | succ n ih =>
    intro i c hi h0 h1
    have hlt : i < l.length := by omega
    obtain ⟨v, hv, hr⟩ := szItem l[i] (hs _ (List.getElem_mem hlt)) c h0 h1
    have hf : ∀ k, laws_szItemS.l0 (k + 1) l c (i : Int) = (laws_szItem.f k l[i].f0 l[i].f1 l[i].f2 l[i].f3 c).bind fun t107 => (if t107 < 0 then (some (-1)) else (laws_szItemS.l0 k l t107 ((i + 1 : Nat) : Int))) := by
      intro k
      conv => lhs; unfold laws_szItemS.l0
      rw [if_pos (by omega), if_pos (by omega), rdLI l i hlt, w1n hlt hl]
    rcases hr with h | ⟨a, b, d⟩
    · refine ⟨-1, Ev.step hf (Ev.bind hv ?_), .inl (by decide)⟩
      simp only [if_pos h]
      exact Ev.now _
    · obtain ⟨v2, hv2, hr2⟩ := ih (i + 1) v (by omega) a (by omega)
      refine ⟨v2, Ev.step hf (Ev.bind hv ?_), ?_⟩
      · simp only [if_neg (show ¬ v < 0 by omega)]
        exact hv2
      · rcases hr2 with h | ⟨a2, b2, d2⟩
        · exact .inl h
        · refine .inr ⟨a2, by omega, fun s hs => ?_⟩
          rw [List.drop_eq_getElem_cons hlt] at hs
          rcases List.mem_cons.1 hs with e | e
          · subst e; exact d
          · exact d2 s e
theorem szIS (l : List LIt) (hl : l.length ≤ 9223372036854775807) (hs : ∀ s ∈ l, okItem s) :
    ∃ v, Ev (fun k => laws_szItemS.f k l 1048576) v ∧ (v < 0 ∨ (0 ≤ v ∧ l.length ≤ 1048576 ∧ ∀ s ∈ l, smallI (convI s))) := by
  have hw := wsub (c := 1048576) (by decide) (by decide) hl
  by_cases c0 : (1048576 : Int) - (l.length : Int) < 0
  · refine ⟨-1, Ev.congr (f := fun _ => some (-1)) (fun k => ?_) (Ev.now _), .inl (by decide)⟩
    unfold laws_szItemS.f
    rw [hw, if_pos c0]
  · obtain ⟨v, hv, hr⟩ := szIS_l0 l hl hs l.length 0 (1048576 - (l.length : Int)) (by omega) (by omega) (by omega)
    refine ⟨v, Ev.congr (f := fun k => laws_szItemS.l0 k l (1048576 - (l.length : Int)) ((0 : Nat) : Int)) (fun k => ?_) hv, ?_⟩
    · unfold laws_szItemS.f
      rw [hw, if_neg c0]
      rfl
    · rcases hr with h | ⟨a, b, d⟩
      · exact .inl h
      · exact .inr ⟨a, by omega, by simpa using d⟩
/-! #### copies -/
theorem set_mid {α : Type} (u : List α) (z v : α) (r : List α) : (u ++ z :: r).set u.length v = u ++ v :: r := by
  induction u with
  | nil => rfl
  | cons a u ih => simp [ih]
theorem set_copy {α β : Type} (f : α → β) (l : List α) (z : β) (i m : Nat) (h : i < l.length) : ((l.take i).map f ++ List.replicate (m + 1) z).set i (f l[i]) = (l.take (i + 1)).map f ++ List.replicate m z := by
  have hl : ((l.take i).map f).length = i := by simp; omega
  have := set_mid ((l.take i).map f) z (f l[i]) (List.replicate m z)
  rw [hl] at this
  rw [List.replicate_succ, this]
  rw [List.take_succ_eq_append_getElem h, List.map_append]
  simp
theorem toA_l0 (l : List LAt) (hl : l.length ≤ 9223372036854775807) : ∀ (n i : Nat), i + n = l.length →
    Ev (fun k => laws_toAttrS.l0 k l ((l.take i).map convA ++ List.replicate n z67) (i : Int)) (l.map convA) := by
  intro n
  induction n with
  | zero =>
    intro i hi
    have e : (l.take i).map convA ++ List.replicate 0 z67 = l.map convA := by rw [List.take_of_length_le (by omega)]; simp
    rw [e]
    refine Ev.step (f := fun _ => some (l.map convA)) (fun k => ?_) (Ev.now _)
    unfold laws_toAttrS.l0
    rw [if_neg (by omega)]
  | succ n ih =>
    intro i hi
    have hlt : i < l.length := by omega
    refine Ev.step (f := fun k => laws_toAttrS.l0 k l ((l.take (i + 1)).map convA ++ List.replicate n z67) ((i + 1 : Nat) : Int)) (fun k => ?_) (ih (i + 1) (by omega))
    conv => lhs; unfold laws_toAttrS.l0
    have hlen : ((l.take i).map convA ++ List.replicate (n + 1) z67).length = l.length := by simp; omega
    unfold laws_toAttr.f
    rw [if_pos (by omega), if_pos (by omega), Option.bind_some, hlen, if_pos (by omega), rdLA l i hlt, w1n hlt hl, Int.toNat_natCast]
    have := set_copy convA l z67 i n hlt
    rw [show convA l[i] = (⟨l[i].f0, l[i].f1⟩ : At) from rfl] at this
    rw [this]
theorem toA (l : List LAt) (hl : l.length ≤ 1048576) : Ev (fun k => laws_toAttrS.f k l) (l.map convA) := by
  refine Ev.congr (f := fun k => laws_toAttrS.l0 k l ((l.take 0).map convA ++ List.replicate l.length z67) ((0 : Nat) : Int)) (fun k => ?_) (toA_l0 l (by omega) l.length 0 (by omega))
  unfold laws_toAttrS.f
  rw [if_pos (by omega), Int.toNat_natCast, if_pos (by omega)]
  simp
theorem toI_l0 (l : List LIt) (hl : l.length ≤ 1048576) (hs : ∀ s ∈ l, smallI (convI s)) : ∀ (n i : Nat), i + n = l.length →
    Ev (fun k => laws_toItemS.l0 k l ((l.take i).map convI ++ List.replicate n z65) (i : Int)) (l.map convI) := by
  intro n
  induction n with
  | zero =>
    intro i hi
    have e : (l.take i).map convI ++ List.replicate 0 z65 = l.map convI := by rw [List.take_of_length_le (by omega)]; simp
    rw [e]
    refine Ev.step (f := fun _ => some (l.map convI)) (fun k => ?_) (Ev.now _)
    unfold laws_toItemS.l0
    rw [if_neg (by omega)]
  | succ n ih =>
    intro i hi
    have hlt : i < l.length := by omega
    have hsm := hs _ (List.getElem_mem hlt)
    have ht := toA l[i].f3 (by have := hsm.2.2.1; simpa [convI] using this)
    have hlen : ((l.take i).map convI ++ List.replicate (n + 1) z65).length = l.length := by simp; omega
    have hset := set_copy convI l z65 i n hlt
    refine Ev.step (f := fun k => (laws_toAttrS.f k l[i].f3).bind fun t289 => laws_toItemS.l0 k l (((l.take i).map convI ++ List.replicate (n + 1) z65).set i (⟨l[i].f0, l[i].f1, l[i].f2, t289⟩ : It)) ((i + 1 : Nat) : Int)) (fun k => ?_) (Ev.bind ht ?_)
    · conv => lhs; unfold laws_toItemS.l0
      rw [if_pos (by omega), if_pos (by omega), rdLI l i hlt]
      unfold laws_toItem.f
      cases laws_toAttrS.f k l[i].f3 with
      | none => rfl
      | some t =>
        simp only [Option.bind_some]
        rw [hlen, if_pos (by omega), w1n hlt (by omega), Int.toNat_natCast]
    · rw [show (⟨l[i].f0, l[i].f1, l[i].f2, l[i].f3.map convA⟩ : It) = convI l[i] from rfl, hset]
      exact ih (i + 1) (by omega)
theorem toIS (l : List LIt) (hl : l.length ≤ 1048576) (hs : ∀ s ∈ l, smallI (convI s)) : Ev (fun k => laws_toItemS.f k l) (l.map convI) := by
  refine Ev.congr (f := fun k => laws_toItemS.l0 k l ((l.take 0).map convI ++ List.replicate l.length z65) ((0 : Nat) : Int)) (fun k => ?_) (toI_l0 l hl hs l.length 0 (by omega))
  unfold laws_toItemS.f
  rw [if_pos (by omega), Int.toNat_natCast, if_pos (by omega)]
  simp
/-! #### equal to themselves -/
theorem eqA_l0 (l : List At) (hl : l.length ≤ 1048576) : ∀ (n i : Nat), i + n = l.length → Ev (fun k => laws_eqAttrS.l0 k l l (i : Int)) true := by
  intro n
  induction n with
  | zero =>
    intro i hi
    refine Ev.step (f := fun _ => some true) (fun k => ?_) (Ev.now _)
    conv => lhs; unfold laws_eqAttrS.l0
    rw [if_neg (by omega)]
  | succ n ih =>
    intro i hi
    have hlt : i < l.length := by omega
    refine Ev.step (fun k => ?_) (ih (i + 1) (by omega))
    conv => lhs; unfold laws_eqAttrS.l0 laws_eqAttr.f
    rw [if_pos (by omega), if_pos (by omega), if_pos (by omega), if_pos rfl, if_pos rfl, Option.bind_some, if_pos rfl, w1n hlt (by omega)]
theorem eqA (l : List At) (hl : l.length ≤ 1048576) : Ev (fun k => laws_eqAttrS.f k l l) true := by
  refine Ev.congr (fun k => ?_) (eqA_l0 l hl l.length 0 (by omega))
  unfold laws_eqAttrS.f
  rw [if_pos rfl]
  rfl
theorem eqI_l0 (l : List It) (hl : l.length ≤ 1048576) (hs : ∀ s ∈ l, smallI s) : ∀ (n i : Nat), i + n = l.length → Ev (fun k => laws_eqItemS.l0 k l l (i : Int)) true := by
  intro n
  induction n with
  | zero =>
    intro i hi
    refine Ev.step (f := fun _ => some true) (fun k => ?_) (Ev.now _)
    conv => lhs; unfold laws_eqItemS.l0
    rw [if_neg (by omega)]
  | succ n ih =>
    intro i hi
    have hlt : i < l.length := by omega
    have ha := eqA l[i].f3 (hs _ (List.getElem_mem hlt)).2.2.1
    refine Ev.step (f := fun k => (laws_eqAttrS.f k l[i].f3 l[i].f3).bind fun t => (if t = true then (laws_eqItemS.l0 k l l ((i + 1 : Nat) : Int)) else (some false))) (fun k => ?_) (Ev.bind ha ?_)
    · conv => lhs; unfold laws_eqItemS.l0
      rw [if_pos (by omega), if_pos (by omega), if_pos (by omega), rdIt l i hlt]
      unfold laws_eqItem.f
      rw [if_pos rfl, if_pos rfl, if_pos rfl, w1n hlt (by omega)]
      cases laws_eqAttrS.f k l[i].f3 l[i].f3 with
      | none => rfl
      | some t => cases t <;> rfl
    · simp only [if_true]
      exact ih (i + 1) (by omega)
theorem eqIS (l : List It) (hl : l.length ≤ 1048576) (hs : ∀ s ∈ l, smallI s) : Ev (fun k => laws_eqItemS.f k l l) true := by
  refine Ev.congr (fun k => ?_) (eqI_l0 l hl hs l.length 0 (by omega))
  unfold laws_eqItemS.f
  rw [if_pos rfl]
  rfl
end Go.Proofs.YtpmjpbaeecnpiaaGreatDoor.Pure

namespace Go.Proofs.YtpmjpbaeecnpiaaGreatDoor.L
open Go.RowKit Go.Proofs.YtpmjpbaeecnpiaaGreatDoor.O Go.Proofs.YtpmjpbaeecnpiaaGreatDoorW.PrintWords Go.Proofs.YtpmjpbaeecnpiaaGreatDoorW.PrintLast Go.Proofs.YtpmjpbaeecnpiaaGreatDoorW.PrintMore
set_option linter.unusedVariables false
def laws_FnExactFieldOf.Pure : Prop := ∀ (l : List S80) (n : Int) (a : ByteArray), l.length ≤ 9223372036854775807 → (∀ x ∈ l, okItem x) → ∃ k, laws_FnExactFieldOf.f k l n a = some true
theorem laws_FnExactFieldOf.walk (P : laws_FnExactFieldOf.Pure) (A0 : Option Addr) (c0 : Nat) (l : List S80) (n : Int) (a : ByteArray) (w : World) (hT : Gl w) (hr : Kd.C k80 w A0 l.length l) (hc : l.length ≤ c0) (hl : l.length ≤ 9223372036854775807) (ok : ∀ x ∈ l, okItem x) :
    Calls Tryz.prog 3 #[.slice A0 l.length c0, .int .i64 n, .string a] w fun e w' => e = .returned (.bool true) ∧ Below w.heap.size w w' := by
  obtain ⟨k, h⟩ := P l n a hl ok
  refine (laws_FnExactFieldOf.calls k A0 c0 l n a true w hT hr hc h).mono ?_
  rintro e w' ⟨rfl, hd⟩
  exact ⟨rfl, hd⟩
end Go.Proofs.YtpmjpbaeecnpiaaGreatDoor.L

namespace Go.Proofs.YtpmjpbaeecnpiaaGreatDoor.Pure
open Go.RowKit Go.Proofs.YtpmjpbaeecnpiaaGreatDoor.L Go.Proofs.YtpmjpbaeecnpiaaGreatDoor.O Go.Proofs.YtpmjpbaeecnpiaaGreatDoorW.PrintWords Go.Proofs.YtpmjpbaeecnpiaaGreatDoorW.PrintLast Go.Proofs.YtpmjpbaeecnpiaaGreatDoorW.PrintMore
set_option linter.unusedVariables false
set_option linter.unusedSimpArgs false

theorem FnExactFieldOf : laws_FnExactFieldOf.Pure := by
  intro l n a hl hs
  by_cases hbig : (a.size : Int) > 1048576
  · refine ⟨0, ?_⟩
    unfold laws_FnExactFieldOf.f
    rw [if_pos hbig]
  have ha : a.data.toList.length ≤ 1048576 := by rw [← sz]; omega
  obtain ⟨v, hv, hr⟩ := szIS l hl hs
  have : Ev (fun k => laws_FnExactFieldOf.f k l n a) true := by
    refine Ev.congr (f := fun k => (laws_szItemS.f k l 1048576).bind fun t469 => (if t469 < 0 then (some true) else ((laws_toItemS.f k l).bind fun t470 => ((spec_FieldOf.f k t470 n a).bind fun bt473 => ((laws_toItemS.f k l).bind fun t475 => ((impl_FieldOf.f k t475 n a).bind fun bt478 => (if bt478.1.toList = bt473.1.toList then (laws_FnExactFieldOf.j0 k l t475 (bt478.2 != bt473.2)) else (laws_FnExactFieldOf.j0 k l t475 true)))))))) (fun k => ?_) (Ev.bind hv ?_)
    · unfold laws_FnExactFieldOf.f
      rw [if_neg hbig]
    rcases hr with h | ⟨h0, h1, h2⟩
    · simp only [if_pos h]
      exact Ev.now _
    · have hcl : (l.map convI).length ≤ 1048576 := by rw [List.length_map]; exact h1
      have hcs : smallD (l.map convI) := fun x hx => by
        obtain ⟨y, hy, rfl⟩ := List.mem_map.1 hx
        exact h2 y hy
      have hto := toIS l h1 h2
      obtain ⟨r, him, hsp, _⟩ := field_alike (l.map convI) n a hcl hcs ha
      have heqI := eqIS (l.map convI) hcl hcs
      simp only [if_neg (show ¬ v < 0 by omega)]
      refine Ev.bind hto (Ev.bind hsp (Ev.bind hto (Ev.bind him ?_)))
      simp only [if_true, bne_self_eq_false]
      refine Ev.step (f := fun k => (laws_toItemS.f k l).bind fun t480 => ((laws_eqItemS.f k (l.map convI) t480).bind fun t483 => (if t483 = true then (some true) else (some false)))) (fun k => ?_) (Ev.bind hto (Ev.bind heqI ?_))
      · simp only [laws_FnExactFieldOf.j0, Bool.false_eq_true, if_false]
      · simp only [if_true]
        exact Ev.now _
  exact this.rounds
end Go.Proofs.YtpmjpbaeecnpiaaGreatDoor.Pure
