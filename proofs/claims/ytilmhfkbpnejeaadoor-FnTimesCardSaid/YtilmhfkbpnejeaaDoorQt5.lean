/- Words and contracts for the row RowFnTimes: what the Go functions answer that it calls; printed by programs of the kit and of this session, and merged. -/
import Derived.Test.YtilmhfkbpnejeaaDoorQt4
import Derived.Shelf.Strings.BuilderK
import Derived.Lib.Hide
import Derived.Outline
import Derived.Shelf.Lays
import Derived.KernelRfl
import Derived.Test.YtilmhfkbpnejeaaDoorProg
namespace Go.Proofs.YtilmhfkbpnejeaaDoor.Pure
open Go.RowKit Go.Proofs.YtilmhfkbpnejeaaDoor.L Go.Proofs.YtilmhfkbpnejeaaDoorW.PrintWords Go.Proofs.YtilmhfkbpnejeaaDoorW.PrintLast Go.Proofs.YtilmhfkbpnejeaaDoorW.PrintMore
set_option linter.unusedVariables false
set_option linter.unusedSimpArgs false

/-- A right number: nought, or canonical. -/
theorem ok_canon {n : Bool} {s : ByteArray} {x : Int} (h : okB n s x = true) : (s.data.toList = [] ∧ n = false ∧ x = 0) ∨ (∃ y : Nat, x = y ∧ y ≤ 60 ∧ s.data.toList.length ≤ 60 ∧ Canon s.data.toList y) := by
  unfold okB at h
  rcases e : s.data.toList with _ | ⟨b, t⟩
  · rw [e] at h
    simp only [okL, Bool.and_eq_true, beq_iff_eq, Bool.not_eq_true'] at h
    exact .inl ⟨rfl, h⟩
  · rw [e] at h
    simp only [okL, Bool.and_eq_true, bne_iff_ne, decide_eq_true_eq, inB, Bool.or_eq_true, beq_iff_eq] at h
    obtain ⟨h1, h2, h3, ⟨h4, h5⟩, h6⟩ := h
    refine .inr ⟨x.toNat, by omega, by omega, h1, b, t, rfl, h2, fun c => h3 ((b48n b).2 c), ?_⟩
    rcases h6 with h6 | h6
    · left; omega
    · right
      refine ⟨(b :: t).dropLast, (b :: t).getLast (by simp), (List.dropLast_concat_getLast (by simp)).symm, fun c => h6 ((b48n _).2 c)⟩
def sg (n : Bool) : Int := if n then -1 else 1
/-- A number's value, by 10 to the scale M. -/
def V (n : Bool) (s : ByteArray) (x : Int) (M : Nat) : Int := sg n * ((nv s.data.toList * 10 ^ (M - x.toNat) : Nat) : Int)
theorem V_zero (M : Nat) : V false ⟨#[]⟩ 0 M = 0 := by simp [V, nv]
theorem V_nil {n : Bool} {s : ByteArray} {x : Int} (h : s.data.toList = []) (M : Nat) : V n s x M = 0 := by simp [V, h, nv]
theorem sg_cases (n : Bool) : sg n = 1 ∨ sg n = -1 := by cases n <;> simp [sg]
theorem V_pos {n : Bool} {s : ByteArray} {x : Nat} (h : Canon s.data.toList x) (M : Nat) : (n = false → 0 < V n s x M) ∧ (n = true → V n s x M < 0) := by
  have h1 := canon_pos h
  have h2 : 0 < nv s.data.toList * 10 ^ (M - x) := Nat.mul_pos h1 (Nat.pow_pos (by omega))
  unfold V
  rw [Int.toNat_natCast]
  constructor <;> intro e <;> subst e <;> simp only [sg, if_true, Bool.false_eq_true, if_false] <;> omega
theorem V_neg {n : Bool} {s : ByteArray} {x : Int} (h : okB n s x = true) (M : Nat) : (n = true ↔ V n s x M < 0) ∧ (s.data.toList = [] ↔ V n s x M = 0) := by
  rcases ok_canon h with ⟨h1, h2, h3⟩ | ⟨y, rfl, h1, h2, h3⟩
  · subst h2
    rw [V_nil h1]
    simp [h1]
  · have := V_pos (n := n) h3 M
    have hne : s.data.toList ≠ [] := by obtain ⟨b, t, e, _⟩ := h3; rw [e]; simp
    cases n with
    | true => have := this.2 rfl; exact ⟨⟨fun _ => this, fun _ => rfl⟩, ⟨fun e => absurd e hne, fun e => by omega⟩⟩
    | false => have := this.1 rfl; exact ⟨⟨fun e => (by cases e), fun e => (by omega)⟩, ⟨fun e => absurd e hne, fun e => by omega⟩⟩
theorem V_uniq {n m : Bool} {s t : ByteArray} {x y : Int} {M : Nat} (h : okB n s x = true) (k : okB m t y = true) (hx : x ≤ M) (hy : y ≤ M) (hv : V n s x M = V m t y M) : n = m ∧ s = t ∧ x = y := by
  have a := V_neg h M
  have b := V_neg k M
  have hn : n = m := by
    have : n = true ↔ m = true := a.1.trans (by rw [hv]; exact b.1.symm)
    cases n with
    | true => exact (this.1 rfl).symm
    | false => cases m with
      | true => exact this.2 rfl
      | false => rfl
  subst hn
  rcases ok_canon h with ⟨h1, h2, h3⟩ | ⟨x, rfl, h1, h2, h3⟩
  · rcases ok_canon k with ⟨k1, k2, k3⟩ | ⟨y, rfl, k1, k2, k3⟩
    · exact ⟨rfl, ba_ext (by rw [h1, k1]), by rw [h3, k3]⟩
    · exfalso
      have e := b.2.2 (by rw [← hv]; exact a.2.1 h1)
      have := canon_pos k3
      rw [e] at this
      exact absurd this (by simp [nv])
  · rcases ok_canon k with ⟨k1, k2, k3⟩ | ⟨y, rfl, k1, k2, k3⟩
    · exfalso
      have e := a.2.2 (by rw [hv]; exact b.2.1 k1)
      have := canon_pos h3
      rw [e] at this
      exact absurd this (by simp [nv])
    · have hv' : nv s.data.toList * 10 ^ (M - x) = nv t.data.toList * 10 ^ (M - y) := by
        unfold V at hv
        rw [Int.toNat_natCast, Int.toNat_natCast] at hv
        rcases sg_cases n with e | e <;> rw [e] at hv <;> omega
      have := canon_uniq h3 k3 (by omega) (by omega) hv'
      exact ⟨rfl, ba_ext this.1, by rw [this.2]⟩

/-! ### what digits are made into -/
theorem strip_val : ∀ (l : List UInt8) (x : Nat), (stripR l x).2 ≤ x ∧ nv (stripR l x).1.reverse * 10 ^ (x - (stripR l x).2) = nv l.reverse ∧
    ((stripR l x).2 = 0 ∨ (stripR l x).1 = [] ∨ ∃ b t, (stripR l x).1 = b :: t ∧ b ≠ 48) ∧ (l.all digB = true → (stripR l x).1.all digB = true)
  | [], x => by simp [stripR]
  | b :: t, 0 => by simp [stripR]
  | b :: t, x + 1 => by
    by_cases c : b = 48
    · have ih := strip_val t x
      simp only [stripR, if_pos c]
      refine ⟨by omega, ?_, ih.2.2.1, fun h => ih.2.2.2 (by rw [List.all_cons, Bool.and_eq_true] at h; exact h.2)⟩
      have e : x + 1 - (stripR t x).2 = (x - (stripR t x).2) + 1 := by omega
      rw [e, Nat.pow_succ, ← Nat.mul_assoc, ih.2.1, List.reverse_cons, nv_snoc]
      subst c
      simp only [dv]
      have : (48 : UInt8).toNat = 48 := rfl
      omega
    · simp only [stripR, if_neg c]
      exact ⟨Nat.le_refl _, by simp, .inr (.inr ⟨b, t, rfl, c⟩), fun h => h⟩
theorem drop_last_ne {l : List UInt8} {b : UInt8} {t : List UInt8} (h : l.dropWhile (· == 48) = b :: t) : b ≠ 48 ∧ ∃ p, l = p ++ (b :: t) := by
  induction l with
  | nil => simp at h
  | cons a l ih =>
    by_cases c : a = 48
    · subst c
      have e : (List.dropWhile (· == (48 : UInt8)) (48 :: l)) = l.dropWhile (· == 48) := rfl
      rw [e] at h
      obtain ⟨h1, p, h2⟩ := ih h
      exact ⟨h1, 48 :: p, by rw [h2]; rfl⟩
    · have c' : (a == 48) = false := by simpa using c
      simp only [List.dropWhile, c'] at h
      injection h with h1 h2
      subst h1; subst h2
      exact ⟨c, [], rfl⟩
/-- The two cases of 'norm'. -/
theorem norm_cases (n : Bool) (l : List UInt8) (x : Nat) (hd : l.all digB = true) :
    (nv l = 0 ∧ norm n l x = zeroQ true) ∨ (∃ m y, Canon m y ∧ y ≤ x ∧ nv m * 10 ^ (x - y) = nv l ∧ norm n l x = if okL n y m then (n, mkB m, (y : Int), true) else zeroQ false) := by
  obtain ⟨h1, h2, h3, h4⟩ := strip_val l.reverse x
  rw [List.reverse_reverse] at h2
  have h4 := h4 (by rw [List.all_reverse]; exact hd)
  unfold norm normL
  rcases e : (stripR l.reverse x).1.reverse.dropWhile (· == 48) with _ | ⟨b, t⟩
  · left
    refine ⟨?_, rfl⟩
    rw [← h2, ← nv_drop, e]
    simp [nv]
  · right
    obtain ⟨hb, p, hp⟩ := drop_last_ne e
    refine ⟨b :: t, (stripR l.reverse x).2, ⟨b, t, rfl, ?_, hb, ?_⟩, h1, ?_, rfl⟩
    · have : (stripR l.reverse x).1.reverse.all digB = true := by rw [List.all_reverse]; exact h4
      rw [hp, List.all_append, Bool.and_eq_true] at this
      exact this.2
    · rcases h3 with h | h | ⟨c, u, hc, hne⟩
      · exact .inl h
      · rw [h] at e; simp at e
      · right
        rw [hc, List.reverse_cons] at hp
        refine ⟨(b :: t).dropLast, c, ?_, hne⟩
        have hl : (b :: t).getLast (by simp) = c := by
          have h5 : (u.reverse ++ [c]).getLast? = (p ++ (b :: t)).getLast? := by rw [hp]
          rw [List.getLast?_append, List.getLast?_append] at h5
          simp only [List.getLast?_singleton, Option.some_or] at h5
          rw [List.getLast?_eq_some_getLast (by simp : (b :: t) ≠ [])] at h5
          simp only [Option.some_or, Option.some.injEq] at h5
          exact h5.symm
        rw [← hl]
        exact (List.dropLast_concat_getLast (by simp)).symm
    · rw [← e, nv_drop]; exact h2

theorem norm_good (n : Bool) (l : List UInt8) (x : Nat) (hd : l.all digB = true) (hok : (norm n l x).2.2.2 = true) :
    okB (norm n l x).1 (norm n l x).2.1 (norm n l x).2.2.1 = true ∧ (norm n l x).2.2.1 ≤ x ∧ V (norm n l x).1 (norm n l x).2.1 (norm n l x).2.2.1 x = sg n * (nv l : Int) := by
  rcases norm_cases n l x hd with ⟨h1, h2⟩ | ⟨m, y, h1, h2, h3, h4⟩
  · rw [h2]
    refine ⟨rfl, by simp [zeroQ], ?_⟩
    show V false ⟨#[]⟩ 0 x = _
    rw [V_zero, h1]; simp
  · by_cases c : okL n y m = true
    · rw [if_pos c] at h4
      rw [h4]
      refine ⟨by rw [okB, mkB_list]; exact c, by show (y : Int) ≤ x; omega, ?_⟩
      show V n (mkB m) (y : Int) x = _
      rw [V, mkB_list, Int.toNat_natCast, h3]
    · rw [if_neg c] at h4
      rw [h4] at hok
      cases hok
theorem norm_is (n : Bool) (l : List UInt8) (x : Nat) (hd : l.all digB = true) {m : Bool} {t : ByteArray} {y : Int} (hk : okB m t y = true) (hy : y ≤ x) (hv : V m t y x = sg n * (nv l : Int)) :
    norm n l x = (m, t, y, true) := by
  have k := V_neg hk x
  rcases norm_cases n l x hd with ⟨h1, h2⟩ | ⟨l2, z, h1, h2, h3, h4⟩
  · rw [h1] at hv
    have e : t.data.toList = [] := k.2.2 (by rw [hv]; simp)
    rcases ok_canon hk with ⟨_, k2, k3⟩ | ⟨_, _, _, _, _, _, e2, _⟩
    · rw [h2, k2, k3, ba_ext (a := t) (b := ⟨#[]⟩) (by rw [e])]; rfl
    · rw [e] at e2; cases e2
  · have hp : 0 < nv l := by rw [← h3]; exact Nat.mul_pos (canon_pos h1) (Nat.pow_pos (by omega))
    rcases ok_canon hk with ⟨k1, k2, k3⟩ | ⟨w, rfl, k1, k2, k3⟩
    · exfalso
      rw [k.2.1 k1] at hv
      rcases sg_cases n with e | e <;> rw [e] at hv <;> omega
    · have hm : m = n := by
        have c := V_pos (n := m) k3 x
        cases m with
        | true => have := c.2 rfl; cases n with
          | true => rfl
          | false => simp only [sg, Bool.false_eq_true, if_false] at hv; omega
        | false => have := c.1 rfl; cases n with
          | false => rfl
          | true => simp only [sg, if_true] at hv; omega
      subst hm
      have hv' : nv l2 * 10 ^ (x - z) = nv t.data.toList * 10 ^ (x - w) := by
        unfold V at hv
        rw [Int.toNat_natCast] at hv
        rw [h3]
        rcases sg_cases m with e | e <;> rw [e] at hv <;> omega
      have u := canon_uniq h1 k3 h2 (by omega) hv'
      rw [h4, u.1, u.2, mkB_of]
      rw [if_pos]
      rw [okB] at hk
      exact hk
theorem norm_bad (n : Bool) (l : List UInt8) (x : Nat) (hok : (norm n l x).2.2.2 = false) : norm n l x = zeroQ false := by
  unfold norm normL at hok ⊢
  split at hok
  · cases hok
  · split at hok
    · cases hok
    · rename_i h; rw [if_neg h]
def whole (l : List UInt8) : List UInt8 := l.takeWhile (· != 46)
def part (l : List UInt8) : List UInt8 := (l.dropWhile (· != 46)).drop 1
def readB (n : Bool) (l : List UInt8) : Bool × ByteArray × Int × Bool :=
  if l.length > 180 then zeroQ false
  else if (whole l).all digB = true then (if (part l).all digB = true then (if whole l ++ part l = [] then zeroQ false else norm n (whole l ++ part l) (part l).length) else zeroQ false) else zeroQ false
def readD : List UInt8 → Bool × ByteArray × Int × Bool
  | [] => readB false []
  | b :: t => if b = 45 then readB true t else if b = 43 then readB false t else readB false (b :: t)

theorem whole_add (l : List UInt8) : whole l ++ l.dropWhile (· != 46) = l := List.takeWhile_append_dropWhile
theorem whole_len (l : List UInt8) : (whole l).length ≤ l.length := by
  have := congrArg List.length (whole_add l)
  rw [List.length_append] at this
  omega
theorem take_whole (l : List UInt8) : l.take (whole l).length = whole l := by
  conv => lhs; arg 2; rw [← whole_add l]
  exact List.take_left
theorem drop_whole (l : List UInt8) : l.drop (whole l).length = l.dropWhile (· != 46) := by
  conv => lhs; arg 2; rw [← whole_add l]
  exact List.drop_left
theorem drop_part (l : List UInt8) : l.drop ((whole l).length + 1) = part l := by
  rw [part, ← drop_whole, List.drop_drop]
theorem part_nil (l : List UInt8) (h : (whole l).length = l.length) : part l = [] := by
  rw [← drop_part, List.drop_of_length_le (by omega)]
theorem at_whole : ∀ (l : List UInt8) (i : Nat) (h : i < l.length), (i < (whole l).length → l[i] ≠ 46) ∧ (i = (whole l).length → l[i] = 46)
  | [], i, h => by simp at h
  | b :: t, i, h => by
    by_cases c : b = 46
    · subst c
      have e : whole (46 :: t) = [] := rfl
      rw [e]
      refine ⟨fun h => by simp at h, fun h => ?_⟩
      have : i = 0 := by simpa using h
      subst this; rfl
    · have c' : (b != 46) = true := by simpa using c
      have e : whole (b :: t) = b :: whole t := by simp only [whole, List.takeWhile, c']
      rw [e, List.length_cons]
      match i, h with
      | 0, h => exact ⟨fun _ => c, fun h => by omega⟩
      | i + 1, h =>
        have ih := at_whole t i (by simpa using h)
        exact ⟨fun h => ih.1 (by omega), fun h => ih.2 (by omega)⟩
theorem b46 (b : UInt8) : ((b.toNat : Int) = 46) ↔ b = 46 := by
  constructor
  · intro h
    apply UInt8.toNat.inj
    have e2 : (46 : UInt8).toNat = 46 := rfl
    omega
  · intro h; subst h; rfl

theorem spec_j4 (n : Bool) (s w p : ByteArray) (hs : s.size ≤ 1000000) (hw : w.data.toList = whole s.data.toList) (hp : p.data.toList = part s.data.toList) :
    Ev (fun k => spec_ReadDec.j4 k s n w p) (readB n s.data.toList) := by
  have hzs := sz s
  have hlw : w.data.toList.length ≤ 1000000 := by rw [hw]; exact Nat.le_trans (whole_len _) (by omega)
  have hlp : p.data.toList.length ≤ 1000000 := by rw [hp, ← drop_part, List.length_drop]; omega
  unfold readB
  by_cases c : s.data.toList.length > 180
  · rw [if_pos c]
    refine Ev.step (f := fun _ => some (zeroQ false)) (fun k => ?_) (Ev.now _)
    simp only [spec_ReadDec.j4]
    rw [if_pos (by omega)]; rfl
  · rw [if_neg c]
    refine Ev.step (f := fun k => ((spec_l4Digits.f k w).bind fun t175 => (if t175 = true then ((spec_l4Digits.f k p).bind fun t176 => (if t176 = true then (if w.size + p.size ≤ 9223372036854775807 then (if (w ++ p).toList = ([] : List UInt8) then (some (false, (⟨#[]⟩ : ByteArray), 0, false)) else ((spec_l4Norm.f k n (w ++ p) (p.size : Int)).bind fun bt177 => (some (bt177.1, bt177.2.1, bt177.2.2.1, bt177.2.2.2)))) else (none)) else (some (false, (⟨#[]⟩ : ByteArray), 0, false)))) else (some (false, (⟨#[]⟩ : ByteArray), 0, false))))) (fun k => ?_) ?_
    · simp only [spec_ReadDec.j4]
      rw [if_neg (by omega)]
    · have d1 := l4Digits w (by omega)
      rw [hw] at d1
      refine Ev.bind d1 ?_
      by_cases c1 : (whole s.data.toList).all digB = true
      · rw [if_pos c1]
        simp only [c1, if_true]
        have d2 := l4Digits p (by omega)
        rw [hp] at d2
        refine Ev.bind d2 ?_
        by_cases c2 : (part s.data.toList).all digB = true
        · simp only [c2, if_true]
          have e1 := sz w
          have e2 := sz p
          simp only [Lib.toList_data, ba_app, hw, hp, show w.size + p.size ≤ 9223372036854775807 by omega, if_true]
          by_cases c3 : whole s.data.toList ++ part s.data.toList = []
          · simp only [c3, if_true]; exact Ev.now _
          · simp only [c3, if_false]
            have d3 := l4Norm_f n (w ++ p) p.data.toList.length hlp (by rw [app_size]; have := whole_len s.data.toList; rw [sz, sz]; have : p.data.toList.length ≤ 180 := (by rw [hp, ← drop_part, List.length_drop]; omega); rw [hw]; omega)
            rw [ba_app, hw, hp, ← hp, ← e2] at d3
            refine Ev.bind d3 ?_
            rw [hp, e2, hp]
            exact Ev.now _
        · rw [if_neg c2]
          simp only [c2]; exact Ev.now _
      · rw [if_neg c1]
        simp only [c1]; exact Ev.now _
theorem spec_j3 (n : Bool) (s : ByteArray) (hs : s.size ≤ 1000000) : Ev (fun k => spec_ReadDec.j3 k s n ((whole s.data.toList).length : Int)) (readB n s.data.toList) := by
  have hz := sz s
  have hl := whole_len s.data.toList
  have e1 : (s.extract 0 (((whole s.data.toList).length : Nat) : Int).toNat).data.toList = whole s.data.toList := by
    rw [Lib.extract_data, List.drop_zero, Int.toNat_natCast, Nat.sub_zero, take_whole]
  by_cases c : (whole s.data.toList).length < s.data.toList.length
  · have hw : wrap64 (((whole s.data.toList).length : Int) + 1) = (((whole s.data.toList).length + 1 : Nat) : Int) := by rw [w64] <;> omega
    refine Ev.step (f := fun k => spec_ReadDec.j4 k s n (s.extract 0 (((whole s.data.toList).length : Nat) : Int).toNat) (s.extract (((whole s.data.toList).length + 1 : Nat) : Int).toNat s.size)) (fun k => ?_) (spec_j4 n s _ _ hs e1 ?_)
    · simp only [spec_ReadDec.j3]
      rw [if_pos (by omega), if_pos (by omega), if_pos (by omega), hw, if_pos (by omega), if_pos (by omega)]
    · rw [Lib.extract_to_end, Int.toNat_natCast, drop_part]
  · refine Ev.step (f := fun k => spec_ReadDec.j4 k s n (s.extract 0 (((whole s.data.toList).length : Nat) : Int).toNat) ⟨#[]⟩) (fun k => ?_) (spec_j4 n s _ _ hs e1 ?_)
    · simp only [spec_ReadDec.j3]
      rw [if_pos (by omega), if_pos (by omega), if_neg (by omega)]
    · rw [part_nil _ (by omega)]
theorem spec_l0 (n : Bool) (s : ByteArray) (hs : s.size ≤ 1000000) : ∀ (m i : Nat), i + m = (whole s.data.toList).length → Ev (fun k => spec_ReadDec.l0 k s n (i : Int)) (readB n s.data.toList) := by
  have hz := sz s
  have hl := whole_len s.data.toList
  intro m
  induction m with
  | zero =>
    intro i hi
    have hi' : i = (whole s.data.toList).length := by omega
    subst hi'
    refine Ev.step (f := fun k => spec_ReadDec.j3 k s n ((whole s.data.toList).length : Int)) (fun k => ?_) (spec_j3 n s hs)
    conv => lhs; unfold spec_ReadDec.l0
    by_cases c : (whole s.data.toList).length < s.data.toList.length
    · rw [if_pos (by omega), if_pos (by omega), bt_nat s _ c, if_pos ((b46 _).2 ((at_whole _ _ c).2 rfl))]
    · rw [if_neg (by omega)]
  | succ m ih =>
    intro i hi
    have c : i < s.data.toList.length := by omega
    refine Ev.step (f := fun k => spec_ReadDec.l0 k s n ((i + 1 : Nat) : Int)) (fun k => ?_) (ih (i + 1) (by omega))
    conv => lhs; unfold spec_ReadDec.l0
    have hw : wrap64 ((i : Int) + 1) = ((i + 1 : Nat) : Int) := by rw [w64] <;> omega
    rw [if_pos (by omega), if_pos (by omega), bt_nat s _ c, if_neg (fun h => (at_whole s.data.toList i c).1 (by omega) ((b46 _).1 h)), hw]
theorem spec_j1 (n : Bool) (s : ByteArray) (hs : s.size ≤ 1000000) : Ev (fun k => spec_ReadDec.j1 k s n) (readB n s.data.toList) :=
  Ev.step (f := fun k => spec_ReadDec.l0 k s n 0) (fun k => by simp only [spec_ReadDec.j1]) (spec_l0 n s hs (whole s.data.toList).length 0 (by omega))
theorem bN (b : UInt8) (m : UInt8) : ((b.toNat : Int) = (m.toNat : Int)) ↔ b = m := by
  constructor
  · intro h; apply UInt8.toNat.inj; omega
  · intro h; subst h; rfl
theorem spec_ReadDec_f (s : ByteArray) (hs : s.size ≤ 1000000) : Ev (fun k => spec_ReadDec.f k s) (readD s.data.toList) := by
  have hz := sz s
  unfold spec_ReadDec.f
  rcases h : s.data.toList with _ | ⟨b, t⟩
  · rw [h] at hz
    have hz' : s.size = 0 := hz
    refine Ev.congr (f := fun k => spec_ReadDec.j0 k s false false) (fun k => by rw [if_neg (by omega)]) ?_
    refine Ev.step (f := fun k => spec_ReadDec.j1 k s false) (fun k => by simp only [spec_ReadDec.j0, Bool.false_eq_true, if_false]) ?_
    have := spec_j1 false s hs
    rw [h] at this
    exact this
  · rw [h, List.length_cons] at hz
    have hb := first_bt s b t h
    have hd : (s.extract 1 s.size).data.toList = t := by rw [Lib.extract_to_end, h]; rfl
    have hds : (s.extract 1 s.size).size ≤ 1000000 := by rw [sz, hd]; omega
    have n45 := bN b 45
    have n43 := bN b 43
    have e45 : ((45 : UInt8).toNat : Int) = 45 := rfl
    have e43 : ((43 : UInt8).toNat : Int) = 43 := rfl
    rw [e45] at n45
    rw [e43] at n43
    refine Ev.congr (f := fun k => if b = 45 then spec_ReadDec.j0 k s false true else spec_ReadDec.j0 k s false (b == 43)) (fun k => ?_) ?_
    · rw [if_pos (by omega), if_pos (by omega), hb]
      by_cases c : b = 45
      · rw [if_pos (n45.2 c), if_pos c]
      · rw [if_neg (fun h => c (n45.1 h)), if_neg c]
        congr 1
        rw [Bool.eq_iff_iff, beq_iff_eq, beq_iff_eq]
        exact n43
    · have jt : Ev (fun k => spec_ReadDec.j0 k s false true) (readB (b == 45) t) := by
        refine Ev.step (f := fun k => spec_ReadDec.j1 k (s.extract 1 s.size) (b == 45)) (fun k => ?_) ?_
        · simp only [spec_ReadDec.j0, if_true]
          rw [if_pos (by omega), if_pos (by omega), hb]
          congr 1
          rw [Bool.eq_iff_iff, beq_iff_eq, beq_iff_eq]
          exact n45
        · have := spec_j1 (b == 45) (s.extract 1 s.size) hds
          rw [hd] at this
          exact this
      unfold readD
      by_cases c : b = 45
      · simp only [c, if_true] at jt ⊢
        exact jt
      · simp only [c, if_false]
        by_cases c3 : b = 43
        · subst c3
          simp only [if_true, beq_self_eq_true] at jt ⊢
          exact jt
        · have c3' : (b == 43) = false := by simpa using c3
          simp only [c3, if_false, c3']
          refine Ev.step (f := fun k => spec_ReadDec.j1 k s false) (fun k => by simp only [spec_ReadDec.j0, Bool.false_eq_true, if_false]) ?_
          have := spec_j1 false s hs
          rw [h] at this
          exact this

/-! ### the program's way -/
/-! ### there and back -/
theorem readD_cons (b : UInt8) (t : List UInt8) : readD (b :: t) = if b = 45 then readB true t else if b = 43 then readB false t else readB false (b :: t) := rfl
theorem readB_good (n : Bool) (l : List UInt8) (h : (readB n l).2.2.2 = true) : okB (readB n l).1 (readB n l).2.1 (readB n l).2.2.1 = true := by
  unfold readB at h ⊢
  by_cases c : l.length > 180
  · rw [if_pos c] at h; cases h
  · rw [if_neg c] at h ⊢
    by_cases c1 : (whole l).all digB = true
    · rw [if_pos c1] at h ⊢
      by_cases c2 : (part l).all digB = true
      · rw [if_pos c2] at h ⊢
        by_cases c3 : whole l ++ part l = []
        · rw [if_pos c3] at h; cases h
        · rw [if_neg c3] at h ⊢
          exact (norm_good n _ _ (by rw [List.all_append, c1, c2]; rfl) h).1
      · rw [if_neg c2] at h; cases h
    · rw [if_neg c1] at h; cases h
theorem readD_good (l : List UInt8) (h : (readD l).2.2.2 = true) : okB (readD l).1 (readD l).2.1 (readD l).2.2.1 = true := by
  rcases l with _ | ⟨b, t⟩
  · exact readB_good false [] h
  · rw [readD_cons] at h ⊢
    by_cases c : b = 45
    · rw [if_pos c] at h ⊢; exact readB_good _ _ h
    · rw [if_neg c] at h ⊢
      by_cases c2 : b = 43
      · rw [if_pos c2] at h ⊢; exact readB_good _ _ h
      · rw [if_neg c2] at h ⊢; exact readB_good _ _ h
theorem norm_cases2 (n : Bool) (l : List UInt8) (x : Nat) : (norm n l x).2.2.2 = true ∨ norm n l x = zeroQ false := by
  cases e : (norm n l x).2.2.2 with
  | true => exact .inl rfl
  | false => exact .inr (norm_bad n l x e)
theorem readB_cases (n : Bool) (l : List UInt8) : (readB n l).2.2.2 = true ∨ readB n l = zeroQ false := by
  unfold readB
  split
  · exact .inr rfl
  · split
    · split
      · split
        · exact .inr rfl
        · exact norm_cases2 _ _ _
      · exact .inr rfl
    · exact .inr rfl
theorem readD_cases (l : List UInt8) : (readD l).2.2.2 = true ∨ readD l = zeroQ false := by
  rcases l with _ | ⟨b, t⟩
  · exact readB_cases false []
  · rw [readD_cons]
    split
    · exact readB_cases _ _
    · split <;> exact readB_cases _ _
theorem readD_len (l : List UInt8) : (readD l).2.1.size ≤ 60 := by
  rcases readD_cases l with h | h
  · exact (ok_len (readD_good l h)).1
  · rw [h]; decide
def Code (l : List Int) : Prop := l.length ≤ 140737488351232 ∧ ∀ x ∈ l, 0 ≤ x ∧ x ≤ 255
def St (l : List Int) (p : Int) : Prop := 0 ≤ p ∧ p ≤ l.length
theorem code_of {l : List Int} (h1 : l.length * 1 ≤ 140737488351232) (h2 : ∀ x ∈ l, (Lit.int .u8 x).wf = true) : Code l :=
  ⟨by omega, fun x hx => by
    have := h2 x hx
    simpa [Lit.wf, IntKind.min, IntKind.max, IntKind.signed, IntKind.bits] using this⟩
theorem rd_byte {l : List Int} (h : Code l) (i : Int) : 0 ≤ rd l i ∧ rd l i ≤ 255 := by
  unfold rd
  rw [List.getD_eq_getElem?_getD]
  rcases e : l[i.toNat]? with _ | x
  · simp
  · exact h.2 x (List.mem_of_getElem? e)
theorem next_f {l : List Int} {p : Int} (h : Code l) (hp : St l p) : ∃ v q, spec_l1Rd_next.f l p = some (v, q) ∧ 0 ≤ v ∧ v ≤ 255 ∧ St l q := by
  have hl := h.1
  obtain ⟨p0, p1⟩ := hp
  unfold spec_l1Rd_next.f
  by_cases c : p ≥ (l.length : Int)
  · rw [if_pos c]; exact ⟨0, p, rfl, by omega, by omega, p0, p1⟩
  · have w1 : wrap64 (p + 1) = p + 1 := by rw [w64] <;> omega
    have w2 : wrap64 (p + 1 - 1) = p := by rw [w64] <;> omega
    have hb := rd_byte h p
    have w3 : wrap64 (rd l p) = rd l p := by rw [w64] <;> omega
    rw [if_neg c, w1, w2, if_pos (by omega), if_pos (by omega), w3]
    exact ⟨_, _, rfl, hb.1, hb.2, by omega, by omega⟩
theorem below_f {l : List Int} {p : Int} (h : Code l) (hp : St l p) (n : Int) (h1 : 1 ≤ n) (h2 : n ≤ 256) : ∃ v q, spec_l1Rd_below.f l p n = some (v, q) ∧ 0 ≤ v ∧ v < n ∧ St l q := by
  unfold spec_l1Rd_below.f
  by_cases c : n ≤ 1
  · rw [if_pos c]; exact ⟨0, p, rfl, by omega, by omega, hp⟩
  · obtain ⟨v, q, e, v0, v1, hq⟩ := next_f h hp
    rw [if_neg c, if_pos h2, e]
    simp only [Option.bind_some]
    rw [if_neg (by omega), Int.tmod_eq_emod_of_nonneg v0]
    exact ⟨_, _, rfl, Int.emod_nonneg _ (by omega), Int.emod_lt_of_pos _ (by omega), hq⟩
theorem once_f {l : List Int} {p : Int} (h : Code l) (hp : St l p) (n : Int) (h1 : 1 ≤ n) (h2 : n ≤ 256) : ∃ v q, spec_l1Rd_once.f l p n = some (v, q) ∧ St l q := by
  obtain ⟨v, q, e, _, _, hq⟩ := below_f h hp n h1 h2
  unfold spec_l1Rd_once.f
  rw [e]
  exact ⟨_, _, rfl, hq⟩
theorem rdOf_size (y : List ByteArray) (i : Int) (n : Nat) (h : ∀ s ∈ y, s.size ≤ n) : (rdOf ByteArray.empty y i).size ≤ n := by
  unfold rdOf
  rw [List.getD_eq_getElem?_getD]
  rcases e : y[i.toNat]? with _ | x
  · simp only [Option.getD_none]; exact Nat.zero_le _
  · exact h x (List.mem_of_getElem? e)

theorem dt_l1 {l : List Int} {p : Int} (hp : St l p) : ∀ (m : Nat) (s : ByteArray) (i : Int), 0 ≤ i → (m : Int) = 60 - i → s.size + m ≤ 1000 →
    ∃ t, Ev (fun k => spec_l1Rd_decText.l1 k s i l p) (t, p) ∧ t.size ≤ s.size + m := by
  intro m
  induction m with
  | zero =>
    intro s i hi hm hs
    refine ⟨s, Ev.step (f := fun _ => some (s, p)) (fun k => ?_) (Ev.now _), by omega⟩
    conv => lhs; unfold spec_l1Rd_decText.l1
    rw [if_neg (by omega)]
  | succ m ih =>
    intro s i hi hm hs
    have e1 : (⟨#[55]⟩ : ByteArray).size = 1 := rfl
    obtain ⟨t, ht, hl⟩ := ih (s ++ (⟨#[55]⟩ : ByteArray)) (i + 1) (by omega) (by omega) (by rw [app_size, e1]; omega)
    refine ⟨t, Ev.step (f := fun k => spec_l1Rd_decText.l1 k (s ++ (⟨#[55]⟩ : ByteArray)) (i + 1) l p) (fun k => ?_) ht, by rw [app_size, e1] at hl; omega⟩
    conv => lhs; unfold spec_l1Rd_decText.l1
    rw [if_pos (by omega), if_pos (by omega), w64 (by omega) (by omega)]
theorem dt_j3 {l : List Int} {p : Int} (h : Code l) (hp : St l p) (s : ByteArray) (hs : s.size ≤ 100) : ∃ t q, Ev (fun k => spec_l1Rd_decText.j3 k s l p) (t, q) ∧ t.size ≤ 160 ∧ St l q := by
  obtain ⟨v, q, e, hq⟩ := once_f h hp 40 (by omega) (by omega)
  cases v with
  | true =>
    obtain ⟨t, ht, hl⟩ := dt_l1 hq 60 s 0 (by omega) (by omega) (by omega)
    refine ⟨t, q, Ev.step (f := fun k => spec_l1Rd_decText.l1 k s 0 l q) (fun k => ?_) ht, by omega, hq⟩
    simp only [spec_l1Rd_decText.j3, e, Option.bind_some, if_true]
  | false =>
    refine ⟨s, q, Ev.step (f := fun k => some (s, q)) (fun k => ?_) (Ev.now _), by omega, hq⟩
    simp only [spec_l1Rd_decText.j3, e, Option.bind_some, Bool.false_eq_true, if_false]
theorem dt_j2 {l : List Int} {p : Int} (h : Code l) (hp : St l p) (s : ByteArray) (hs : s.size ≤ 99) (a : Int) (b : Bool) : ∃ t q, Ev (fun k => spec_l1Rd_decText.j2 k s a b l p) (t, q) ∧ t.size ≤ 160 ∧ St l q := by
  have e1 (c : UInt8) : (⟨#[c]⟩ : ByteArray).size = 1 := rfl
  cases b with
  | true =>
    obtain ⟨t, q, ht, r⟩ := dt_j3 h hp ((⟨#[45]⟩ : ByteArray) ++ s) (by rw [app_size, e1]; omega)
    refine ⟨t, q, Ev.step (f := fun k => spec_l1Rd_decText.j3 k ((⟨#[45]⟩ : ByteArray) ++ s) l p) (fun k => ?_) ht, r⟩
    simp only [spec_l1Rd_decText.j2, if_true]
    rw [if_pos (by omega)]
  | false =>
    by_cases c : a = 2
    · obtain ⟨t, q, ht, r⟩ := dt_j3 h hp ((⟨#[43]⟩ : ByteArray) ++ s) (by rw [app_size, e1]; omega)
      refine ⟨t, q, Ev.step (f := fun k => spec_l1Rd_decText.j3 k ((⟨#[43]⟩ : ByteArray) ++ s) l p) (fun k => ?_) ht, r⟩
      simp only [spec_l1Rd_decText.j2, Bool.false_eq_true, if_false]
      rw [if_pos c, if_pos (by omega)]
    · obtain ⟨t, q, ht, r⟩ := dt_j3 h hp s (by omega)
      refine ⟨t, q, Ev.step (f := fun k => spec_l1Rd_decText.j3 k s l p) (fun k => ?_) ht, r⟩
      simp only [spec_l1Rd_decText.j2, Bool.false_eq_true, if_false]
      rw [if_neg c]
theorem dt_j1 {l : List Int} {p : Int} (h : Code l) (hp : St l p) (s : ByteArray) (hs : s.size ≤ 99) : ∃ t q, Ev (fun k => spec_l1Rd_decText.j1 k s l p) (t, q) ∧ t.size ≤ 160 ∧ St l q := by
  obtain ⟨v, q, e, v0, v1, hq⟩ := below_f h hp 6 (by omega) (by omega)
  by_cases c : v = 0
  · obtain ⟨t, r, ht, g⟩ := dt_j2 h hq s hs v (v == 0)
    refine ⟨t, r, Ev.step (f := fun k => spec_l1Rd_decText.j2 k s v (v == 0) l q) (fun k => ?_) ht, g⟩
    simp only [spec_l1Rd_decText.j1, e, Option.bind_some]
    rw [if_pos c]
  · obtain ⟨t, r, ht, g⟩ := dt_j2 h hq s hs v (v == 1)
    refine ⟨t, r, Ev.step (f := fun k => spec_l1Rd_decText.j2 k s v (v == 1) l q) (fun k => ?_) ht, g⟩
    simp only [spec_l1Rd_decText.j1, e, Option.bind_some]
    rw [if_neg c]
theorem dt_l0 {l : List Int} (h : Code l) : ∀ (m : Nat) (p : Int) (s : ByteArray), St l p → m ≤ 10 → s.size + 2 * m ≤ 40 →
    ∃ t q, Ev (fun k => spec_l1Rd_decText.l0 k s (m : Int) l p) (t, q) ∧ t.size ≤ 160 ∧ St l q := by
  intro m
  induction m with
  | zero =>
    intro p s hp hm hs
    obtain ⟨v, q, e, hq⟩ := once_f h hp 2 (by omega) (by omega)
    have e1 (c : UInt8) : (⟨#[c]⟩ : ByteArray).size = 1 := rfl
    cases v with
    | true =>
      obtain ⟨i, r, ei, i0, i1, hr⟩ := below_f h hq 6 (by omega) (by omega)
      have hsz := rdOf_size [(⟨#[]⟩ : ByteArray), (⟨#[48]⟩ : ByteArray), (⟨#[53]⟩ : ByteArray), (⟨#[50, 53]⟩ : ByteArray), (⟨#[48, 53, 48]⟩ : ByteArray), (⟨#[57, 57, 57]⟩ : ByteArray)] i 3 (by decide)
      obtain ⟨t, z, ht, g⟩ := dt_j1 h hr ((s ++ (⟨#[46]⟩ : ByteArray)) ++ rdOf ByteArray.empty [(⟨#[]⟩ : ByteArray), (⟨#[48]⟩ : ByteArray), (⟨#[53]⟩ : ByteArray), (⟨#[50, 53]⟩ : ByteArray), (⟨#[48, 53, 48]⟩ : ByteArray), (⟨#[57, 57, 57]⟩ : ByteArray)] i) (by rw [app_size, app_size, e1]; omega)
      refine ⟨t, z, Ev.step (f := fun k => spec_l1Rd_decText.j1 k ((s ++ (⟨#[46]⟩ : ByteArray)) ++ rdOf ByteArray.empty [(⟨#[]⟩ : ByteArray), (⟨#[48]⟩ : ByteArray), (⟨#[53]⟩ : ByteArray), (⟨#[50, 53]⟩ : ByteArray), (⟨#[48, 53, 48]⟩ : ByteArray), (⟨#[57, 57, 57]⟩ : ByteArray)] i) l r) (fun k => ?_) ht, g⟩
      conv => lhs; unfold spec_l1Rd_decText.l0
      rw [if_neg (by omega), e]
      simp only [Option.bind_some, if_true, ei]
      rw [if_pos (by omega), if_pos i0, if_pos (by simpa using i1), if_pos (by rw [app_size, e1]; omega)]
    | false =>
      obtain ⟨t, z, ht, g⟩ := dt_j1 h hq s (by omega)
      refine ⟨t, z, Ev.step (f := fun k => spec_l1Rd_decText.j1 k s l q) (fun k => ?_) ht, g⟩
      conv => lhs; unfold spec_l1Rd_decText.l0
      rw [if_neg (by omega), e]
      simp only [Option.bind_some, Bool.false_eq_true, if_false]
  | succ m ih =>
    intro p s hp hm hs
    obtain ⟨i, r, ei, i0, i1, hr⟩ := below_f h hp 6 (by omega) (by omega)
    have hsz := rdOf_size [(⟨#[48]⟩ : ByteArray), (⟨#[49]⟩ : ByteArray), (⟨#[53]⟩ : ByteArray), (⟨#[57]⟩ : ByteArray), (⟨#[48, 48]⟩ : ByteArray), (⟨#[49, 50]⟩ : ByteArray)] i 2 (by decide)
    obtain ⟨t, z, ht, g⟩ := ih r (s ++ rdOf ByteArray.empty [(⟨#[48]⟩ : ByteArray), (⟨#[49]⟩ : ByteArray), (⟨#[53]⟩ : ByteArray), (⟨#[57]⟩ : ByteArray), (⟨#[48, 48]⟩ : ByteArray), (⟨#[49, 50]⟩ : ByteArray)] i) hr (by omega) (by rw [app_size]; omega)
    refine ⟨t, z, Ev.step (f := fun k => spec_l1Rd_decText.l0 k (s ++ rdOf ByteArray.empty [(⟨#[48]⟩ : ByteArray), (⟨#[49]⟩ : ByteArray), (⟨#[53]⟩ : ByteArray), (⟨#[57]⟩ : ByteArray), (⟨#[48, 48]⟩ : ByteArray), (⟨#[49, 50]⟩ : ByteArray)] i) (m : Int) l r) (fun k => ?_) ht, g⟩
    conv => lhs; unfold spec_l1Rd_decText.l0
    have hw : wrap64 (((m + 1 : Nat) : Int) - 1) = (m : Int) := by rw [w64] <;> omega
    rw [if_pos (by omega)]
    simp only [Option.bind_some, ei]
    rw [if_pos i0, if_pos (by simpa using i1), if_pos (by omega), hw]
theorem decText_f {l : List Int} {p : Int} (h : Code l) (hp : St l p) : ∃ t q, Ev (fun k => spec_l1Rd_decText.f k l p) (t, q) ∧ t.size ≤ 160 ∧ St l q := by
  obtain ⟨v, q, e, v0, v1, hq⟩ := below_f h hp 5 (by omega) (by omega)
  have e0 : (⟨#[]⟩ : ByteArray).size = 0 := rfl
  obtain ⟨t, r, ht, g⟩ := dt_l0 h v.toNat q ⟨#[]⟩ hq (by omega) (by omega)
  have hv : ((v.toNat : Nat) : Int) = v := by omega
  rw [hv] at ht
  refine ⟨t, r, ?_, g⟩
  unfold spec_l1Rd_decText.f
  rw [e]
  exact ht

theorem word_f {l : List Int} (h : Code l) : ∀ (m : Nat) (p x i : Int), St l p → 0 ≤ i → (m : Int) = 8 - i → ∃ y q, Ev (fun k => spec_l1Rd_word.l0 k x i l p) (y, q) ∧ St l q := by
  intro m
  induction m with
  | zero =>
    intro p x i hp hi hm
    refine ⟨x, p, Ev.step (f := fun _ => some (x, p)) (fun k => ?_) (Ev.now _), hp⟩
    conv => lhs; unfold spec_l1Rd_word.l0
    rw [if_neg (by omega)]
  | succ m ih =>
    intro p x i hp hi hm
    obtain ⟨v, q, e, _, _, hq⟩ := next_f h hp
    obtain ⟨y, r, hy, g⟩ := ih q (Go.bits .or .u64 (IntKind.u64.wrap (x * 256)) (IntKind.u64.wrap v)) (i + 1) hq (by omega) (by omega)
    refine ⟨y, r, Ev.step (f := fun k => spec_l1Rd_word.l0 k (Go.bits .or .u64 (IntKind.u64.wrap (x * 256)) (IntKind.u64.wrap v)) (i + 1) l q) (fun k => ?_) hy, g⟩
    conv => lhs; unfold spec_l1Rd_word.l0
    rw [if_pos (by omega), e, w64 (n := i + 1) (by omega) (by omega)]
    rfl
theorem near_f {l : List Int} {p : Int} (h : Code l) (hp : St l p) : ∃ y q, Ev (fun k => spec_l1Rd_near.f k l p 0 60) (y, q) ∧ St l q := by
  obtain ⟨v, q, e, v0, v1, hq⟩ := below_f h hp 8 (by omega) (by omega)
  unfold spec_l1Rd_near.f
  rw [e]
  simp only [Option.bind_some]
  by_cases c : v = 0
  · simp only [c, if_true]; exact ⟨_, _, Ev.now _, hq⟩
  · simp only [c, if_false]
    by_cases c1 : v = 1
    · simp only [c1, if_true]; exact ⟨_, _, Ev.now _, hq⟩
    · simp only [c1, if_false]
      obtain ⟨y, r, hy, g⟩ := word_f h 8 q 0 0 hq (by omega) (by omega)
      have w0 : (IntKind.u64.wrap (wrap64 ((wrap64 (60 - 0)) + 1))) = 61 := by decide +kernel
      refine ⟨_, r, Ev.congr (f := fun k => (spec_l1Rd_word.l0 k 0 0 l q).bind fun bt214 => some (wrap64 (0 + (wrap64 (Int.tmod (bt214.1 / 2) (IntKind.u64.wrap (wrap64 ((wrap64 (60 - 0)) + 1)))))), bt214.2)) (fun k => ?_) (Ev.bind hy (Ev.now _)), g⟩
      rw [if_neg (by omega)]
      unfold spec_l1Rd_word.f
      congr 1
      funext bt
      rw [if_neg (by rw [w0]; decide)]
theorem off_f {l : List Int} {p : Int} (h : Code l) (hp : St l p) : ∃ y q, Ev (fun k => spec_l1Rd_off.f k l p 0 60) (y, q) ∧ St l q := by
  obtain ⟨v, q, e, hq⟩ := once_f h hp 24 (by omega) (by omega)
  unfold spec_l1Rd_off.f
  rw [e]
  simp only [Option.bind_some]
  cases v with
  | true =>
    obtain ⟨i, r, ei, i0, i1, hr⟩ := below_f h hq 4 (by omega) (by omega)
    simp only [if_true, ei, Option.bind_some]
    rw [if_pos i0, if_pos (by simpa using i1)]
    exact ⟨_, _, Ev.now _, hr⟩
  | false =>
    simp only [Bool.false_eq_true, if_false]
    obtain ⟨y, r, hy, g⟩ := near_f h hq
    exact ⟨y, r, Ev.bind hy (Ev.now _), g⟩
theorem dec_f {l : List Int} {p : Int} (h : Code l) (hp : St l p) : ∃ n s x q, Ev (fun k => spec_l1Rd_dec.f k l p) (n, s, x, q) ∧ s.size ≤ 1000 ∧ St l q := by
  obtain ⟨t, q, ht, hl, hq⟩ := decText_f h hp
  obtain ⟨v, r, e, v0, v1, hr⟩ := below_f h hq 30 (by omega) (by omega)
  have hR := spec_ReadDec_f t (by omega)
  have hS := readD_len t.data.toList
  rcases eR : readD t.data.toList with ⟨n, s, x, b⟩
  rw [eR] at hR hS
  have hS : s.size ≤ 60 := hS
  unfold spec_l1Rd_dec.f
  by_cases c1 : v = 29
  · obtain ⟨y, z, hy, g⟩ := off_f h hr
    refine ⟨n, s, y, z, Ev.bind ht (Ev.bind hR ?_), by omega, g⟩
    simp only [e, Option.bind_some, c1, if_true]
    exact Ev.bind hy (Ev.now _)
  · by_cases c2 : v = 28
    · refine ⟨n, s ++ (⟨#[48]⟩ : ByteArray), x, r, Ev.bind ht (Ev.bind hR ?_), by rw [app_size]; have : (⟨#[48]⟩ : ByteArray).size = 1 := rfl; omega, hr⟩
      simp only [e, Option.bind_some]
      have hx : s.size + 1 ≤ 9223372036854775807 := by omega
      simp only [if_neg c1, if_pos c2, if_pos hx]
      exact Ev.now _
    · by_cases c3 : v = 27
      · refine ⟨!n, s, x, r, Ev.bind ht (Ev.bind hR ?_), by omega, hr⟩
        simp only [e, Option.bind_some]
        simp only [if_neg c1, if_neg c2, if_pos c3]
        exact Ev.now _
      · refine ⟨n, s, x, r, Ev.bind ht (Ev.bind hR ?_), by omega, hr⟩
        simp only [e, Option.bind_some]
        simp only [if_neg c1, if_neg c2, if_neg c3]
        exact Ev.now _
theorem start {l : List Int} : St l 0 := ⟨by omega, by omega⟩
theorem drawCompare {l : List Int} (h : Code l) : ∃ n s x m t y, Ev (fun k => spec_DrawCompareDec.f k l) (n, s, x, m, t, y) ∧ s.size ≤ 1000 ∧ t.size ≤ 1000 := by
  obtain ⟨n, s, x, q, h1, hs, hq⟩ := dec_f h (start (l := l))
  obtain ⟨v, r, e, hr⟩ := once_f h hq 5 (by omega) (by omega)
  unfold spec_DrawCompareDec.f spec_l1Open.f
  simp only [Option.bind_some]
  cases v with
  | true =>
    refine ⟨n, s, x, n, s, x, Ev.bind h1 ?_, hs, hs⟩
    simp only [e, Option.bind_some, if_true]
    exact Ev.now _
  | false =>
    obtain ⟨m, t, y, z, h2, ht, _⟩ := dec_f h hr
    refine ⟨n, s, x, m, t, y, Ev.bind h1 ?_, hs, ht⟩
    simp only [e, Option.bind_some, Bool.false_eq_true, if_false]
    exact Ev.bind h2 (Ev.now _)
theorem drawText {l : List Int} (h : Code l) : ∃ n s x, Ev (fun k => spec_DrawDecText.f k l) (n, s, x) ∧ s.size ≤ 1000 := by
  obtain ⟨n, s, x, q, h1, hs, hq⟩ := dec_f h (start (l := l))
  unfold spec_DrawDecText.f spec_l1Open.f
  simp only [Option.bind_some]
  exact ⟨n, s, x, Ev.bind h1 (Ev.now _), hs⟩
def toI (l : List UInt8) : List Int := l.map fun b => (b.toNat : Int)
theorem toI_len (l : List UInt8) : (toI l).length = l.length := by simp [toI]
theorem str_toI (l : List UInt8) : strOfNums (toI l) = mkB l := by
  apply ba_ext
  rw [mkB_list]
  simp [strOfNums, toI, Function.comp_def]
def dig (r : Nat) : UInt8 := UInt8.ofNat (48 + r)
theorem dig_nat {r : Nat} (h : r < 10) : (dig r).toNat = 48 + r := by unfold dig; rw [UInt8.toNat_ofNat']; omega
theorem dig_ok {r : Nat} (h : r < 10) : digB (dig r) = true ∧ dv (dig r) = r := by
  have := dig_nat h
  unfold digB dv
  rw [this]
  refine ⟨by simp; omega, by omega⟩
theorem bt_dig (s : ByteArray) (i : Nat) (h : i < s.data.toList.length) (hd : s.data.toList.all digB = true) : bt s (i : Int) = 48 + (dv s.data.toList[i] : Int) ∧ dv s.data.toList[i] < 10 := by
  have h1 := List.all_eq_true.1 hd _ (List.getElem_mem h)
  have h2 := dv_lt h1
  rw [bt_nat s i h]
  simp only [digB, Bool.and_eq_true, decide_eq_true_eq] at h1
  unfold dv at *
  omega
theorem sum_u8 (a b c : Int) (ha : 0 ≤ a) (ha' : a < 10) (hb : 0 ≤ b) (hb' : b < 10) (hc : 0 ≤ c) (hc' : c ≤ 1) : ((((((((((48 + a) - 48) % 256) + (48 + b)) % 256) - 48) % 256) + c) % 256)) = a + b + c := by
  have e1 : ((48 + a) - 48) % 256 = a := by omega
  rw [e1]
  have e2 : (a + (48 + b)) % 256 = a + b + 48 := by omega
  rw [e2]
  have e3 : (a + b + 48 - 48) % 256 = a + b := by omega
  rw [e3]
  omega
theorem rest_u8 (a b c : Int) (ha : 0 ≤ a) (ha' : a < 10) (hb : 0 ≤ b) (hb' : b < 10) (hc : 0 ≤ c) (hc' : c ≤ 1) : (((((((10 + (48 + a)) % 256) - (48 + b)) % 256) - c) % 256)) = 10 + a - b - c := by
  have e1 : (10 + (48 + a)) % 256 = 58 + a := by omega
  rw [e1]
  have e2 : (58 + a - (48 + b)) % 256 = 10 + a - b := by omega
  rw [e2]
  omega
theorem set_rep (m : Nat) (E : List Int) (d : Int) : (List.replicate (m + 1) (0 : Int) ++ E).set m d = List.replicate m 0 ++ (d :: E) := by
  induction m with
  | zero => rfl
  | succ m ih =>
    have e1 : List.replicate (m + 1 + 1) (0 : Int) ++ E = 0 :: (List.replicate (m + 1) 0 ++ E) := rfl
    have e2 : List.replicate (m + 1) (0 : Int) ++ (d :: E) = 0 :: (List.replicate m 0 ++ (d :: E)) := rfl
    rw [e1, List.set_cons_succ, ih, e2]
theorem all_cons_dig {d : Nat} {E : List UInt8} (h : d < 10) (hE : E.all digB = true) : (dig d :: E).all digB = true := by
  rw [List.all_cons, (dig_ok h).1, hE]; rfl

theorem pred_cast (j : Nat) : (((j + 1 : Nat) : Int) - 1) = (j : Int) := by omega
theorem sg_ne {n m : Bool} (h : (n == m) = false) : sg n = - sg m := by cases n <;> cases m <;> first | rfl | cases h
theorem nat_add {F X Y : Nat} (h : F = X + Y) : (F : Int) = (X : Int) + (Y : Int) := by omega
theorem nat_sub {F X Y : Nat} (h : F + X = Y) : (F : Int) = (Y : Int) - (X : Int) := by omega
theorem plus_step (k : Nat) (s0 s1 : ByteArray) (x5 : List Int) (c j : Nat) (h0 : j < s0.size) (h1 : j < s1.size) (h2 : j + 1 < x5.length) (hj : j ≤ 1000) :
    impl_plusDigits.l0 (k + 1) s0 s1 x5 (c : Int) (j : Int) = impl_plusDigits.l0 k s0 s1 (x5.set (j + 1) (48 + ((((((((((bt s0 (j : Int)) - 48) % 256) + (bt s1 (j : Int))) % 256) - 48) % 256) + (c : Int)) % 256) % 10))) ((((((((((bt s0 (j : Int)) - 48) % 256) + (bt s1 (j : Int))) % 256) - 48) % 256) + (c : Int)) % 256) / 10) ((j : Int) - 1) := by
  have i2 : wrap64 ((j : Int) + 1) = ((j + 1 : Nat) : Int) := w64 (by omega) (by omega)
  have i3 : wrap64 ((j : Int) - 1) = (j : Int) - 1 := w64 (by omega) (by omega)
  have g1 : (j : Int) ≥ 0 := by omega
  have g2 : (j : Int) < (s0.size : Int) := by omega
  have g3 : (j : Int) < (s1.size : Int) := by omega
  have g4 : (0 : Int) ≤ ((j + 1 : Nat) : Int) := by omega
  have g5 : ((j + 1 : Nat) : Int) < (x5.length : Int) := by omega
  conv => lhs; unfold impl_plusDigits.l0
  rw [i2, i3, if_pos g1, if_pos g1, if_pos g2, if_pos g3, if_pos g4, if_pos g5]
  rfl
theorem sum_nat (a b c : Nat) (ha : a < 10) (hb : b < 10) (hc : c ≤ 1) : ((((((((((48 + (a : Int)) - 48) % 256) + (48 + (b : Int))) % 256) - 48) % 256) + (c : Int)) % 256)) = ((a + b + c : Nat) : Int) := by
  rw [sum_u8 _ _ _ (by omega) (by omega) (by omega) (by omega) (by omega) (by omega)]
  rfl
theorem plus_dig (s0 s1 : ByteArray) (j c S : Nat) (h : ((((((((((bt s0 (j : Int)) - 48) % 256) + (bt s1 (j : Int))) % 256) - 48) % 256) + (c : Int)) % 256)) = (S : Int)) (hS : S < 20) :
    (48 + ((((((((((bt s0 (j : Int)) - 48) % 256) + (bt s1 (j : Int))) % 256) - 48) % 256) + (c : Int)) % 256) % 10)) = ((dig (S % 10)).toNat : Int) := by
  generalize ((((((((((bt s0 (j : Int)) - 48) % 256) + (bt s1 (j : Int))) % 256) - 48) % 256) + (c : Int)) % 256)) = T at h ⊢
  subst h
  rw [dig_nat (Nat.mod_lt _ (by omega))]
  omega
theorem plus_car (s0 s1 : ByteArray) (j c S : Nat) (h : ((((((((((bt s0 (j : Int)) - 48) % 256) + (bt s1 (j : Int))) % 256) - 48) % 256) + (c : Int)) % 256)) = (S : Int)) :
    ((((((((((bt s0 (j : Int)) - 48) % 256) + (bt s1 (j : Int))) % 256) - 48) % 256) + (c : Int)) % 256) / 10) = ((S / 10 : Nat) : Int) := by
  generalize ((((((((((bt s0 (j : Int)) - 48) % 256) + (bt s1 (j : Int))) % 256) - 48) % 256) + (c : Int)) % 256)) = T at h ⊢
  subst h
  omega
theorem plus_l0 (s0 s1 : ByteArray) (h0 : s0.data.toList.all digB = true) (h1 : s1.data.toList.all digB = true) (hl : s0.data.toList.length = s1.data.toList.length) (hn : s0.data.toList.length ≤ 1000) :
    ∀ (j : Nat) (E : List UInt8) (c : Nat), j ≤ s0.data.toList.length → E.length = s0.data.toList.length - j → E.all digB = true → c ≤ 1 → nv E + c * 10 ^ E.length = nv (s0.data.toList.drop j) + nv (s1.data.toList.drop j) →
    ∃ F, Ev (fun k => impl_plusDigits.l0 k s0 s1 (List.replicate (j + 1) 0 ++ toI E) (c : Int) ((j : Int) - 1)) (mkB F) ∧ F.all digB = true ∧ F.length = s0.data.toList.length + 1 ∧ nv F = nv s0.data.toList + nv s1.data.toList := by
  intro j
  have z0 := sz s0
  have z1 := sz s1
  induction j with
  | zero =>
    intro E c hj hE hd hc hv
    have hx : (List.replicate (0 + 1) (0 : Int) ++ toI E).set (0 : Int).toNat ((48 + (c : Int)) % 256) = toI (dig c :: E) := by
      have e1 : (0 : Int).toNat = 0 := rfl
      rw [e1, set_rep 0 (toI E)]
      simp only [List.replicate_zero, List.nil_append, toI, List.map_cons, List.cons.injEq, and_true]
      rw [dig_nat (by omega)]
      omega
    refine ⟨dig c :: E, Ev.step (f := fun _ => some (mkB (dig c :: E))) (fun k => ?_) (Ev.now _), all_cons_dig (by omega) hd, by rw [List.length_cons, hE]; omega, ?_⟩
    · conv => lhs; unfold impl_plusDigits.l0
      rw [if_neg (by omega), if_pos (by rw [List.length_append, List.length_replicate]; omega), hx, str_toI]
    · rw [nv_cons, (dig_ok (by omega : c < 10)).2]
      rw [List.drop_zero, List.drop_zero] at hv
      omega
  | succ j ih =>
    intro E c hj hE hd hc hv
    have c0 : j < s0.data.toList.length := by omega
    have c1 : j < s1.data.toList.length := by omega
    obtain ⟨b0, l0⟩ := bt_dig s0 j c0 h0
    obtain ⟨b1, l1⟩ := bt_dig s1 j c1 h1
    have e0 : s0.data.toList.drop j = s0.data.toList[j] :: s0.data.toList.drop (j + 1) := List.drop_eq_getElem_cons c0
    have e1 : s1.data.toList.drop j = s1.data.toList[j] :: s1.data.toList.drop (j + 1) := List.drop_eq_getElem_cons c1
    obtain ⟨S, hS⟩ : ∃ S : Nat, S = dv s0.data.toList[j] + dv s1.data.toList[j] + c := ⟨_, rfl⟩
    have hS20 : S < 20 := by omega
    have hd10 : S % 10 < 10 := Nat.mod_lt _ (by omega)
    obtain ⟨F, hF, g⟩ := ih (dig (S % 10) :: E) (S / 10) (by omega) (by rw [List.length_cons, hE]; omega) (all_cons_dig hd10 hd) (by omega) (by
      rw [e0, e1, nv_cons, nv_cons, nv_cons, (dig_ok hd10).2, List.length_cons, Nat.pow_succ]
      have q0 : (s0.data.toList.drop (j + 1)).length = E.length := by rw [List.length_drop, hE]
      have q1 : (s1.data.toList.drop (j + 1)).length = E.length := by rw [List.length_drop, hE, hl]
      rw [q0, q1]
      have key : S % 10 + 10 * (S / 10) = dv s0.data.toList[j] + dv s1.data.toList[j] + c := by rw [← hS]; exact Nat.mod_add_div _ 10
      have key2 := congrArg (· * 10 ^ E.length) key
      simp only [Nat.add_mul] at key2
      have r1 : S / 10 * (10 ^ E.length * 10) = 10 * (S / 10) * 10 ^ E.length := by
        rw [Nat.mul_comm (10 ^ E.length) 10, ← Nat.mul_assoc, Nat.mul_comm _ 10]
      rw [r1]
      omega)
    refine ⟨F, Ev.step (f := fun k => impl_plusDigits.l0 k s0 s1 (List.replicate (j + 1) 0 ++ toI (dig (S % 10) :: E)) ((S / 10 : Nat) : Int) ((j : Int) - 1)) (fun k => ?_) hF, g⟩
    rw [pred_cast j, plus_step k s0 s1 _ c j (by rw [z0]; exact c0) (by rw [z1]; exact c1) (by rw [List.length_append, List.length_replicate]; exact Nat.lt_of_lt_of_le (Nat.lt_succ_self _) (Nat.le_add_right _ _)) (Nat.le_trans (Nat.le_of_lt c0) hn)]
    refine congr (congr (congrArg (impl_plusDigits.l0 k s0 s1) ?_) ?_) rfl
    · refine (set_rep (j + 1) (toI E) _).trans (congrArg (fun z => List.replicate (j + 1) (0 : Int) ++ (z :: toI E)) ?_)
      exact plus_dig s0 s1 j c S (by rw [b0, b1]; exact hS ▸ (sum_nat _ _ _ l0 l1 hc)) hS20
    · exact plus_car s0 s1 j c S (by rw [b0, b1]; exact hS ▸ (sum_nat _ _ _ l0 l1 hc))
theorem plus_f (s0 s1 : ByteArray) (h0 : s0.data.toList.all digB = true) (h1 : s1.data.toList.all digB = true) (hl : s0.data.toList.length = s1.data.toList.length) (hn : s0.data.toList.length ≤ 1000) :
    ∃ F, Ev (fun k => impl_plusDigits.f k s0 s1) (mkB F) ∧ F.all digB = true ∧ F.length = s0.data.toList.length + 1 ∧ nv F = nv s0.data.toList + nv s1.data.toList := by
  have z0 := sz s0
  have e1 : s0.data.toList.drop s0.data.toList.length = [] := List.drop_length
  have e2 : s1.data.toList.drop s0.data.toList.length = [] := by rw [hl]; exact List.drop_length
  obtain ⟨F, hF, g⟩ := plus_l0 s0 s1 h0 h1 hl hn s0.data.toList.length [] 0 (by omega) (by simp) rfl (by omega) (by rw [e1, e2]; rfl)
  refine ⟨F, Ev.congr (fun k => ?_) hF, g⟩
  unfold impl_plusDigits.f
  have i1 : wrap64 ((s0.size : Int) + 1) = ((s0.data.toList.length + 1 : Nat) : Int) := by rw [w64] <;> omega
  have i2 : wrap64 ((s0.size : Int) - 1) = (s0.data.toList.length : Int) - 1 := by rw [w64] <;> omega
  rw [i1, i2, if_pos (by omega), if_pos (by omega), Int.toNat_natCast]
  simp [toI]

theorem minus_l0 (s0 s1 : ByteArray) (h0 : s0.data.toList.all digB = true) (h1 : s1.data.toList.all digB = true) (hl : s0.data.toList.length = s1.data.toList.length) (hn : s0.data.toList.length ≤ 1000) :
    ∀ (j : Nat) (E : List UInt8) (c : Nat), j ≤ s0.data.toList.length → E.length = s0.data.toList.length - j → E.all digB = true → c ≤ 1 → nv E + nv (s1.data.toList.drop j) = nv (s0.data.toList.drop j) + c * 10 ^ E.length →
    ∃ F c', Ev (fun k => impl_minusDigits.l0 k s0 s1 (List.replicate j 0 ++ toI E) (c : Int) ((j : Int) - 1)) (mkB F) ∧ F.all digB = true ∧ F.length = s0.data.toList.length ∧ nv F + nv s1.data.toList = nv s0.data.toList + c' * 10 ^ F.length := by
  intro j
  have z0 := sz s0
  have z1 := sz s1
  induction j with
  | zero =>
    intro E c hj hE hd hc hv
    refine ⟨E, c, Ev.step (f := fun _ => some (mkB E)) (fun k => ?_) (Ev.now _), hd, by omega, hv⟩
    conv => lhs; unfold impl_minusDigits.l0
    rw [if_neg (by omega)]
    simp only [List.replicate_zero, List.nil_append, str_toI]
  | succ j ih =>
    intro E c hj hE hd hc hv
    have c0 : j < s0.data.toList.length := by omega
    have c1 : j < s1.data.toList.length := by omega
    obtain ⟨b0, l0⟩ := bt_dig s0 j c0 h0
    obtain ⟨b1, l1⟩ := bt_dig s1 j c1 h1
    have e0 : s0.data.toList.drop j = s0.data.toList[j] :: s0.data.toList.drop (j + 1) := List.drop_eq_getElem_cons c0
    have e1 : s1.data.toList.drop j = s1.data.toList[j] :: s1.data.toList.drop (j + 1) := List.drop_eq_getElem_cons c1
    obtain ⟨r, hr⟩ : ∃ r : Nat, r = 10 + dv s0.data.toList[j] - dv s1.data.toList[j] - c := ⟨_, rfl⟩
    have hr20 : r < 20 := by omega
    have hd10 : r % 10 < 10 := Nat.mod_lt _ (by omega)
    obtain ⟨F, c', hF, g⟩ := ih (dig (r % 10) :: E) (1 - r / 10) (by omega) (by rw [List.length_cons, hE]; omega) (all_cons_dig hd10 hd) (by omega) (by
      rw [e0, e1, nv_cons, nv_cons, nv_cons, (dig_ok hd10).2, List.length_cons, Nat.pow_succ]
      have q0 : (s0.data.toList.drop (j + 1)).length = E.length := by rw [List.length_drop, hE]
      have q1 : (s1.data.toList.drop (j + 1)).length = E.length := by rw [List.length_drop, hE, hl]
      rw [q0, q1]
      have key : r % 10 + dv s1.data.toList[j] + c = dv s0.data.toList[j] + 10 * (1 - r / 10) := by omega
      have key2 := congrArg (· * 10 ^ E.length) key
      simp only [Nat.add_mul] at key2
      have r1 : (1 - r / 10) * (10 ^ E.length * 10) = 10 * (1 - r / 10) * 10 ^ E.length := by
        rw [Nat.mul_comm (10 ^ E.length) 10, ← Nat.mul_assoc, Nat.mul_comm _ 10]
      rw [r1]
      omega)
    refine ⟨F, c', Ev.step (f := fun k => impl_minusDigits.l0 k s0 s1 (List.replicate j 0 ++ toI (dig (r % 10) :: E)) ((1 - r / 10 : Nat) : Int) ((j : Int) - 1)) (fun k => ?_) hF, g⟩
    conv => lhs; unfold impl_minusDigits.l0
    have i1 : (((j + 1 : Nat) : Int) - 1) = (j : Int) := by omega
    have i3 : wrap64 ((j : Int) - 1) = (j : Int) - 1 := by rw [w64] <;> omega
    rw [i1, if_pos (by omega), if_pos (by omega), if_pos (by omega), if_pos (by omega), if_pos (by rw [List.length_append, List.length_replicate]; omega)]
    have hsum : (((((((10 + (bt s0 (j : Int))) % 256) - (bt s1 (j : Int))) % 256) - (c : Int)) % 256)) = (r : Int) := by rw [b0, b1, rest_u8 _ _ _ (by omega) (by omega) (by omega) (by omega) (by omega) (by omega)]; omega
    rw [hsum, i3, Int.toNat_natCast, set_rep j (toI E)]
    have k1 : (48 + (r : Int) % 10) = ((dig (r % 10)).toNat : Int) := by rw [dig_nat hd10]; omega
    have k2 : (1 - (r : Int) / 10) % 256 = ((1 - r / 10 : Nat) : Int) := by omega
    rw [k1, k2]
    rfl
theorem minus_f (s0 s1 : ByteArray) (h0 : s0.data.toList.all digB = true) (h1 : s1.data.toList.all digB = true) (hl : s0.data.toList.length = s1.data.toList.length) (hn : s0.data.toList.length ≤ 1000) (hv : nv s1.data.toList ≤ nv s0.data.toList) :
    ∃ F, Ev (fun k => impl_minusDigits.f k s0 s1) (mkB F) ∧ F.all digB = true ∧ F.length = s0.data.toList.length ∧ nv F + nv s1.data.toList = nv s0.data.toList := by
  have z0 := sz s0
  have e1 : s0.data.toList.drop s0.data.toList.length = [] := List.drop_length
  have e2 : s1.data.toList.drop s0.data.toList.length = [] := by rw [hl]; exact List.drop_length
  obtain ⟨F, c', hF, g1, g2, g3⟩ := minus_l0 s0 s1 h0 h1 hl hn s0.data.toList.length [] 0 (by omega) (by simp) rfl (by omega) (by rw [e1, e2]; rfl)
  refine ⟨F, Ev.congr (fun k => ?_) hF, g1, g2, ?_⟩
  · unfold impl_minusDigits.f
    have i2 : wrap64 ((s0.size : Int) - 1) = (s0.data.toList.length : Int) - 1 := by rw [w64] <;> omega
    rw [i2, if_pos (by omega), if_pos (by omega), Int.toNat_natCast, z0]
    simp [toI]
  · have hlt := nv_lt F g1
    rcases Nat.eq_zero_or_pos c' with h | h
    · subst h; omega
    · have := Nat.mul_le_mul_right (10 ^ F.length) h
      omega

/-- Rows of digits, equally long, stand as their values do. -/
theorem less_nv : ∀ (l m : List UInt8), l.all digB = true → m.all digB = true → l.length = m.length → Op.bytesLess l m = decide (nv l < nv m)
  | [], [], _, _, _ => by simp [Op.bytesLess, nv]
  | [], _ :: _, _, _, h => by simp at h
  | _ :: _, [], _, _, h => by simp at h
  | a :: l, b :: m, hl, hm, hn => by
    rw [List.all_cons, Bool.and_eq_true] at hl hm
    have hlen : l.length = m.length := by simpa using hn
    have ih := less_nv l m hl.2 hm.2 hlen
    have h1 := nv_lt l hl.2
    have h2 := nv_lt m hm.2
    have ha := hl.1
    have hb := hm.1
    simp only [digB, Bool.and_eq_true, decide_eq_true_eq] at ha hb
    rw [← hlen] at h2
    simp only [Op.bytesLess]
    rw [nv_cons, nv_cons, ← hlen]
    have hp : 0 < 10 ^ l.length := Nat.pow_pos (by omega)
    rcases Nat.lt_trichotomy a.toNat b.toNat with h | h | h
    · have c : a < b := UInt8.lt_iff_toNat_lt.2 h
      have : (dv a + 1) * 10 ^ l.length ≤ dv b * 10 ^ l.length := Nat.mul_le_mul_right _ (by unfold dv; omega)
      rw [Nat.add_mul] at this
      have c2 : dv a * 10 ^ l.length + nv l < dv b * 10 ^ l.length + nv m := by omega
      simp [c, c2]
    · have e : a = b := UInt8.toNat.inj h
      subst e
      have c : ¬ a < a := by rw [UInt8.lt_iff_toNat_lt]; omega
      rw [ih]
      simp [c]
    · have c : ¬ a < b := by rw [UInt8.lt_iff_toNat_lt]; omega
      have c1 : (a == b) = false := by rw [beq_eq_false_iff_ne]; intro e; subst e; omega
      have : (dv b + 1) * 10 ^ l.length ≤ dv a * 10 ^ l.length := Nat.mul_le_mul_right _ (by unfold dv; omega)
      rw [Nat.add_mul] at this
      have c2 : ¬ (dv a * 10 ^ l.length + nv l < dv b * 10 ^ l.length + nv m) := by omega
      simp [c, c1, c2]

theorem pad_list (n : Nat) (s : ByteArray) : (pad n s).data.toList = List.replicate (n - s.size) 48 ++ s.data.toList := by rw [pad, ba_app, Z_list]
theorem lv_list (m : Int) (s : ByteArray) (x : Int) : (lv m s x).data.toList = s.data.toList ++ List.replicate (m - x).toNat 48 := by rw [lv, ba_app, Z_list]
theorem rep_digs (n : Nat) : (List.replicate n (48 : UInt8)).all digB = true := by
  rw [List.all_eq_true]
  intro b hb
  rw [(List.mem_replicate.1 hb).2]; decide
theorem pad_lv (n : Nat) (m : Int) (s : ByteArray) (x : Int) (h : s.data.toList.all digB = true) : (pad n (lv m s x)).data.toList.all digB = true ∧ nv (pad n (lv m s x)).data.toList = nv s.data.toList * 10 ^ (m - x).toNat := by
  rw [pad_list, lv_list]
  refine ⟨?_, ?_⟩
  · rw [List.all_append, List.all_append, rep_digs, rep_digs, h]; rfl
  · rw [nv_zeros_app, nv_app_zeros]
theorem ok_all {n : Bool} {s : ByteArray} {x : Int} (h : okB n s x = true) : s.data.toList.all digB = true := by
  rcases ok_canon h with ⟨h1, _⟩ | ⟨_, _, _, _, b, t, e, hd, _⟩
  · rw [h1]; rfl
  · rw [e]; exact hd
theorem l_eq {s0 s1 : ByteArray} {x0 x1 : Int} : (lx s0 x0 s1 x1).data.toList.length = top s0 x0 s1 x1 ∧ (ly s0 x0 s1 x1).data.toList.length = top s0 x0 s1 x1 := by
  have a : (lv (mx x0 x1) s0 x0).size ≤ top s0 x0 s1 x1 := by unfold top; omega
  have b : (lv (mx x0 x1) s1 x1).size ≤ top s0 x0 s1 x1 := by unfold top; omega
  rw [← sz, ← sz]
  unfold lx ly pad
  rw [app_size, app_size, Z_size, Z_size]
  omega
theorem V_lx {n0 n1 : Bool} {s0 s1 : ByteArray} {x0 x1 : Int} (h0 : okB n0 s0 x0 = true) (h1 : okB n1 s1 x1 = true) :
    ∃ M : Nat, (M : Int) = mx x0 x1 ∧ M ≤ 60 ∧ x0 ≤ M ∧ x1 ≤ M ∧ (lx s0 x0 s1 x1).data.toList.all digB = true ∧ (ly s0 x0 s1 x1).data.toList.all digB = true ∧
    V n0 s0 x0 M = sg n0 * (nv (lx s0 x0 s1 x1).data.toList : Int) ∧ V n1 s1 x1 M = sg n1 * (nv (ly s0 x0 s1 x1).data.toList : Int) ∧ top s0 x0 s1 x1 ≤ 200 := by
  obtain ⟨z0, a0, a1⟩ := ok_len h0
  obtain ⟨z1, b0, b1⟩ := ok_len h1
  obtain ⟨g0, g1, g2⟩ := mx_le x0 x1
  obtain ⟨p0, p1⟩ := pad_lv (top s0 x0 s1 x1) (mx x0 x1) s0 x0 (ok_all h0)
  obtain ⟨q0, q1⟩ := pad_lv (top s0 x0 s1 x1) (mx x0 x1) s1 x1 (ok_all h1)
  refine ⟨(mx x0 x1).toNat, by omega, by omega, by omega, by omega, p0, q0, ?_, ?_, ?_⟩
  · unfold V lx
    rw [p1]
    have : (mx x0 x1).toNat - x0.toNat = (mx x0 x1 - x0).toNat := by omega
    rw [this]
  · unfold V ly
    rw [q1]
    have : (mx x0 x1).toNat - x1.toNat = (mx x0 x1 - x1).toNat := by omega
    rw [this]
  · unfold top lv
    rw [app_size, app_size, Z_size, Z_size]
    omega
theorem norm_eq {n m : Bool} {l k : List UInt8} {x : Nat} (h1 : l.all digB = true) (h2 : k.all digB = true) (hv : sg n * (nv l : Int) = sg m * (nv k : Int)) : norm n l x = norm m k x := by
  cases e : (norm n l x).2.2.2 with
  | true =>
    obtain ⟨a, b, c⟩ := norm_good n l x h1 e
    rw [norm_is m k x h2 a b (by rw [c, hv])]
    rw [← e]
  | false =>
    cases f : (norm m k x).2.2.2 with
    | true =>
      obtain ⟨a, b, c⟩ := norm_good m k x h2 f
      have := norm_is n l x h1 a b (by rw [c, hv])
      rw [this] at e
      cases e
    | false => rw [norm_bad n l x e, norm_bad m k x f]
/-- The right number with a value, if there is one. -/
theorem add_impl {n0 n1 : Bool} {s0 s1 : ByteArray} {x0 x1 : Int} (h0 : okB n0 s0 x0 = true) (h1 : okB n1 s1 x1 = true) (M : Nat) (hM : (M : Int) = mx x0 x1) :
    ∃ n l, l.all digB = true ∧ sg n * (nv l : Int) = V n0 s0 x0 M + V n1 s1 x1 M ∧ Ev (fun k => impl_AddDec.f k n0 s0 x0 n1 s1 x1) (norm n l M) := by
  obtain ⟨z0, a0, a1⟩ := ok_len h0
  obtain ⟨z1, b0, b1⟩ := ok_len h1
  obtain ⟨M', e1, e2, e3, e4, d0, d1, v0, v1, ht⟩ := V_lx h0 h1
  have : M' = M := by omega
  subst this
  obtain ⟨l0, l1⟩ := l_eq (s0 := s0) (s1 := s1) (x0 := x0) (x1 := x1)
  have start {n : Bool} {l : List UInt8} (h : Ev (fun k => impl_AddDec.j0 k false n0 s0 x0 n1 s1 x1) (norm n l M')) : Ev (fun k => impl_AddDec.f k n0 s0 x0 n1 s1 x1) (norm n l M') := by
    refine Ev.congr (fun k => ?_) h
    unfold impl_AddDec.f
    rw [impl_DecOk_f n0 s0 x0 (by omega), impl_DecOk_f n1 s1 x1 (by omega), h0, h1]
    rfl
  have less := less_nv (lx s0 x0 s1 x1).data.toList (ly s0 x0 s1 x1).data.toList d0 d1 (by omega)
  have made (n : Bool) (F : List UInt8) (hF : F.length ≤ 1000) : Ev (fun k => impl_made.f k n (mkB F) (mx x0 x1)) (norm n F M') := by
    have := made_f n M' (mkB F) (by omega) (by rw [sz, mkB_list]; omega)
    rw [mkB_list, e1] at this
    exact this
  by_cases c : (n0 == n1) = true
  · have hn : n0 = n1 := by simpa using c
    subst hn
    obtain ⟨F, hF, f1, f2, f3⟩ := plus_f (lx s0 x0 s1 x1) (ly s0 x0 s1 x1) d0 d1 (l0.trans l1.symm) (by rw [l0]; exact Nat.le_trans ht (by decide))
    refine ⟨n0, F, f1, ?_, start ?_⟩
    · rw [nat_add f3, Int.mul_add, v0, v1]
    · refine Ev.step (f := fun k => ((impl_plusDigits.f k (lx s0 x0 s1 x1) (ly s0 x0 s1 x1)).bind fun t319 => ((impl_made.f k n0 t319 (mx x0 x1)).bind fun bt320 => (some (bt320.1, bt320.2.1, bt320.2.2.1, bt320.2.2.2))))) (fun k => ?_) (Ev.bind hF (Ev.bind (made n0 F (by rw [f2, l0]; exact Nat.le_trans (Nat.succ_le_succ ht) (by decide))) (Ev.now _)))
      simp only [impl_AddDec.j0, Bool.false_eq_true, if_false, level_f n0 s0 x0 n0 s1 x1 z0 z1 a0 a1 b0 b1, Option.bind_some]
      rw [if_pos c]
  · have c' : (n0 == n1) = false := by simpa using c
    have hs : sg n0 = - sg n1 := sg_ne c'
    by_cases d : nv (lx s0 x0 s1 x1).data.toList < nv (ly s0 x0 s1 x1).data.toList
    · obtain ⟨F, hF, f1, f2, f3⟩ := minus_f (ly s0 x0 s1 x1) (lx s0 x0 s1 x1) d1 d0 (by omega) (by omega) (by omega)
      refine ⟨n1, F, f1, ?_, start ?_⟩
      · rw [v0, v1, hs, Int.neg_mul]
        rw [nat_sub f3, Int.mul_sub, Int.sub_eq_add_neg, Int.add_comm]
      · refine Ev.step (f := fun k => ((impl_minusDigits.f k (ly s0 x0 s1 x1) (lx s0 x0 s1 x1)).bind fun t319 => ((impl_made.f k n1 t319 (mx x0 x1)).bind fun bt320 => (some (bt320.1, bt320.2.1, bt320.2.2.1, bt320.2.2.2))))) (fun k => ?_) (Ev.bind hF (Ev.bind (made n1 F (by omega)) (Ev.now _)))
        simp only [impl_AddDec.j0, Bool.false_eq_true, if_false, level_f n0 s0 x0 n1 s1 x1 z0 z1 a0 a1 b0 b1, Option.bind_some, c', Lib.toList_data, less, d, decide_true, if_true]
    · obtain ⟨F, hF, f1, f2, f3⟩ := minus_f (lx s0 x0 s1 x1) (ly s0 x0 s1 x1) d0 d1 (by omega) (by omega) (by omega)
      refine ⟨n0, F, f1, ?_, start ?_⟩
      · have hs' : sg n1 = - sg n0 := by rw [hs, Int.neg_neg]
        rw [v0, v1, hs', Int.neg_mul]
        rw [nat_sub f3, Int.mul_sub, Int.sub_eq_add_neg]
      · refine Ev.step (f := fun k => ((impl_minusDigits.f k (lx s0 x0 s1 x1) (ly s0 x0 s1 x1)).bind fun t319 => ((impl_made.f k n0 t319 (mx x0 x1)).bind fun bt320 => (some (bt320.1, bt320.2.1, bt320.2.2.1, bt320.2.2.2))))) (fun k => ?_) (Ev.bind hF (Ev.bind (made n0 F (by omega)) (Ev.now _)))
        simp only [impl_AddDec.j0, Bool.false_eq_true, if_false, level_f n0 s0 x0 n1 s1 x1 z0 z1 a0 a1 b0 b1, Option.bind_some, c', Lib.toList_data, less, d, decide_false]
theorem V_up (n : Bool) (s : ByteArray) {x : Int} {M : Nat} (h0 : 0 ≤ x) (h : x ≤ M) (d : Nat) : V n s x (M + d) = V n s x M * ((10 ^ d : Nat) : Int) := by
  unfold V
  have e : M + d - x.toNat = (M - x.toNat) + d := by omega
  rw [e, Nat.pow_add, ← Nat.mul_assoc, Int.natCast_mul, Int.mul_assoc]
def dlist : Nat → Nat → List UInt8
  | 0, _ => []
  | n + 1, v => dlist n (v / 10) ++ [dig (v % 10)]
theorem dlist_dig : ∀ n v, (dlist n v).all digB = true
  | 0, _ => rfl
  | n + 1, v => by
    rw [dlist, List.all_append, dlist_dig n]
    simp only [List.all_cons, List.all_nil, Bool.and_true, Bool.true_and]
    exact (dig_ok (Nat.mod_lt _ (by omega))).1
theorem dlist_nv : ∀ n v, v < 10 ^ n → nv (dlist n v) = v
  | 0, v, h => by
    have : v = 0 := by simpa using h
    subst this; rfl
  | n + 1, v, h => by
    rw [dlist, nv_snoc, dlist_nv n (v / 10) (by rw [Nat.pow_succ] at h; omega), (dig_ok (Nat.mod_lt _ (by omega))).2]
    omega
def prod (s0 s1 : ByteArray) : List UInt8 := dlist (s0.data.toList.length + s1.data.toList.length) (nv s0.data.toList * nv s1.data.toList)
theorem nv_prod_lt {l m : List UInt8} (h0 : l.all digB = true) (h1 : m.all digB = true) : nv l * nv m < 10 ^ (l.length + m.length) := by
  have a := nv_lt l h0
  have b := nv_lt m h1
  rw [Nat.pow_add]
  rcases Nat.eq_zero_or_pos (nv l) with h | h
  · rw [h]; simp only [Nat.zero_mul]
    exact Nat.mul_pos (Nat.pow_pos (by omega)) (Nat.pow_pos (by omega))
  · exact Nat.lt_of_lt_of_le (Nat.mul_lt_mul_of_pos_left b h) (Nat.mul_le_mul_right _ (Nat.le_of_lt a))
theorem prod_nv {s0 s1 : ByteArray} (h0 : s0.data.toList.all digB = true) (h1 : s1.data.toList.all digB = true) : nv (prod s0 s1) = nv s0.data.toList * nv s1.data.toList :=
  dlist_nv _ _ (nv_prod_lt h0 h1)
end Go.Proofs.YtilmhfkbpnejeaaDoor.Pure
namespace Go.Proofs.YtilmhfkbpnejeaaDoor.L
open Go.Proofs.YtilmhfkbpnejeaaDoor.Pure
/-- What TimesDec answers. -/
def impl_TimesDec.f (a0_0 : Bool) (a0_1 : ByteArray) (a0_2 : Int) (a1_0 : Bool) (a1_1 : ByteArray) (a1_2 : Int) : Option (Bool × ByteArray × Int × Bool) :=
  if a0_1.size ≤ 1000000 ∧ a1_1.size ≤ 1000000 then
    some (if (okB a0_0 a0_1 a0_2 && okB a1_0 a1_1 a1_2) = true then norm (a0_0 != a1_0) (prod a0_1 a1_1) (a0_2 + a1_2).toNat else (false, ⟨#[]⟩, 0, false))
  else none
end Go.Proofs.YtilmhfkbpnejeaaDoor.L
namespace Go.Proofs.YtilmhfkbpnejeaaDoor.Pure
open Go.RowKit Go.Proofs.YtilmhfkbpnejeaaDoor.L Go.Proofs.YtilmhfkbpnejeaaDoorW.PrintWords Go.Proofs.YtilmhfkbpnejeaaDoorW.PrintLast Go.Proofs.YtilmhfkbpnejeaaDoorW.PrintMore

/-! ### a row of cells, each worth ten of the next one -/
def cv (l : List Int) : Int := l.foldl (fun a b => 10 * a + b) 0
theorem cv_from (l : List Int) : ∀ a : Int, l.foldl (fun a b => 10 * a + b) a = a * ((10 ^ l.length : Nat) : Int) + cv l := by
  induction l with
  | nil => intro a; simp [cv]
  | cons b l ih =>
    intro a
    unfold cv
    simp only [List.foldl_cons, List.length_cons]
    rw [ih, ih (10 * 0 + b), Nat.pow_succ]
    rw [Int.natCast_mul]
    have e : (10 * a + b) * ((10 ^ l.length : Nat) : Int) = a * (((10 ^ l.length : Nat) : Int) * ((10 : Nat) : Int)) + (10 * 0 + b) * ((10 ^ l.length : Nat) : Int) := by
      rw [Int.add_mul, Int.mul_comm 10 a, Int.mul_assoc, Int.mul_comm 10]; simp
    rw [e]; omega
theorem cv_cons (b : Int) (l : List Int) : cv (b :: l) = b * ((10 ^ l.length : Nat) : Int) + cv l := by
  show List.foldl (fun a b => 10 * a + b) (10 * 0 + b) l = _
  rw [cv_from]; simp
theorem cv_toI (l : List UInt8) (h : l.all digB = true) : cv ((l.map fun b => ((b.toNat : Int) - 48))) = (nv l : Int) := by
  induction l with
  | nil => rfl
  | cons b l ih =>
    rw [List.all_cons, Bool.and_eq_true] at h
    rw [List.map_cons, cv_cons, ih h.2, nv_cons, List.length_map, Int.natCast_add, Int.natCast_mul]
    have hb := h.1
    simp only [digB, Bool.and_eq_true, decide_eq_true_eq] at hb
    have : ((b.toNat : Int) - 48) = (dv b : Int) := by unfold dv; omega
    rw [this]
theorem cv_set (l : List Int) (i : Nat) (h : i < l.length) (x : Int) : cv (l.set i x) = cv l + (x - l[i]) * ((10 ^ (l.length - 1 - i) : Nat) : Int) := by
  induction l generalizing i with
  | nil => simp at h
  | cons b l ih =>
    cases i with
    | zero =>
      rw [List.set_cons_zero, cv_cons, cv_cons]
      simp only [List.length_cons, List.getElem_cons_zero, Nat.add_sub_cancel, Nat.sub_zero]
      rw [Int.sub_mul]; omega
    | succ i =>
      have h' : i < l.length := by simpa using h
      rw [List.set_cons_succ, cv_cons, cv_cons, ih i h', List.length_set]
      simp only [List.length_cons, List.getElem_cons_succ]
      have e : l.length + 1 - 1 - (i + 1) = l.length - 1 - i := by omega
      rw [e]; omega
theorem cv_zeros (n : Nat) : cv (List.replicate n 0) = 0 := by
  induction n with
  | zero => rfl
  | succ n ih => rw [List.replicate_succ, cv_cons, ih]; omega
theorem rd_at (l : List Int) (i : Nat) (h : i < l.length) : rd l (i : Int) = l[i] := by
  unfold rd
  simp [h]
theorem bt_dv (s : ByteArray) (i : Nat) (h : i < s.data.toList.length) (hd : s.data.toList.all digB = true) : ((bt s (i : Int)) - 48) % 256 = (dv s.data.toList[i] : Int) := by
  obtain ⟨a, b⟩ := bt_dig s i h hd
  rw [a]; omega

/-! ### the reference's product -/
/-- Of the digits ahead of i, and of those ahead of k for i: what the cells are worth. -/
def ptv (l m : List UInt8) (i k : Nat) : Nat := nv (l.take i) * 10 ^ (l.length - i) * nv m + (match l[i]? with | some d => dv d * 10 ^ (l.length - 1 - i) * (nv (m.take k) * 10 ^ (m.length - k)) | none => 0)
theorem nv_take_succ (l : List UInt8) (i : Nat) (h : i < l.length) : nv (l.take (i + 1)) * 10 ^ (l.length - (i + 1)) = nv (l.take i) * 10 ^ (l.length - i) + dv l[i] * 10 ^ (l.length - 1 - i) := by
  rw [List.take_succ_eq_append_getElem h, nv_snoc]
  have e : l.length - i = (l.length - (i + 1)) + 1 := by omega
  have e2 : l.length - 1 - i = l.length - (i + 1) := by omega
  rw [e, e2, Nat.pow_succ, Nat.add_mul, Nat.mul_comm 10 (nv _), Nat.mul_assoc, Nat.mul_comm 10 (10 ^ _)]
theorem ptv_k (l m : List UInt8) (i k : Nat) (hi : i < l.length) (hk : k < m.length) : ptv l m i (k + 1) = ptv l m i k + dv l[i] * dv m[k] * 10 ^ ((l.length - 1 - i) + (m.length - 1 - k)) := by
  unfold ptv
  rw [List.getElem?_eq_getElem hi]
  simp only
  rw [nv_take_succ m k hk, Nat.mul_add, Nat.add_assoc, Nat.pow_add]
  have : dv l[i] * 10 ^ (l.length - 1 - i) * (dv m[k] * 10 ^ (m.length - 1 - k)) = dv l[i] * dv m[k] * (10 ^ (l.length - 1 - i) * 10 ^ (m.length - 1 - k)) := by
    simp only [Nat.mul_assoc, Nat.mul_left_comm]
  rw [this]
theorem ptv_end (l m : List UInt8) (i : Nat) (hi : i < l.length) : ptv l m i m.length = ptv l m (i + 1) 0 := by
  unfold ptv
  rw [List.getElem?_eq_getElem hi]
  simp only [List.take_length, Nat.sub_self, Nat.pow_zero, Nat.mul_one]
  rw [nv_take_succ l i hi, Nat.add_mul]
  simp only [List.take_zero, nv_nil, Nat.zero_mul, Nat.mul_zero]
  cases l[i + 1]? <;> simp
theorem ptv_all (l m : List UInt8) : ptv l m l.length 0 = nv l * nv m := by
  unfold ptv
  rw [List.getElem?_eq_none (Nat.le_refl _)]
  simp
theorem ptv_zero (l m : List UInt8) : ptv l m 0 0 = 0 := by
  unfold ptv
  simp only [List.take_zero, nv_nil, Nat.zero_mul, Nat.mul_zero, Nat.zero_add]
  cases l[0]? <;> simp
theorem times_carry (n0 n1 : Bool) (s0 s1 : ByteArray) (x0 x1 : Int) (C : List Int) (hC : ∀ x ∈ C, 0 ≤ x ∧ x ≤ 300000) (hn : C.length ≤ 1000) (g0 : 0 ≤ x0 + x1) (g1 : x0 + x1 ≤ 1000) :
    ∀ (j : Nat) (E : List UInt8) (c : Nat), j ≤ C.length → E.length = C.length - j → E.all digB = true → c ≤ 100000 → (nv E : Int) + (c : Int) * ((10 ^ E.length : Nat) : Int) = cv (C.drop j) →
    ∃ (F : List UInt8) (c' : Nat), F.length = C.length ∧ F.all digB = true ∧ (nv F : Int) + (c' : Int) * ((10 ^ F.length : Nat) : Int) = cv C ∧
      Ev (fun k => spec_TimesDec.l2 k C (List.replicate j 0 ++ toI E) (c : Int) ((j : Int) - 1) n0 s0 x0 n1 s1 x1) (norm (n0 != n1) F (x0 + x1).toNat) := by
  intro j
  induction j with
  | zero =>
    intro E c hj hE hd hc hv
    have hx := l4Norm_f (n0 != n1) (mkB E) (x0 + x1).toNat (by omega) (by rw [sz, mkB_list]; omega)
    rw [mkB_list] at hx
    refine ⟨E, c, by omega, hd, hv, Ev.step (fun k => ?_) (Ev.bind hx (Ev.now _))⟩
    conv => lhs; unfold spec_TimesDec.l2
    rw [if_neg (by omega), w64 (by omega) (by omega)]
    have e : ((x0 + x1).toNat : Int) = x0 + x1 := by omega
    simp only [List.replicate_zero, List.nil_append, str_toI, e]
  | succ j ih =>
    intro E c hj hE hd hc hv
    have c0 : j < C.length := by omega
    obtain ⟨p0, p1⟩ := hC C[j] (List.getElem_mem c0)
    obtain ⟨S, hS⟩ : ∃ S : Nat, (S : Int) = C[j] + (c : Int) := ⟨(C[j] + (c : Int)).toNat, by omega⟩
    have hd10 : S % 10 < 10 := Nat.mod_lt _ (by omega)
    have e0 : C.drop j = C[j] :: C.drop (j + 1) := List.drop_eq_getElem_cons c0
    obtain ⟨F, c', f1, f2, f3, hF⟩ := ih (dig (S % 10) :: E) (S / 10) (by omega) (by rw [List.length_cons, hE]; omega) (all_cons_dig hd10 hd) (by omega) (by
      rw [e0, cv_cons, ← hv, nv_cons, (dig_ok hd10).2, List.length_cons, Nat.pow_succ]
      have q0 : (C.drop (j + 1)).length = E.length := by rw [List.length_drop, hE]
      rw [q0, Int.natCast_add, Int.natCast_mul, Int.natCast_mul]
      have key : ((S % 10 : Nat) : Int) + 10 * ((S / 10 : Nat) : Int) = C[j] + (c : Int) := by omega
      have key2 := congrArg (· * ((10 ^ E.length : Nat) : Int)) key
      simp only [Int.add_mul] at key2
      have r1 : ((S / 10 : Nat) : Int) * (((10 ^ E.length : Nat) : Int) * ((10 : Nat) : Int)) = 10 * ((S / 10 : Nat) : Int) * ((10 ^ E.length : Nat) : Int) := by
        rw [Int.mul_comm ((10 ^ E.length : Nat) : Int) ((10 : Nat) : Int), ← Int.mul_assoc, Int.mul_comm _ ((10 : Nat) : Int)]; rfl
      rw [r1]
      omega)
    refine ⟨F, c', f1, f2, f3, Ev.step (fun k => ?_) hF⟩
    have i1 : (((j + 1 : Nat) : Int) - 1) = (j : Int) := by omega
    have i3 : wrap64 ((j : Int) - 1) = (j : Int) - 1 := w64 (by omega) (by omega)
    conv => lhs; unfold spec_TimesDec.l2
    rw [i1, if_pos (by omega), if_pos (by omega), if_pos (by omega), if_pos (by rw [List.length_append, List.length_replicate]; omega)]
    rw [rd_at C j c0, w64 (n := C[j] + (c : Int)) (by omega) (by omega), ← hS, i3, Int.toNat_natCast, set_rep j (toI E)]
    have k1 : (wrap64 (48 + Int.tmod (S : Int) 10)) % 256 = ((dig (S % 10)).toNat : Int) := by
      rw [Int.tmod_eq_emod_of_nonneg (by omega), w64 (by omega) (by omega), dig_nat hd10]; omega
    have k2 : wrap64 (Int.tdiv (S : Int) 10) = ((S / 10 : Nat) : Int) := by
      rw [Int.tdiv_eq_ediv_of_nonneg (by omega), w64 (by omega) (by omega)]; omega
    rw [k1, k2]
    rfl
def CellsOk (C : List Int) (t : Nat) : Prop := ∀ x ∈ C, 0 ≤ x ∧ x ≤ 81 * (t : Int)
theorem cellsOk_set {C : List Int} {t i : Nat} (h : CellsOk C t) (hi : i < C.length) {d : Int} (h0 : 0 ≤ d) (h1 : d ≤ 81) : CellsOk (C.set i (C[i] + d)) (t + 1) := by
  intro x hx
  rcases List.mem_or_eq_of_mem_set hx with h2 | h2
  · have := h x h2; omega
  · have := h C[i] (List.getElem_mem hi); omega
theorem dd_le {a b : Nat} (ha : a < 10) (hb : b < 10) : a * b ≤ 81 := by
  have := Nat.mul_le_mul (show a ≤ 9 by omega) (show b ≤ 9 by omega)
  omega
theorem add_sub_i (a b : Int) : a + b - a = b := by omega
theorem w_ik (i k : Nat) (h : i + k ≤ 1000) : wrap64 ((i : Int) + (k : Int)) = ((i + k : Nat) : Int) ∧ wrap64 (((i + k : Nat) : Int) + 2) = ((i + k + 2 : Nat) : Int) ∧ wrap64 ((k : Int) + 1) = ((k + 1 : Nat) : Int) :=
  ⟨by rw [w64 (by omega) (by omega)]; omega, by rw [w64 (by omega) (by omega)]; omega, by rw [w64 (by omega) (by omega)]; omega⟩
theorem w_dd {a b : Nat} (h : a * b ≤ 81) : wrap64 ((a : Int) * (b : Int)) = ((a * b : Nat) : Int) := by
  rw [← Int.natCast_mul, w64 (by omega) (by omega)]
theorem w_81 {m k : Nat} (h : m ≤ 60 * 60) (hk : k ≤ 60) : 81 * ((m + k : Nat) : Int) ≤ 1000000 := by omega
theorem w_sum {x : Int} {p : Nat} (h : p ≤ 81) (h0 : 0 ≤ x) (h1 : x ≤ 1000000) : wrap64 (x + (p : Int)) = x + (p : Int) := w64 (by omega) (by omega)
theorem times_l1 (n0 n1 : Bool) (s0 s1 : ByteArray) (x0 x1 : Int) (d0 : s0.data.toList.all digB = true) (d1 : s1.data.toList.all digB = true) (z0 : s0.data.toList.length ≤ 60) (z1 : s1.data.toList.length ≤ 60) (i : Nat) (hi : i < s0.data.toList.length) (R : Bool × ByteArray × Int × Bool)
    (next : ∀ C : List Int, C.length = s0.data.toList.length + s1.data.toList.length + 1 → CellsOk C ((i + 1) * s1.data.toList.length) → cv C = (ptv s0.data.toList s1.data.toList (i + 1) 0 : Nat) → Ev (fun k => spec_TimesDec.l0 k C ((i + 1 : Nat) : Int) n0 s0 x0 n1 s1 x1) R) :
    ∀ (d k : Nat) (C : List Int), k + d = s1.data.toList.length → C.length = s0.data.toList.length + s1.data.toList.length + 1 → CellsOk C (i * s1.data.toList.length + k) → cv C = (ptv s0.data.toList s1.data.toList i k : Nat) →
      Ev (fun f => spec_TimesDec.l1 f C (i : Int) (k : Int) n0 s0 x0 n1 s1 x1) R := by
  have y0 := sz s0
  have y1 := sz s1
  intro d
  induction d with
  | zero =>
    intro k C hk hl hC hv
    refine Ev.step (fun f => ?_) (next C hl (by rw [Nat.add_mul, Nat.one_mul]; have : k = s1.data.toList.length := by omega
                                                subst this; exact hC) (by rw [← ptv_end _ _ i hi]; have : k = s1.data.toList.length := by omega
                                                                          subst this; exact hv))
    conv => lhs; unfold spec_TimesDec.l1
    rw [if_neg (by omega), w64 (by omega) (by omega)]
    rfl
  | succ d ih =>
    intro k C hk hl hC hv
    have hk' : k < s1.data.toList.length := by omega
    have hat : i + k + 2 < C.length := by omega
    have hik : i * s1.data.toList.length ≤ 60 * 60 := Nat.mul_le_mul (by omega) z1
    have g7 : s0.data.toList.length + s1.data.toList.length + 1 - 1 - (i + k + 2) = (s0.data.toList.length - 1 - i) + (s1.data.toList.length - 1 - k) := by omega
    have g8 : (k + 1) + d = s1.data.toList.length := by omega
    have hik2 : i + k ≤ 1000 := by omega
    have g1 : (k : Int) < (s1.size : Int) := by omega
    have g2 : (0 : Int) ≤ ((i + k + 2 : Nat) : Int) := by omega
    have g3 : ((i + k + 2 : Nat) : Int) < (C.length : Int) := by omega
    have g4 : (0 : Int) ≤ (i : Int) := by omega
    have g5 : (i : Int) < (s0.size : Int) := by omega
    have g6 : (0 : Int) ≤ (k : Int) := by omega
    have l0 := (bt_dig s0 i hi d0).2
    have l1 := (bt_dig s1 k hk' d1).2
    have hle := dd_le l0 l1
    have hx := hC C[i + k + 2] (List.getElem_mem hat)
    have IH := ih (k + 1) (C.set (i + k + 2) (C[i + k + 2] + ((dv s0.data.toList[i] * dv s1.data.toList[k] : Nat) : Int))) g8 (by rw [List.length_set]; exact hl) (cellsOk_set hC hat (Int.natCast_nonneg _) (Int.ofNat_le.2 hle)) (by
      rw [cv_set C _ hat, hv, ptv_k _ _ i k hi hk', hl]
      rw [g7, Int.natCast_add, Int.natCast_mul (dv s0.data.toList[i] * dv s1.data.toList[k])]
      rw [add_sub_i])
    refine Ev.step (fun f => ?_) IH
    conv => lhs; unfold spec_TimesDec.l1
    obtain ⟨w1, w2, w3⟩ := w_ik i k hik2
    rw [w1, w2, w3, if_pos g1, if_pos g2, if_pos g3, if_pos g4, if_pos g5, if_pos g6, rd_at C _ hat, bt_dv s0 i hi d0, bt_dv s1 k hk' d1, Int.toNat_natCast, w_dd hle, w_sum hle hx.1 (Int.le_trans hx.2 (w_81 hik (Nat.le_trans (Nat.le_of_lt hk') z1)))]
theorem times_l0 (n0 n1 : Bool) (s0 s1 : ByteArray) (x0 x1 : Int) (d0 : s0.data.toList.all digB = true) (d1 : s1.data.toList.all digB = true) (z0 : s0.data.toList.length ≤ 60) (z1 : s1.data.toList.length ≤ 60) (g0 : 0 ≤ x0 + x1) (g1 : x0 + x1 ≤ 1000) :
    ∀ (d i : Nat) (C : List Int), i + d = s0.data.toList.length → C.length = s0.data.toList.length + s1.data.toList.length + 1 → CellsOk C (i * s1.data.toList.length) → cv C = (ptv s0.data.toList s1.data.toList i 0 : Nat) →
      Ev (fun f => spec_TimesDec.l0 f C (i : Int) n0 s0 x0 n1 s1 x1) (norm (n0 != n1) (prod s0 s1) (x0 + x1).toNat) := by
  have y0 := sz s0
  have y1 := sz s1
  intro d
  induction d with
  | zero =>
    intro i C hk hl hC hv
    have hi : i = s0.data.toList.length := by omega
    subst hi
    rw [ptv_all] at hv
    have hik : s0.data.toList.length * s1.data.toList.length ≤ 60 * 60 := Nat.mul_le_mul z0 z1
    have hdrop : C.drop C.length = [] := List.drop_length
    obtain ⟨F, c', f1, f2, f3, hF⟩ := times_carry n0 n1 s0 s1 x0 x1 C (fun x hx => by have := hC x hx; omega) (by omega) g0 g1 C.length [] 0 (Nat.le_refl _) (by simp) rfl (by omega) (by rw [hdrop]; rfl)
    have hlt := nv_prod_lt d0 d1
    have hc : c' = 0 := by
      rcases Nat.eq_zero_or_pos c' with h | h
      · exact h
      · exfalso
        rw [hv, f1, hl, ← Int.natCast_mul, ← Int.natCast_add] at f3
        have f4 : nv F + c' * 10 ^ (s0.data.toList.length + s1.data.toList.length + 1) = nv s0.data.toList * nv s1.data.toList := by exact_mod_cast f3
        have := Nat.mul_le_mul_right (10 ^ (s0.data.toList.length + s1.data.toList.length + 1)) h
        rw [Nat.pow_succ] at this f4
        omega
    subst hc
    have hnF : nv F = nv s0.data.toList * nv s1.data.toList := by
      rw [hv] at f3; simp only [Int.natCast_zero, Int.zero_mul, Int.add_zero] at f3; exact_mod_cast f3
    have en : norm (n0 != n1) F (x0 + x1).toNat = norm (n0 != n1) (prod s0 s1) (x0 + x1).toNat := norm_eq f2 (dlist_dig _ _) (by rw [hnF, prod_nv d0 d1])
    rw [en] at hF
    refine Ev.step (fun f => ?_) hF
    conv => lhs; unfold spec_TimesDec.l0
    rw [if_neg (by omega), if_pos (by omega), if_pos (by rw [Int.toNat_natCast]; omega), w64 (by omega) (by omega), Int.toNat_natCast]
    simp [toI]
  | succ d ih =>
    intro i C hk hl hC hv
    have hi : i < s0.data.toList.length := by omega
    have := times_l1 n0 n1 s0 s1 x0 x1 d0 d1 z0 z1 i hi _ (fun C' a b c => ih (i + 1) C' (by omega) a b c) s1.data.toList.length 0 C (by omega) hl hC hv
    refine Ev.step (fun f => ?_) this
    conv => lhs; unfold spec_TimesDec.l0
    rw [if_pos (by omega)]
    rfl
theorem times_spec {n0 n1 : Bool} {s0 s1 : ByteArray} {x0 x1 : Int} (h0 : okB n0 s0 x0 = true) (h1 : okB n1 s1 x1 = true) : Ev (fun k => spec_TimesDec.f k n0 s0 x0 n1 s1 x1) (norm (n0 != n1) (prod s0 s1) (x0 + x1).toNat) := by
  obtain ⟨z0, a0, a1⟩ := ok_len h0
  obtain ⟨z1, b0, b1⟩ := ok_len h1
  have y0 := sz s0
  have y1 := sz s1
  have q0 := spec_DecOk_f n0 s0 x0 (by omega)
  have q1 := spec_DecOk_f n1 s1 x1 (by omega)
  rw [h0] at q0; rw [h1] at q1
  unfold spec_TimesDec.f
  refine Ev.bind q0 ?_
  simp only [if_true]
  refine Ev.bind q1 ?_
  have key := times_l0 n0 n1 s0 s1 x0 x1 (ok_all h0) (ok_all h1) (by omega) (by omega) (by omega) (by omega) s0.data.toList.length 0 (List.replicate (s0.data.toList.length + s1.data.toList.length + 1) 0) (by omega) (by simp) (by
    intro x hx; rw [(List.mem_replicate.1 hx).2]; omega) (by rw [cv_zeros, ptv_zero]; rfl)
  refine Ev.step (fun k => ?_) key
  have w1 : wrap64 ((s0.size : Int) + (s1.size : Int)) = ((s0.data.toList.length + s1.data.toList.length : Nat) : Int) := by rw [w64 (by omega) (by omega)]; omega
  have w2 : wrap64 (((s0.data.toList.length + s1.data.toList.length : Nat) : Int) + 1) = ((s0.data.toList.length + s1.data.toList.length + 1 : Nat) : Int) := by rw [w64 (by omega) (by omega)]; omega
  simp only [Bool.not_true, spec_TimesDec.j0, Bool.false_eq_true, if_false]
  rw [w1, w2, if_pos (by omega), if_pos (by rw [Int.toNat_natCast]; omega), Int.toNat_natCast]
  rfl
theorem times_no {n0 n1 : Bool} {s0 s1 : ByteArray} {x0 x1 : Int} (hs0 : s0.size ≤ 1000) (hs1 : s1.size ≤ 1000) (h : (okB n0 s0 x0 && okB n1 s1 x1) = false) : Ev (fun k => spec_TimesDec.f k n0 s0 x0 n1 s1 x1) (false, ⟨#[]⟩, 0, false) := by
  have q0 := spec_DecOk_f n0 s0 x0 (by omega)
  have q1 := spec_DecOk_f n1 s1 x1 (by omega)
  unfold spec_TimesDec.f
  refine Ev.bind q0 ?_
  cases e0 : okB n0 s0 x0 with
  | true =>
    have e1 : okB n1 s1 x1 = false := by rw [e0] at h; exact h
    simp only [if_true]
    refine Ev.bind q1 ?_
    rw [e1]
    simp only [Bool.not_false]
    exact Ev.step (f := fun _ => some (false, (⟨#[]⟩ : ByteArray), (0 : Int), false)) (fun k => by simp only [spec_TimesDec.j0, if_true]) (Ev.now _)
  | false =>
    simp only [Bool.false_eq_true, if_false]
    exact Ev.step (f := fun _ => some (false, (⟨#[]⟩ : ByteArray), (0 : Int), false)) (fun k => by simp only [spec_TimesDec.j0, if_true]) (Ev.now _)

/-! ### values of products -/
def timesR (n0 : Bool) (s0 : ByteArray) (x0 : Int) (n1 : Bool) (s1 : ByteArray) (x1 : Int) : Bool × ByteArray × Int × Bool :=
  if (okB n0 s0 x0 && okB n1 s1 x1) = true then norm (n0 != n1) (prod s0 s1) (x0 + x1).toNat else (false, ⟨#[]⟩, 0, false)
theorem times_f (n0 : Bool) (s0 : ByteArray) (x0 : Int) (n1 : Bool) (s1 : ByteArray) (x1 : Int) (h0 : s0.size ≤ 1000000) (h1 : s1.size ≤ 1000000) : impl_TimesDec.f n0 s0 x0 n1 s1 x1 = some (timesR n0 s0 x0 n1 s1 x1) := by
  unfold impl_TimesDec.f timesR
  rw [if_pos ⟨h0, h1⟩]
theorem sg_bne (a b : Bool) : sg (a != b) = sg a * sg b := by cases a <;> cases b <;> rfl
theorem times_val {n0 n1 : Bool} {s0 s1 : ByteArray} {x0 x1 : Int} (h0 : okB n0 s0 x0 = true) (h1 : okB n1 s1 x1 = true) (x : Nat) (hx : (x : Int) = x0 + x1) :
    (sg (n0 != n1) * (nv (prod s0 s1) : Int)) * ((10 ^ (120 - x) : Nat) : Int) = V n0 s0 x0 60 * V n1 s1 x1 60 := by
  obtain ⟨_, a0, a1⟩ := ok_len h0
  obtain ⟨_, b0, b1⟩ := ok_len h1
  unfold V
  have e : 120 - x = (60 - x0.toNat) + (60 - x1.toNat) := by omega
  rw [prod_nv (ok_all h0) (ok_all h1), e, Nat.pow_add, sg_bne]
  simp only [Int.natCast_mul, Int.mul_assoc, Int.mul_left_comm]
theorem timesR_good {n0 n1 : Bool} {s0 s1 : ByteArray} {x0 x1 : Int} (hok : (timesR n0 s0 x0 n1 s1 x1).2.2.2 = true) :
    okB n0 s0 x0 = true ∧ okB n1 s1 x1 = true ∧ okB (timesR n0 s0 x0 n1 s1 x1).1 (timesR n0 s0 x0 n1 s1 x1).2.1 (timesR n0 s0 x0 n1 s1 x1).2.2.1 = true ∧
      V (timesR n0 s0 x0 n1 s1 x1).1 (timesR n0 s0 x0 n1 s1 x1).2.1 (timesR n0 s0 x0 n1 s1 x1).2.2.1 120 = V n0 s0 x0 60 * V n1 s1 x1 60 := by
  unfold timesR at hok ⊢
  cases h : (okB n0 s0 x0 && okB n1 s1 x1) with
  | false => rw [h] at hok; simp at hok
  | true =>
    rw [h] at hok
    simp only [if_true] at hok ⊢
    rw [Bool.and_eq_true] at h
    obtain ⟨_, a0, a1⟩ := ok_len h.1
    obtain ⟨_, b0, b1⟩ := ok_len h.2
    obtain ⟨q1, q2, q3⟩ := norm_good (n0 != n1) (prod s0 s1) (x0 + x1).toNat (dlist_dig _ _) hok
    refine ⟨h.1, h.2, q1, ?_⟩
    obtain ⟨_, c0, c1⟩ := ok_len q1
    obtain ⟨x, hx⟩ : ∃ x : Nat, x = (x0 + x1).toNat := ⟨_, rfl⟩
    rw [← hx] at q1 q2 q3 c0 ⊢
    have e : 120 = x + (120 - x) := by omega
    have := V_up (norm (n0 != n1) (prod s0 s1) x).1 (norm (n0 != n1) (prod s0 s1) x).2.1 c0 q2 (120 - x)
    rw [← e] at this
    rw [this, q3]
    exact times_val h.1 h.2 x (by omega)
theorem timesR_size (n0 : Bool) (s0 : ByteArray) (x0 : Int) (n1 : Bool) (s1 : ByteArray) (x1 : Int) : (timesR n0 s0 x0 n1 s1 x1).2.1.size ≤ 60 := by
  cases e : (timesR n0 s0 x0 n1 s1 x1).2.2.2 with
  | true => exact (ok_len (timesR_good e).2.2.1).1
  | false =>
    unfold timesR at e ⊢
    split at e
    · rename_i h
      rw [if_pos h, norm_bad _ _ _ e]; decide
    · rename_i h
      rw [if_neg h]; decide
theorem timesR_comm (n0 : Bool) (s0 : ByteArray) (x0 : Int) (n1 : Bool) (s1 : ByteArray) (x1 : Int) : timesR n1 s1 x1 n0 s0 x0 = timesR n0 s0 x0 n1 s1 x1 := by
  unfold timesR
  rw [Bool.and_comm]
  cases h : (okB n0 s0 x0 && okB n1 s1 x1) with
  | false => rfl
  | true =>
    rw [Bool.and_eq_true] at h
    simp only [if_true]
    rw [Int.add_comm x1 x0]
    refine norm_eq (dlist_dig _ _) (dlist_dig _ _) ?_
    rw [prod_nv (ok_all h.1) (ok_all h.2), prod_nv (ok_all h.2) (ok_all h.1), Nat.mul_comm]
    have : (n1 != n0) = (n0 != n1) := by cases n0 <;> cases n1 <;> rfl
    rw [this]
end Go.Proofs.YtilmhfkbpnejeaaDoor.Pure

namespace Go.Proofs.YtilmhfkbpnejeaaDoor.L
open Go.RowKit Go.Proofs.YtilmhfkbpnejeaaDoorW.PrintWords Go.Proofs.YtilmhfkbpnejeaaDoorW.PrintLast Go.Proofs.YtilmhfkbpnejeaaDoorW.PrintMore
set_option linter.unusedVariables false
set_option linter.unusedSimpArgs false

theorem bld_size : (Tryd.prog.info? 67).map (fun i => i.size) = some 2 := by kernel_rfl
theorem bld_byte : (Tryd.prog.info? 5).map (fun i => (i.zero, i.size, i.bytes)) = some (some (.int .u8 0), 1, 1) := by kernel_rfl
set_option maxHeartbeats 1000000 in
set_option maxRecDepth 100000 in
theorem bld_check_used (b : Nat) (w : World) (h0 : w.cell? ⟨b, 0, none⟩ = some (.pointer (some ⟨b, 0, none⟩))) :
    Calls Tryd.prog 93 #[.pointer (some ⟨b, 0, none⟩)] w fun e w' => e = .returned (.tuple #[]) ∧ w' = w := by
  obtain ⟨j, hj, _⟩ := Option.map_eq_some_iff.1 bld_size
  go_enter Tryd.func93, Tryd.ntmps93
  go_wp2
  rw [Lib.run_neq_ptr_same w _ Tryd.underlying65 hj]
  go_wp2
  go_end0
  exact ⟨rfl, rfl⟩
set_option maxHeartbeats 1000000 in
set_option maxRecDepth 100000 in
theorem bld_check_fresh (b : Nat) (w : World) (h0 : w.cell? ⟨b, 0, none⟩ = some (.pointer none)) (hsh : w.shape? b = some (67, 2)) (hfz : w.frozen? ⟨b, 0, none⟩ = false) :
    Calls Tryd.prog 93 #[.pointer (some ⟨b, 0, none⟩)] w fun e w' => e = .returned (.tuple #[]) ∧ w' = w.setCell ⟨b, 0, none⟩ (.pointer (some ⟨b, 0, none⟩)) := by
  obtain ⟨j, hj, hjs⟩ := Option.map_eq_some_iff.1 bld_size
  go_enter Tryd.func93, Tryd.ntmps93
  go_wp2
  rw [Lib.run_to_unsafe w ⟨b, 0, none⟩ Tryd.underlying65 Tryd.underlying138 hj (by rw [hjs]; decide) hsh (Nat.zero_lt_succ 1)]
  simp only [Result.andThen]
  rw [Oper.upon_value]
  go_wp2
  rw [run_callFunc_extern Tryd.func124 (by kernel_rfl) (by kernel_rfl) (by kernel_rfl) (e := Extern.AbiNoEscape.same) (by kernel_rfl)]
  rw [Lib.run_noEscape]
  simp only [Result.andThen]
  rw [Oper.upon_value]
  go_wp2
  rw [Lib.run_from_unsafe w ⟨b, 0, none⟩ Tryd.underlying138 Tryd.underlying65 hj hsh (by kernel_rfl)]
  simp only [Result.andThen]
  rw [Oper.upon_value]
  go_wp2
  go_end0
  exact ⟨rfl, rfl⟩
theorem bld_check (B b : Nat) (bs : List Value) (w : World) (h : Lib.IsBuilderF 67 5 B b bs w) :
    Calls Tryd.prog 93 #[.pointer (some ⟨b, 0, none⟩)] w fun e w' => e = .returned (.tuple #[]) ∧ (Lib.BuilderAtF 67 5 B b (.pointer (some ⟨b, 0, none⟩)) bs w' ∧ Below B w w' ∧ Lib.OthersKept 5 (some b) w w') := by
  rcases h with h | h
  · refine (bld_check_fresh b w h.cell0 h.shape h.frozen0).mono ?_
    rintro e w' ⟨rfl, rfl⟩
    exact ⟨rfl, h.used _, (Below.refl B w).setCell (p := ⟨b, 0, none⟩) h.1 _, (Lib.OthersKept.refl _ _ w).setCell ⟨b, 0, none⟩ rfl _⟩
  · refine (bld_check_used b w h.cell0).mono ?_
    rintro e w' ⟨rfl, rfl⟩
    exact ⟨rfl, h, Below.refl B _, Lib.OthersKept.refl _ _ _⟩
set_option maxHeartbeats 2000000 in
set_option maxRecDepth 100000 in
theorem bld_byte_k (B b : Nat) (bs : List Value) (c : Int) (w : World) (h : Lib.IsBuilderF 67 5 B b bs w) (hlen : bs.length + 1 ≤ 140737488355328) (hBw : B ≤ w.heap.size) :
    Calls Tryd.prog 53 #[.pointer (some ⟨b, 0, none⟩), .int .u8 c] w fun e w' => e = .returned .nilIface ∧ (Lib.BuilderAtF 67 5 B b (.pointer (some ⟨b, 0, none⟩)) (bs ++ [.int .u8 c]) w' ∧ Below B w w' ∧ Lib.OthersKept 5 (some b) w w') := by
  obtain ⟨i0, hi, hz0, hz1, hz2⟩ := info_parts bld_byte
  go_enter Tryd.func53, Tryd.ntmps53
  go_wp2_with (go_at_call 93; refine (bld_check B b bs _ h).mono ?_)
  rintro e w1 ⟨rfl, h1, hb1, hk1⟩
  obtain ⟨hB, v, hbk, hown, hne⟩ := h1
  have c0 : w1.cell? ⟨b, 0, none⟩ = some (.pointer (some ⟨b, 0, none⟩)) := by rw [Lib.cell_of_heap hbk]; rfl
  have c1 : w1.cell? ⟨b, 1, none⟩ = some v := by rw [Lib.cell_of_heap hbk]; rfl
  go_wp2_with (at_builtin; refine wpList_append_ownF _ rfl _ _ 29 rfl B 5 i0 (.int .u8 0) 1 1 Tryd.underlying29 hi hz0 hz1 hz2 rfl (by decide) _ _ _ rfl (hown.alloc _) ⟨w1.heap.size, 0, none⟩ 1 1 [.int .u8 c] rfl rfl ?c1 ?c2 ?c3 ?c4 ?c5 ?_)
  case c1 =>
    intro j u hj
    match j, hj with
    | 0, hj => simp at hj; subst hj; simp [Addr.add]
  case c2 => intro u hu; simp at hu; subst hu; rfl
  case c3 => unfold maxLen; omega
  case c4 => omega
  case c5 => have := hb1.size; simp; omega
  intro v' w2 hown' hgrow _
  have hlt : b < w1.heap.size := by
    rcases Nat.lt_or_ge b w1.heap.size with h' | h'
    · exact h'
    · simp [Array.getElem?_eq_none h'] at hbk
  have hb2 : w2.heap[b]? = some (.cells #[.pointer (some ⟨b, 0, none⟩), v] 67 (0, 0)) := by
    rw [hgrow.block b (by simp; omega) (fun e => hne e.symm), Lib.alloc_old w1 _ b hlt]
    exact hbk
  have d0 : w2.cell? ⟨b, 0, none⟩ = some (.pointer (some ⟨b, 0, none⟩)) := by rw [Lib.cell_of_heap hb2]; rfl
  have d1 : w2.cell? ⟨b, 1, none⟩ = some v := by rw [Lib.cell_of_heap hb2]; rfl
  have f1 : w2.frozen? ⟨b, 1, none⟩ = false := Lib.frozen_of_heap hb2 1
  obtain ⟨g, cap, rfl⟩ : ∃ g cap, v' = .slice (some ⟨g, 0, none⟩) (bs.length + 1) cap := by
    rcases hown'.2 with ⟨_, h0⟩ | ⟨g, cap, cur, fz, hv, _⟩
    · omega
    · exact ⟨g, cap, hv⟩
  go_wp2
  go_ret
  refine ⟨rfl, ?_, ?_, ((hk1.alloc _).grown hgrow (Lib.ownsRowF_kind (hown.alloc _))).setCell ⟨b, 1, none⟩ rfl _⟩
  · exact Lib.BuilderAtF.put (T := 67) (e := 5) hB hb2 (bs' := bs ++ [.int .u8 c]) (by simpa using hown') (by decide)
  · exact ((hb1.alloc (by have := hb1.size; omega) _).grown hgrow (by have := hb1.size; simp; omega) (fun k hk => (hown.lt k hk).1)).setCell (p := ⟨b, 1, none⟩) hB _
end Go.Proofs.YtilmhfkbpnejeaaDoor.L

namespace Go.Proofs
open Go.Shelf
def Tryd.lays169_ren : Go.Shelf.Ren := ⟨fun | 169 => 55 | n => n, fun | 70 => 65 | 9 => 9 | 0 => 0 | 72 => 67 | 37 => 29 | 127 => 113 | 3 => 3 | 5 => 5 | n => n, fun | n => n⟩
theorem Tryd.lays169 : Go.Proofs.Lays.n169 Tryd.prog Tryd.lays169_ren := {
  mixed := by kernel_rfl
  f169 := Tryd.func55.trans (congrArg some (by kernel_rfl))
  t0 := Tryd.underlying0
  a0 := Tryd.isAgg0
  z0 := Tryd.sizeOf0
  v0 := Tryd.zeroValue0
  t3 := Tryd.underlying3
  a3 := Tryd.isAgg3
  z3 := Tryd.sizeOf3
  v3 := Tryd.zeroValue3
  t9 := Tryd.underlying9
  a9 := Tryd.isAgg9
  z9 := Tryd.sizeOf9
  v9 := Tryd.zeroValue9
  t37 := Tryd.underlying29
  a37 := Tryd.isAgg29
  z37 := Tryd.sizeOf29
  v37 := Tryd.zeroValue29
  t70 := Tryd.underlying65
  a70 := Tryd.isAgg65
  z70 := Tryd.sizeOf65
  v70 := Tryd.zeroValue65
  t72 := Tryd.underlying67
  a72 := Tryd.isAgg67
  z72 := Tryd.sizeOf67
  v72 := Tryd.zeroValue67
  t127 := Tryd.underlying113
  a127 := Tryd.isAgg113
  z127 := Tryd.sizeOf113
  v127 := Tryd.zeroValue113 }
theorem Tryd.Builder_Extra_169 : Builder.Extra Tryd.prog Tryd.lays169_ren := {
  sizeBuilder := by kernel_rfl
  liesBuilder := by kernel_rfl
  t5 := Tryd.underlying5
  a5 := Tryd.isAgg5
  z5 := Tryd.sizeOf5
  v5 := Tryd.zeroValue5
  infoByte := by kernel_rfl
  cellsByte := by kernel_rfl
  sizeByte := by kernel_rfl
  neB5 := by decide }
open Go.RowKit in
/-- (*strings.Builder).String: "String returns the accumulated string.": WHATEVER THE BUILDER HOLDS; THE FORM '_k': OVER 'Lib.IsBuilderF' (a builder that 'String()' may have read), AND WITH THE FRAME THAT REACHES ABOVE THE BUILDER: 'Lib.OthersKept': every block that is not b and is no row of uint8's stands as it stood: the iterator of a range among them. (LAID: no walk: one application.) -/
theorem Tryd.Builder_String_any_k (B b : Nat) (l : List UInt8) (w : World) (h : Lib.IsBuilderF 67 5 B b (Lib.byteCells l) w) (hBw : B ≤ w.heap.size) :
    Calls Tryd.prog 55 #[.pointer (some ⟨b, 0, none⟩)] w fun e w' => e = .returned (.string ⟨l.toArray⟩) ∧ (Lib.IsBuilderF 67 5 B b (Lib.byteCells l) w' ∧ Below B w w' ∧ Lib.OthersKept 5 (some b) w w') := Any.Builder_String_any_k Tryd.lays169 Tryd.Builder_Extra_169 B b l w h hBw
end Go.Proofs

namespace Go.Proofs.YtilmhfkbpnejeaaDoor.L
open Go.Proofs.YtilmhfkbpnejeaaDoor.Pure (toI toI_len str_toI mkB)
open Go.RowKit Go.Proofs.YtilmhfkbpnejeaaDoorW.PrintWords Go.Proofs.YtilmhfkbpnejeaaDoorW.PrintLast Go.Proofs.YtilmhfkbpnejeaaDoorW.PrintMore
attribute [local go_sem] max2_int min2_int max_two min_two max_three min_three max_four min_four
set_option linter.unusedVariables false
set_option linter.unusedSimpArgs false

theorem wm64 (n : Int) : wrap64 (n % 256) = n % 256 := by unfold wrap64; omega
theorem wm64k (n : Int) : IntKind.i64.wrap (n % 256) = n % 256 := (i64_w _).trans (wm64 n)
attribute [local go_sem] wm64 wm64k
theorem bldT {T e B b : Nat} {bs : List Value} {w : World} (h : Lib.IsBuilderF T e B b bs w) : ∃ c, w.heap[b]? = some (.cells c T (0, 0)) := by
 rcases h with ⟨_, v, hb, _⟩ | ⟨_, v, hb, _⟩ <;> exact ⟨_, hb⟩
theorem bld_fresh {w : World} {B b : Nat} (hB : B ≤ b) (h : w.heap[b]? = some (.cells #[.pointer none, .slice none 0 0] 67 (0, 0))) : Lib.IsBuilderF 67 5 B b (Lib.byteCells []) w :=
 .inl ⟨hB, _, h, World.ownsRowF_of (World.ownsRow_nil _ _ _ _), by simp [Value.ownBlock]⟩
theorem bld_drew {T e B b : Nat} {bs : List Value} {w : World} (h : Lib.IsBuilderF T e B b bs w) : Lib.IsBuilderF T e B b bs w.drew := h.elim (fun x => .inl x.drew) (fun x => .inr x.drew)
theorem R_others {α : Type} {d : Kd α} {e e' T base g : Nat} {ok : Nat → Prop} {u : Value} {xs : List α} {W w1 : World} (h : d.R e W base ok u xs) (hk : Lib.OthersKept e' (some g) W w1) (hb : ∃ c, W.heap[g]? = some (.cells c T (0, 0))) (hT : ∀ q, q ∈ e :: d.E → q ≠ T) (ht : ∀ q, q ∈ e :: d.E → q ≠ e') : d.R e w1 base ok u xs := by
 refine Kd.R_mono (Kd.R_move (Kd.R_bound h) (fun k hk2 => ?_)) (fun _ hk => hk.1)
 obtain ⟨_, _, _, q, hq, cells, hc⟩ := hk2
 rw [hc]
 refine hk k _ hc ?_ ?_
 ·intro he
  injection he with he
  subst he
  obtain ⟨c, hb⟩ := hb
  rw [hc] at hb
  injection hb with hb
  injection hb with _ hb
  exact hT q hq hb
 ·intro c fz he
  injection he with _ he
  exact ht q hq he
theorem blk_others {w w1 : World} {e' g g' : Nat} {cs : Array Value} {t : TypeId} {fr : Nat × Nat} (h : w.heap[g]? = some (.cells cs t fr)) (hk : Lib.OthersKept e' (some g') w w1) (hne : g ≠ g') (ht : t ≠ e') : w1.heap[g]? = some (.cells cs t fr) :=
 hk _ _ h (by simpa using hne) (by intro c fz he; injection he with _ he; exact ht he)
theorem u8_nat {c : Int} (h0 : 0 ≤ c) (h1 : c < 256) : (((UInt8.ofNat c.toNat).toNat : Nat) : Int) = c := by rw [UInt8.toNat_ofNat']; omega
theorem bc_at {T e B b : Nat} {p : Value} {E : List UInt8} {c : Int} {w : World} (h : Lib.BuilderAtF T e B b p (Lib.byteCells E ++ [.int .u8 c]) w) (h0 : 0 ≤ c) (h1 : c < 256) : Lib.BuilderAtF T e B b p (Lib.byteCells (E ++ [UInt8.ofNat c.toNat])) w := by
 have e : Lib.byteCells (E ++ [UInt8.ofNat c.toNat]) = Lib.byteCells E ++ [.int .u8 c] := by simp only [Lib.byteCells, List.map_append, List.map_cons, List.map_nil, u8_nat h0 h1]
 rw [e]; exact h
theorem toI_snoc (E : List UInt8) {c : Int} (h0 : 0 ≤ c) (h1 : c < 256) : toI E ++ [c] = toI (E ++ [UInt8.ofNat c.toNat]) := by simp only [toI, List.map_append, List.map_cons, List.map_nil, u8_nat h0 h1]
/-! ### impl_TimesDecW: function 17 -/
mutual
def impl_TimesDecW.l0 : Nat → List Int → Int → Bool → ByteArray → Int → Bool → ByteArray → Int → Option (Bool × ByteArray × Int × Bool)
 | 0, _, _, _, _, _, _, _, _ => none
 | k + 1, x6, x7, x239000, x239001, x239002, x240000, x240001, x240002 => if x7 ≥ 0 then (impl_TimesDecW.l1 k x6 x7 (wrap64 ((x240001.size : Int) - 1)) x239000 x239001 x239002 x240000 x240001 x240002) else (impl_TimesDecW.l2 k ([] : List Int) x6 (x6.length : Int) 0 x239000 x239001 x239002 x240000 x240001 x240002)
def impl_TimesDecW.l1 : Nat → List Int → Int → Int → Bool → ByteArray → Int → Bool → ByteArray → Int → Option (Bool × ByteArray × Int × Bool)
 | 0, _, _, _, _, _, _, _, _, _ => none
 | k + 1, x6, x7, x8, x239000, x239001, x239002, x240000, x240001, x240002 => if x8 ≥ 0 then (if 0 ≤ (wrap64 ((wrap64 (x7 + x8)) + 1)) then (if (wrap64 ((wrap64 (x7 + x8)) + 1)) < (x6.length : Int) then (if 0 ≤ x7 then (if x7 < (x239001.size : Int) then (if 0 ≤ x8 then (if x8 < (x240001.size : Int) then ((some (x6.set ((wrap64 ((wrap64 (x7 + x8)) + 1)) : Int).toNat (Int.tmod (wrap64 ((rd x6 (wrap64 ((wrap64 (x7 + x8)) + 1))) + (wrap64 ((((bt x239001 x7) - 48) % 256) * (((bt x240001 x8) - 48) % 256))))) 10) : List Int)).bind fun y247 => (if 0 ≤ (wrap64 (x7 + x8)) then (if (wrap64 (x7 + x8)) < (x6.length : Int) then (impl_TimesDecW.l1 k (y247.set ((wrap64 (x7 + x8)) : Int).toNat (wrap64 ((rd y247 (wrap64 (x7 + x8))) + (wrap64 (Int.tdiv (wrap64 ((rd x6 (wrap64 ((wrap64 (x7 + x8)) + 1))) + (wrap64 ((((bt x239001 x7) - 48) % 256) * (((bt x240001 x8) - 48) % 256))))) 10))))) x7 (wrap64 (x8 - 1)) x239000 x239001 x239002 x240000 x240001 x240002) else (none)) else (none))) else (none)) else (none)) else (none)) else (none)) else (none)) else (none)) else (impl_TimesDecW.l0 k x6 (wrap64 (x7 - 1)) x239000 x239001 x239002 x240000 x240001 x240002)
def impl_TimesDecW.l2 : Nat → List Int → List Int → Int → Int → Bool → ByteArray → Int → Bool → ByteArray → Int → Option (Bool × ByteArray × Int × Bool)
 | 0, _, _, _, _, _, _, _, _, _, _ => none
 | k + 1, x10, x87, x88, x89, x239000, x239001, x239002, x240000, x240001, x240002 => if x89 < x88 then (if 0 ≤ x89 then (if x89 < (x87.length : Int) then (if x10.length < 140737488355328 then (impl_TimesDecW.l2 k (x10 ++ [(48 + ((rd x87 x89) % 256)) % 256]) x87 x88 (wrap64 (x89 + 1)) x239000 x239001 x239002 x240000 x240001 x240002) else (none)) else (none)) else (none)) else ((impl_made.f k (x239000 != x240000) (strOfNums x10) (wrap64 (x239002 + x240002))).bind fun bt254 => (some (bt254.1, bt254.2.1, bt254.2.2.1, bt254.2.2.2)))
end
def impl_TimesDecW.f (k : Nat) (a0_0 : Bool) (a0_1 : ByteArray) (a0_2 : Int) (a1_0 : Bool) (a1_1 : ByteArray) (a1_2 : Int) : Option (Bool × ByteArray × Int × Bool) := (impl_DecOk.f a0_0 a0_1 a0_2).bind fun t241 => (if t241 = true then ((impl_DecOk.f a1_0 a1_1 a1_2).bind fun t242 => (if t242 = true then (if 0 ≤ (wrap64 ((a0_1.size : Int) + (a1_1.size : Int))) then (if (wrap64 ((a0_1.size : Int) + (a1_1.size : Int)) : Int).toNat ≤ 35184372088832 then (impl_TimesDecW.l0 k (List.replicate (wrap64 ((a0_1.size : Int) + (a1_1.size : Int)) : Int).toNat 0) (wrap64 ((a0_1.size : Int) - 1)) a0_0 a0_1 a0_2 a1_0 a1_1 a1_2) else (none)) else (none)) else (some (false, (⟨#[]⟩ : ByteArray), 0, false)))) else (some (false, (⟨#[]⟩ : ByteArray), 0, false)))
def impl_TimesDecW.T10 : Bool × List (List Nat × List Nat) := (true, [([], []), ([], []), ([], []), ([1, 2], [1, 2]), ([3], [3]), ([0, 4], [0, 4]), ([5], [5]), ([], []), ([7], [7]), ([], []), ([8, 9], [8, 9]), ([10], [10]), ([11], [11]), ([], []), ([13], [13]), ([], []), ([14, 15], [14, 15]), ([16], [16]), ([17], [17]), ([12, 18], [12, 18]), ([6, 19], [6, 19]), ([20, 0, 1, 2, 3, 4, 5, 6, 7, 8, 9, 10, 11, 12, 13, 14, 15, 16, 17, 18, 19, 20], [20])])
def impl_TimesDecW.B10 : List Nat := [0, 0, 0, 6, 14, 31, 63, 0, 128, 0, 896, 1920, 3968, 0, 8192, 0, 57344, 122880, 253952, 524160, 1048575, 2097151]
theorem impl_TimesDecW.tab10 : rtab .any (opsOf Tryd.f17 10) = impl_TimesDecW.T10 := by kernel_rfl
theorem impl_TimesDecW.bits10 : waitsOk impl_TimesDecW.T10.2 impl_TimesDecW.B10 = true := by kernel_rfl
def impl_TimesDecW.T19 : Bool × List (List Nat × List Nat) := (true, [([], []), ([0], [0]), ([], []), ([2], [2]), ([1, 3], [1, 3]), ([], []), ([5], [5]), ([], []), ([7], [7]), ([], []), ([9], [9]), ([8, 10], [8, 10]), ([4, 6, 11, 6], [4, 6, 11]), ([12], [12]), ([12], [12]), ([13, 12, 0, 1, 2, 3, 4, 5, 6, 7, 8, 9, 10, 11, 12, 13, 14], [13]), ([14, 15, 0, 1, 2, 3, 4, 5, 6, 7, 8, 9, 10, 11, 12, 13, 14, 15], [14])])
def impl_TimesDecW.B19 : List Nat := [0, 1, 0, 4, 15, 0, 32, 0, 128, 0, 512, 1920, 4095, 8191, 8191, 32767, 65535]
theorem impl_TimesDecW.tab19 : rtab .any (opsOf Tryd.f17 19) = impl_TimesDecW.T19 := by kernel_rfl
theorem impl_TimesDecW.bits19 : waitsOk impl_TimesDecW.T19.2 impl_TimesDecW.B19 = true := by kernel_rfl
set_option maxHeartbeats 8000000 in
set_option maxRecDepth 100000 in
theorem impl_TimesDecW.calls (k : Nat) (a0_0 : Bool) (a0_1 : ByteArray) (a0_2 : Int) (a1_0 : Bool) (a1_1 : ByteArray) (a1_2 : Int) (r1 : Bool) (r2 : ByteArray) (r3 : Int) (r4 : Bool) (w : World) (h : impl_TimesDecW.f k a0_0 a0_1 a0_2 a1_0 a1_1 a1_2 = some (r1, r2, r3, r4)) :
  Calls Tryd.prog 17 #[.agg #[.bool a0_0, .string a0_1, .int .i64 a0_2], .agg #[.bool a1_0, .string a1_1, .int .i64 a1_2]] w fun e w' => e = .returned (.tuple #[.agg #[.bool r1, .string r2, .int .i64 r3], .bool r4]) ∧ Below w.heap.size w w' := by
 have hu26 := Tryd.underlying26
 have HB := Aside0.mk (Below.refl w.heap.size w)
 have H : ((impl_DecOk.f a0_0 a0_1 a0_2).bind fun t241 => (if t241 = true then ((impl_DecOk.f a1_0 a1_1 a1_2).bind fun t242 => (if t242 = true then (if 0 ≤ (wrap64 ((a0_1.size : Int) + (a1_1.size : Int))) then (if (wrap64 ((a0_1.size : Int) + (a1_1.size : Int)) : Int).toNat ≤ 35184372088832 then (impl_TimesDecW.l0 k (List.replicate (wrap64 ((a0_1.size : Int) + (a1_1.size : Int)) : Int).toNat 0) (wrap64 ((a0_1.size : Int) - 1)) a0_0 a0_1 a0_2 a1_0 a1_1 a1_2) else (none)) else (none)) else (some (false, (⟨#[]⟩ : ByteArray), 0, false)))) else (some (false, (⟨#[]⟩ : ByteArray), 0, false)))) = some (r1, r2, r3, r4) := h
 clear h
 replace H := Option.bind_eq_some_iff.mp H
 obtain ⟨t241, A30, H⟩ := H
 replace H : (if t241 = true then ((impl_DecOk.f a1_0 a1_1 a1_2).bind fun t242 => (if t242 = true then (if 0 ≤ (wrap64 ((a0_1.size : Int) + (a1_1.size : Int))) then (if (wrap64 ((a0_1.size : Int) + (a1_1.size : Int)) : Int).toNat ≤ 35184372088832 then (impl_TimesDecW.l0 k (List.replicate (wrap64 ((a0_1.size : Int) + (a1_1.size : Int)) : Int).toNat 0) (wrap64 ((a0_1.size : Int) - 1)) a0_0 a0_1 a0_2 a1_0 a1_1 a1_2) else (none)) else (none)) else (some (false, (⟨#[]⟩ : ByteArray), 0, false)))) else (some (false, (⟨#[]⟩ : ByteArray), 0, false))) = some (r1, r2, r3, r4) := H
 have A3 := Aside0.mk A30
 clear A30
 by_cases c4 : t241 = true
 ·subst c4
  have H1 : ((impl_DecOk.f a1_0 a1_1 a1_2).bind fun t242 => (if t242 = true then (if 0 ≤ (wrap64 ((a0_1.size : Int) + (a1_1.size : Int))) then (if (wrap64 ((a0_1.size : Int) + (a1_1.size : Int)) : Int).toNat ≤ 35184372088832 then (impl_TimesDecW.l0 k (List.replicate (wrap64 ((a0_1.size : Int) + (a1_1.size : Int)) : Int).toNat 0) (wrap64 ((a0_1.size : Int) - 1)) a0_0 a0_1 a0_2 a1_0 a1_1 a1_2) else (none)) else (none)) else (some (false, (⟨#[]⟩ : ByteArray), 0, false)))) = some (r1, r2, r3, r4) := by rw [if_pos rfl] at H; exact H
  clear H
  have H := H1
  clear H1
  replace H := Option.bind_eq_some_iff.mp H
  obtain ⟨t242, A50, H⟩ := H
  replace H : (if t242 = true then (if 0 ≤ (wrap64 ((a0_1.size : Int) + (a1_1.size : Int))) then (if (wrap64 ((a0_1.size : Int) + (a1_1.size : Int)) : Int).toNat ≤ 35184372088832 then (impl_TimesDecW.l0 k (List.replicate (wrap64 ((a0_1.size : Int) + (a1_1.size : Int)) : Int).toNat 0) (wrap64 ((a0_1.size : Int) - 1)) a0_0 a0_1 a0_2 a1_0 a1_1 a1_2) else (none)) else (none)) else (some (false, (⟨#[]⟩ : ByteArray), 0, false))) = some (r1, r2, r3, r4) := H
  have A5 := Aside0.mk A50
  clear A50
  by_cases c6 : t242 = true
  ·subst c6
   have H1 : (if 0 ≤ (wrap64 ((a0_1.size : Int) + (a1_1.size : Int))) then (if (wrap64 ((a0_1.size : Int) + (a1_1.size : Int)) : Int).toNat ≤ 35184372088832 then (impl_TimesDecW.l0 k (List.replicate (wrap64 ((a0_1.size : Int) + (a1_1.size : Int)) : Int).toNat 0) (wrap64 ((a0_1.size : Int) - 1)) a0_0 a0_1 a0_2 a1_0 a1_1 a1_2) else (none)) else (none)) = some (r1, r2, r3, r4) := by rw [if_pos rfl] at H; exact H
   clear H
   have H := H1
   clear H1
   obtain ⟨ji7, hji7⟩ : ∃ j_ : Int, (wrap64 ((a0_1.size : Int) + (a1_1.size : Int))) = j_ := ⟨_, rfl⟩
   replace H : (if 0 ≤ (ji7) then (if (ji7 : Int).toNat ≤ 35184372088832 then (impl_TimesDecW.l0 k (List.replicate (ji7 : Int).toNat 0) (wrap64 ((a0_1.size : Int) - 1)) a0_0 a0_1 a0_2 a1_0 a1_1 a1_2) else (none)) else (none)) = some (r1, r2, r3, r4) := by first | (rw [hji7] at H; exact H) | (simp only [hji7] at H ⊢; exact H)
   (try rw [hji7] at A3)
   (try rw [hji7] at A5)
   have hji7w : (IntKind.i64.wrap ((a0_1.size : Int) + (a1_1.size : Int))) = ji7 := (i64_w _).trans hji7
   by_cases c8 : 0 ≤ (ji7)
   ·rw [if_pos c8] at H
    have c8b0 := eq_true c8
    have c8b1 : decide (0 ≤ (ji7)) = true := decide_eq_true c8
    clear c8
    by_cases c9 : (ji7 : Int).toNat ≤ 35184372088832
    ·rw [if_pos c9] at H
     have c9b0 := eq_true c9
     have c9b1 : decide ((ji7 : Int).toNat ≤ 35184372088832) = true := decide_eq_true c9
     clear c9
     obtain ⟨y243, hy243⟩ : ∃ y_ : List Int, y_ = (List.replicate (ji7 : Int).toNat 0) := ⟨_, rfl⟩
     replace H : (impl_TimesDecW.l0 k y243 (wrap64 ((a0_1.size : Int) - 1)) a0_0 a0_1 a0_2 a1_0 a1_1 a1_2) = some (r1, r2, r3, r4) := by first | (rw [hy243]; with_reducible exact H) | (have H2_ := (Option.bind_some _ _).symm.trans H; rw [hy243]; with_reducible exact H2_) | (have H2_ := (Option.bind_some _ _).symm.trans H; with_reducible exact H2_) | with_reducible exact H | (rw [hy243]; exact H) | exact H
     have Ny243 := Aside0.mk hy243
     clear hy243
     have H' := Aside0.mk H
     clear H
     go_enter Tryd.func17, Tryd.ntmps17
     go_wp2_with (first | ((with_reducible refine gate_dst (N := 2) rfl ?_); refine box_event ?hg (N := 2) ?hd (cs := #[.bool a0_0, .string a0_1, .int .i64 a0_2]) (t := 26) ?hr ?_; (case hd => rfl); (case hg => rfl); (case hr => first | (go_simp; done) | (go_simp; rfl)); intro gb238 hg w10 hbox hb; have n0_ := Aside0.mk (below_step (by repeat (first | (with_reducible first | exact HB.out | apply below_alloc | apply pw_below_drewN | apply below_drew1) | exact HB.out)) hb); have n1_ := Aside0.mk (hbox); have n2_ := Aside0.mk ((by rw [hg]; exact (below_size (by repeat (first | (with_reducible first | exact HB.out | apply below_alloc | apply pw_below_drewN | apply below_drew1) | exact HB.out))) : w.heap.size ≤ gb238)); have n3_ := Aside0.mk ((by rw [hg]; exact (below_size (by repeat (first | (with_reducible first | exact HB.out | apply below_alloc | apply pw_below_drewN | apply below_drew1) | exact HB.out))) : w.heap.size ≤ gb238)); clear HB; have HB := n0_; have BK238 := n1_; have GW238 := n2_; have GE238 := n3_; clear n0_ n1_ n2_ n3_; clear hb hbox hg) | ((with_reducible refine gate_dst (N := 3) rfl ?_); refine box_event ?hg (N := 3) ?hd (cs := #[.bool a1_0, .string a1_1, .int .i64 a1_2]) (t := 26) ?hr ?_; (case hd => rfl); (case hg => rfl); (case hr => first | (go_simp; done) | (go_simp; rfl)); intro gb239 hg w11 hbox hb; have n0_ := Aside0.mk (blk_below (g := gb238) (o := .cells #[.bool a0_0, .string a0_1, .int .i64 a0_2] 26 (0, 0)) (by refine blk_up ?_; exact BK238.out) hb); have n1_ := Aside0.mk (below_step (by repeat (first | (with_reducible first | exact HB.out | apply below_alloc | apply pw_below_drewN | apply below_drew1 | refine below_set ?_ GE238.out) | exact HB.out)) hb); have n2_ := Aside0.mk (hbox); have n3_ := Aside0.mk ((by rw [hg]; exact (below_size (by repeat (first | (with_reducible first | exact HB.out | apply below_alloc | apply pw_below_drewN | apply below_drew1 | refine below_set ?_ GE238.out) | exact HB.out))) : w.heap.size ≤ gb239)); have n4_ := Aside0.mk ((by rw [hg]; exact (below_size (by repeat (first | (with_reducible first | exact HB.out | apply below_alloc | apply pw_below_drewN | apply below_drew1 | refine below_set ?_ GE238.out) | exact HB.out))) : w.heap.size ≤ gb239)); have n5_ := Aside0.mk ((by rw [hg]; exact Nat.ne_of_lt (blk_lt (g := gb238) (o := .cells #[.bool a0_0, .string a0_1, .int .i64 a0_2] 26 (0, 0)) (by refine blk_up ?_; exact BK238.out)) : gb238 ≠ gb239)); have n6_ := Aside0.mk ((by rw [hg]; exact Nat.ne_of_gt (blk_lt (g := gb238) (o := .cells #[.bool a0_0, .string a0_1, .int .i64 a0_2] 26 (0, 0)) (by refine blk_up ?_; exact BK238.out)) : gb239 ≠ gb238)); clear BK238; clear HB; have BK238 := n0_; have HB := n1_; have BK239 := n2_; have GW239 := n3_; have GE239 := n4_; have NB238_239 := n5_; have NB239_238 := n6_; clear n0_ n1_ n2_ n3_ n4_ n5_ n6_; clear hb hbox hg) | ((with_reducible refine gate_dst (N := 4) rfl ?_); refine box_event ?hg (N := 4) ?hd (cs := #[.bool false, .string (⟨#[]⟩ : ByteArray), .int .i64 0]) (t := 26) ?hr ?_; (case hd => rfl); (case hg => rfl); (case hr => first | (go_simp; done) | (go_simp; rfl)); intro gb240 hg w12 hbox hb; have n0_ := Aside0.mk (blk_below (g := gb238) (o := .cells #[.bool a0_0, .string a0_1, .int .i64 a0_2] 26 (0, 0)) (by refine blk_up ?_; exact BK238.out) hb); have n1_ := Aside0.mk (blk_below (g := gb239) (o := .cells #[.bool a1_0, .string a1_1, .int .i64 a1_2] 26 (0, 0)) (by refine blk_up ?_; exact BK239.out) hb); have n2_ := Aside0.mk (below_step (by repeat (first | (with_reducible first | exact HB.out | apply below_alloc | apply pw_below_drewN | apply below_drew1 | refine below_set ?_ GE238.out | refine below_set ?_ GE239.out) | exact HB.out)) hb); have n3_ := Aside0.mk (hbox); have n4_ := Aside0.mk ((by rw [hg]; exact (below_size (by repeat (first | (with_reducible first | exact HB.out | apply below_alloc | apply pw_below_drewN | apply below_drew1 | refine below_set ?_ GE238.out | refine below_set ?_ GE239.out) | exact HB.out))) : w.heap.size ≤ gb240)); have n5_ := Aside0.mk ((by rw [hg]; exact (below_size (by repeat (first | (with_reducible first | exact HB.out | apply below_alloc | apply pw_below_drewN | apply below_drew1 | refine below_set ?_ GE238.out | refine below_set ?_ GE239.out) | exact HB.out))) : w.heap.size ≤ gb240)); have n6_ := Aside0.mk ((by rw [hg]; exact Nat.ne_of_lt (blk_lt (g := gb238) (o := .cells #[.bool a0_0, .string a0_1, .int .i64 a0_2] 26 (0, 0)) (by refine blk_up ?_; exact BK238.out)) : gb238 ≠ gb240)); have n7_ := Aside0.mk ((by rw [hg]; exact Nat.ne_of_gt (blk_lt (g := gb238) (o := .cells #[.bool a0_0, .string a0_1, .int .i64 a0_2] 26 (0, 0)) (by refine blk_up ?_; exact BK238.out)) : gb240 ≠ gb238)); have n8_ := Aside0.mk ((by rw [hg]; exact Nat.ne_of_lt (blk_lt (g := gb239) (o := .cells #[.bool a1_0, .string a1_1, .int .i64 a1_2] 26 (0, 0)) (by refine blk_up ?_; exact BK239.out)) : gb239 ≠ gb240)); have n9_ := Aside0.mk ((by rw [hg]; exact Nat.ne_of_gt (blk_lt (g := gb239) (o := .cells #[.bool a1_0, .string a1_1, .int .i64 a1_2] 26 (0, 0)) (by refine blk_up ?_; exact BK239.out)) : gb240 ≠ gb239)); clear BK238; clear BK239; clear HB; have BK238 := n0_; have BK239 := n1_; have HB := n2_; have BK240 := n3_; have GW240 := n4_; have GE240 := n5_; have NB238_240 := n6_; have NB240_238 := n7_; have NB239_240 := n8_; have NB240_239 := n9_; clear n0_ n1_ n2_ n3_ n4_ n5_ n6_ n7_ n8_ n9_; clear hb hbox hg; have hnb13 := NB238_239.out; have hnc13 := NB239_238.out; have hnb14 := NB238_240.out; have hnc14 := NB240_238.out; have hcz15_0 : w12.cell? ⟨gb238, 0, none⟩ = some (.bool a0_0) := (blk_cell BK238.out 0).trans rfl; have hcz15_1 : w12.cell? ⟨gb238, 1, none⟩ = some (.string a0_1) := (blk_cell BK238.out 1).trans rfl; have hcz15_2 : w12.cell? ⟨gb238, 2, none⟩ = some (.int .i64 a0_2) := (blk_cell BK238.out 2).trans rfl; have hfz15_0 := blk_frozen BK238.out 0; have hfz15_1 := blk_frozen BK238.out 1; have hfz15_2 := blk_frozen BK238.out 2) | ((with_reducible refine gate_callee (f := 27) rfl ?_); refine goesL_ (some 14) rfl rfl Tryd.func27 (by kernel_rfl) rfl #[.agg #[.bool a0_0, .string a0_1, .int .i64 a0_2]] rfl (by (try simp only [List.map_toArray, List.map_cons, List.map_nil]); first | done | rfl | (simp only [List.length_drop, List.length_take]; rfl)) ?_; (with_reducible refine (impl_DecOk.calls a0_0 a0_1 a0_2 true _ A3.out).mono ?_); rintro e w16 ⟨rfl, hb⟩; refine ⟨_, rfl, ?_⟩; have n0_ := Aside0.mk (blk_below (g := gb238) (o := .cells #[.bool a0_0, .string a0_1, .int .i64 a0_2] 26 (0, 0)) (by refine blk_up ?_; exact BK238.out) hb); have n1_ := Aside0.mk (blk_below (g := gb239) (o := .cells #[.bool a1_0, .string a1_1, .int .i64 a1_2] 26 (0, 0)) (by refine blk_up ?_; exact BK239.out) hb); have n2_ := Aside0.mk (blk_below (g := gb240) (o := .cells #[.bool false, .string (⟨#[]⟩ : ByteArray), .int .i64 0] 26 (0, 0)) (by refine blk_up ?_; exact BK240.out) hb); have n3_ := Aside0.mk (below_step (by repeat (first | (with_reducible first | exact HB.out | apply below_alloc | apply pw_below_drewN | apply below_drew1 | refine below_set ?_ GE238.out | refine below_set ?_ GE239.out | refine below_set ?_ GE240.out) | exact HB.out)) hb); clear BK238; clear BK239; clear BK240; clear HB; have BK238 := n0_; have BK239 := n1_; have BK240 := n2_; have HB := n3_; clear n0_ n1_ n2_ n3_; (try clear hb); (try clear hb2); (try clear hk); (try clear hi); have hnb17 := NB239_240.out; have hnc17 := NB240_239.out; have hcz18_0 : w16.cell? ⟨gb239, 0, none⟩ = some (.bool a1_0) := (blk_cell BK239.out 0).trans rfl; have hcz18_1 : w16.cell? ⟨gb239, 1, none⟩ = some (.string a1_1) := (blk_cell BK239.out 1).trans rfl; have hcz18_2 : w16.cell? ⟨gb239, 2, none⟩ = some (.int .i64 a1_2) := (blk_cell BK239.out 2).trans rfl; have hfz18_0 := blk_frozen BK239.out 0; have hfz18_1 := blk_frozen BK239.out 1; have hfz18_2 := blk_frozen BK239.out 2) | (go_at_call 27; (with_reducible refine (impl_DecOk.calls a1_0 a1_1 a1_2 true _ A5.out).mono ?_); rintro e w19 ⟨rfl, hb⟩; have n0_ := Aside0.mk (blk_below (g := gb238) (o := .cells #[.bool a0_0, .string a0_1, .int .i64 a0_2] 26 (0, 0)) (by refine blk_up ?_; exact BK238.out) hb); have n1_ := Aside0.mk (blk_below (g := gb239) (o := .cells #[.bool a1_0, .string a1_1, .int .i64 a1_2] 26 (0, 0)) (by refine blk_up ?_; exact BK239.out) hb); have n2_ := Aside0.mk (blk_below (g := gb240) (o := .cells #[.bool false, .string (⟨#[]⟩ : ByteArray), .int .i64 0] 26 (0, 0)) (by refine blk_up ?_; exact BK240.out) hb); have n3_ := Aside0.mk (below_step (by repeat (first | (with_reducible first | exact HB.out | apply below_alloc | apply pw_below_drewN | apply below_drew1 | refine below_set ?_ GE238.out | refine below_set ?_ GE239.out | refine below_set ?_ GE240.out) | exact HB.out)) hb); clear BK238; clear BK239; clear BK240; clear HB; have BK238 := n0_; have BK239 := n1_; have BK240 := n2_; have HB := n3_; clear n0_ n1_ n2_ n3_; (try clear hb); (try clear hb2); (try clear hk); (try clear hi); have hcz20_0 : w19.cell? ⟨gb238, 0, none⟩ = some (.bool a0_0) := (blk_cell BK238.out 0).trans rfl; have hcz20_1 : w19.cell? ⟨gb238, 1, none⟩ = some (.string a0_1) := (blk_cell BK238.out 1).trans rfl; have hcz20_2 : w19.cell? ⟨gb238, 2, none⟩ = some (.int .i64 a0_2) := (blk_cell BK238.out 2).trans rfl; have hfz20_0 := blk_frozen BK238.out 0; have hfz20_1 := blk_frozen BK238.out 1; have hfz20_2 := blk_frozen BK238.out 2; have hcz21_0 : w19.cell? ⟨gb239, 0, none⟩ = some (.bool a1_0) := (blk_cell BK239.out 0).trans rfl; have hcz21_1 : w19.cell? ⟨gb239, 1, none⟩ = some (.string a1_1) := (blk_cell BK239.out 1).trans rfl; have hcz21_2 : w19.cell? ⟨gb239, 2, none⟩ = some (.int .i64 a1_2) := (blk_cell BK239.out 2).trans rfl; have hfz21_0 := blk_frozen BK239.out 0; have hfz21_1 := blk_frozen BK239.out 1; have hfz21_2 := blk_frozen BK239.out 2) | ((with_reducible refine gate_dst (N := 29) rfl ?_); refine Kd.R_make (Kd.int .i64) _ 3 rfl (N := 29) rfl 64 _ _ rfl ji7 rfl rfl Tryd.underlying64 (.int .i64 0) 8 info3 rfl (by decide) (by omega) 0 (ok := fun _ => True) (okp := fun _ => True) rfl (fun _ hk => hk) trivial (of_decide_eq_true (by first | (with_reducible assumption) | assumption)) (Nat.le_trans (Nat.mul_le_mul_right _ (of_decide_eq_true (by first | (with_reducible assumption) | assumption) : ji7.toNat ≤ 35184372088832)) (by omega)) (Below.refl _ _) (Nat.le_refl _) ?_; intro v244 w22 ho23 hb hg_ hnew_; clear hg_ hnew_; (first | rw [← Ny243.out] at ho23 | (simp only [Int.reduceToNat] at ho23; rw [← Ny243.out] at ho23)); have n0_ := Aside0.mk (Kd.R_lower ho23 (below_size (by repeat (first | (with_reducible first | exact HB.out | apply below_alloc | apply pw_below_drewN | apply below_drew1 | refine below_set ?_ GE238.out | refine below_set ?_ GE239.out | refine below_set ?_ GE240.out) | exact HB.out)))); have n1_ := Aside0.mk (blk_below (g := gb238) (o := .cells #[.bool a0_0, .string a0_1, .int .i64 a0_2] 26 (0, 0)) (by refine blk_up ?_; exact BK238.out) hb); have n2_ := Aside0.mk (blk_below (g := gb239) (o := .cells #[.bool a1_0, .string a1_1, .int .i64 a1_2] 26 (0, 0)) (by refine blk_up ?_; exact BK239.out) hb); have n3_ := Aside0.mk (blk_below (g := gb240) (o := .cells #[.bool false, .string (⟨#[]⟩ : ByteArray), .int .i64 0] 26 (0, 0)) (by refine blk_up ?_; exact BK240.out) hb); have n4_ := Aside0.mk (below_step (by repeat (first | (with_reducible first | exact HB.out | apply below_alloc | apply pw_below_drewN | apply below_drew1 | refine below_set ?_ GE238.out | refine below_set ?_ GE239.out | refine below_set ?_ GE240.out) | exact HB.out)) hb); clear BK238; clear BK239; clear BK240; clear HB; have HO245 := n0_; have BK238 := n1_; have BK239 := n2_; have BK240 := n3_; have HB := n4_; clear n0_ n1_ n2_ n3_ n4_; clear hb ho23; have hcz24_0 : w22.cell? ⟨gb238, 0, none⟩ = some (.bool a0_0) := (blk_cell BK238.out 0).trans rfl; have hcz24_1 : w22.cell? ⟨gb238, 1, none⟩ = some (.string a0_1) := (blk_cell BK238.out 1).trans rfl; have hcz24_2 : w22.cell? ⟨gb238, 2, none⟩ = some (.int .i64 a0_2) := (blk_cell BK238.out 2).trans rfl; have hfz24_0 := blk_frozen BK238.out 0; have hfz24_1 := blk_frozen BK238.out 1; have hfz24_2 := blk_frozen BK238.out 2))
     go_loopg [7] k (fun kq v7 w' => ∃ (x6_1 : List Int) (x7_1 : Int), v7 = .int .i64 x7_1 ∧ Aside0 (impl_TimesDecW.l0 kq x6_1 x7_1 a0_0 a0_1 a0_2 a1_0 a1_1 a1_2 = some (r1, r2, r3, r4)) ∧ Aside0 (kq ≤ k) ∧ Aside0 (Kd.R (Kd.int .i64) 3 w' w.heap.size (fun _ => True) v244 x6_1) ∧ Aside0 (w'.heap[gb238]? = some (.cells #[.bool a0_0, .string a0_1, .int .i64 a0_2] 26 (0, 0))) ∧ Aside0 (w'.heap[gb239]? = some (.cells #[.bool a1_0, .string a1_1, .int .i64 a1_2] 26 (0, 0))) ∧ Aside0 (w'.heap[gb240]? = some (.cells #[.bool false, .string (⟨#[]⟩ : ByteArray), .int .i64 0] 26 (0, 0))) ∧ Aside0 (Below w.heap.size w w'))
     case atStart => exact ⟨(y243), (wrap64 ((a0_1.size : Int) - 1)), (by first | rfl | (simp; done) | (simp [*]; done)), H', ⟨Nat.le_refl _⟩, ⟨by (with_reducible repeat (first | apply Kd.R_alloc | apply Kd.R_drewN | apply Kd.R_drew)); exact HO245.out⟩, ⟨by refine blk_up ?_; exact BK238.out⟩, ⟨by refine blk_up ?_; exact BK239.out⟩, ⟨by refine blk_up ?_; exact BK240.out⟩, ⟨by repeat (first | (with_reducible first | exact HB.out | apply below_alloc | apply pw_below_drewN | apply below_drew1 | refine below_set ?_ GE238.out | refine below_set ?_ GE239.out | refine below_set ?_ GE240.out) | exact HB.out)⟩⟩
     case round =>
      clear H'
      try clear c1
      try clear c2
      try clear p2
      try clear c4
      try clear c6
      try clear p6
      try clear c8
      try clear c8b0
      try clear c8b1
      try clear c9
      try clear c9b0
      try clear c9b1
      try clear c13
      try clear c14
      try clear c17
      try clear hcz15_0
      try clear hcz15_1
      try clear hcz15_2
      try clear hcz18_0
      try clear hcz18_1
      try clear hcz18_2
      try clear hcz20_0
      try clear hcz20_1
      try clear hcz20_2
      try clear hcz21_0
      try clear hcz21_1
      try clear hcz21_2
      try clear hcz24_0
      try clear hcz24_1
      try clear hcz24_2
      try clear hfz15_0
      try clear hfz15_1
      try clear hfz15_2
      try clear hfz18_0
      try clear hfz18_1
      try clear hfz18_2
      try clear hfz20_0
      try clear hfz20_1
      try clear hfz20_2
      try clear hfz21_0
      try clear hfz21_1
      try clear hfz21_2
      try clear hfz24_0
      try clear hfz24_1
      try clear hfz24_2
      obtain ⟨x6_1, x7_1, rfl, HA, HK1, HO_6, BK238, BK239, BK240, HB⟩ := hrel
      cases gk with
      | zero => exact absurd HA.out (by simp [impl_TimesDecW.l0])
      | succ k1 =>
       have H := HA.out
       clear HA
       simp only [impl_TimesDecW.l0] at H
       by_cases c25 : x7_1 ≥ 0
       ·rw [if_pos c25] at H
        have c25b0 : decide (0 ≤ x7_1) = true := decide_eq_true c25
        clear c25
        have H' := Aside0.mk H
        clear H
        have hnb26 := NB239_238.out
        have hnc26 := NB238_239.out
        have hnb27 := NB239_240.out
        have hnc27 := NB240_239.out
        have hcz28_0 : wr.cell? ⟨gb239, 0, none⟩ = some (.bool a1_0) := (blk_cell BK239.out 0).trans rfl
        have hcz28_1 : wr.cell? ⟨gb239, 1, none⟩ = some (.string a1_1) := (blk_cell BK239.out 1).trans rfl
        have hcz28_2 : wr.cell? ⟨gb239, 2, none⟩ = some (.int .i64 a1_2) := (blk_cell BK239.out 2).trans rfl
        have hfz28_0 := blk_frozen BK239.out 0
        have hfz28_1 := blk_frozen BK239.out 1
        have hfz28_2 := blk_frozen BK239.out 2
        go_wp2
        go_loopg [8] k1 (fun kq v8 w' => ∃ (x6_2 : List Int) (x8_2 : Int), v8 = .int .i64 x8_2 ∧ Aside0 (impl_TimesDecW.l1 kq x6_2 x7_1 x8_2 a0_0 a0_1 a0_2 a1_0 a1_1 a1_2 = some (r1, r2, r3, r4)) ∧ Aside0 (kq ≤ k1) ∧ Aside0 (Kd.R (Kd.int .i64) 3 w' w.heap.size (fun _ => True) v244 x6_2) ∧ Aside0 (w'.heap[gb238]? = some (.cells #[.bool a0_0, .string a0_1, .int .i64 a0_2] 26 (0, 0))) ∧ Aside0 (w'.heap[gb239]? = some (.cells #[.bool a1_0, .string a1_1, .int .i64 a1_2] 26 (0, 0))) ∧ Aside0 (w'.heap[gb240]? = some (.cells #[.bool false, .string (⟨#[]⟩ : ByteArray), .int .i64 0] 26 (0, 0))) ∧ Aside0 (Below w.heap.size w w'))
        case atStart => exact ⟨(x6_1), (wrap64 ((a1_1.size : Int) - 1)), (by first | rfl | (simp; done) | (simp [*]; done)), H', ⟨Nat.le_refl _⟩, ⟨by (with_reducible repeat (first | apply Kd.R_alloc | apply Kd.R_drewN | apply Kd.R_drew)); exact HO_6.out⟩, ⟨by refine blk_up ?_; exact BK238.out⟩, ⟨by refine blk_up ?_; exact BK239.out⟩, ⟨by refine blk_up ?_; exact BK240.out⟩, ⟨by repeat (first | (with_reducible first | exact HB.out | apply below_alloc | apply pw_below_drewN | apply below_drew1 | refine below_set ?_ GE238.out | refine below_set ?_ GE239.out | refine below_set ?_ GE240.out) | exact HB.out)⟩⟩
        case round =>
         clear H'
         try clear c1
         try clear c2
         try clear p2
         try clear c4
         try clear c6
         try clear p6
         try clear c8
         try clear c8b0
         try clear c8b1
         try clear c9
         try clear c9b0
         try clear c9b1
         try clear c13
         try clear c14
         try clear c17
         try clear c25
         try clear c25b0
         try clear c26
         try clear c27
         try clear hcz15_0
         try clear hcz15_1
         try clear hcz15_2
         try clear hcz18_0
         try clear hcz18_1
         try clear hcz18_2
         try clear hcz20_0
         try clear hcz20_1
         try clear hcz20_2
         try clear hcz21_0
         try clear hcz21_1
         try clear hcz21_2
         try clear hcz24_0
         try clear hcz24_1
         try clear hcz24_2
         try clear hcz28_0
         try clear hcz28_1
         try clear hcz28_2
         try clear hfz15_0
         try clear hfz15_1
         try clear hfz15_2
         try clear hfz18_0
         try clear hfz18_1
         try clear hfz18_2
         try clear hfz20_0
         try clear hfz20_1
         try clear hfz20_2
         try clear hfz21_0
         try clear hfz21_1
         try clear hfz21_2
         try clear hfz24_0
         try clear hfz24_1
         try clear hfz24_2
         try clear hfz28_0
         try clear hfz28_1
         try clear hfz28_2
         try clear p2
         try clear p6
         obtain ⟨x6_2, x8_2, rfl, HA, HK2, HO_6, BK238, BK239, BK240, HB⟩ := hrel
         cases gk with
         | zero => exact absurd HA.out (by simp [impl_TimesDecW.l1])
         | succ k2 =>
          have H := HA.out
          clear HA
          simp only [impl_TimesDecW.l1] at H
          by_cases c29 : x8_2 ≥ 0
          ·rw [if_pos c29] at H
           have c29b0 : decide (0 ≤ x8_2) = true := decide_eq_true c29
           clear c29
           obtain ⟨ji30, hji30⟩ : ∃ j_ : Int, (wrap64 ((wrap64 (x7_1 + x8_2)) + 1)) = j_ := ⟨_, rfl⟩
           replace H : (if 0 ≤ (ji30) then (if (ji30) < (x6_2.length : Int) then (if 0 ≤ x7_1 then (if x7_1 < (a0_1.size : Int) then (if 0 ≤ x8_2 then (if x8_2 < (a1_1.size : Int) then ((some (x6_2.set ((ji30) : Int).toNat (Int.tmod (wrap64 ((rd x6_2 (ji30)) + (wrap64 ((((bt a0_1 x7_1) - 48) % 256) * (((bt a1_1 x8_2) - 48) % 256))))) 10) : List Int)).bind fun y247 => (if 0 ≤ (wrap64 (x7_1 + x8_2)) then (if (wrap64 (x7_1 + x8_2)) < (x6_2.length : Int) then (impl_TimesDecW.l1 k2 (y247.set ((wrap64 (x7_1 + x8_2)) : Int).toNat (wrap64 ((rd y247 (wrap64 (x7_1 + x8_2))) + (wrap64 (Int.tdiv (wrap64 ((rd x6_2 (ji30)) + (wrap64 ((((bt a0_1 x7_1) - 48) % 256) * (((bt a1_1 x8_2) - 48) % 256))))) 10))))) x7_1 (wrap64 (x8_2 - 1)) a0_0 a0_1 a0_2 a1_0 a1_1 a1_2) else (none)) else (none))) else (none)) else (none)) else (none)) else (none)) else (none)) else (none)) = some (r1, r2, r3, r4) := by first | (rw [hji30] at H; exact H) | (simp only [hji30] at H ⊢; exact H)
           have hji30w : (IntKind.i64.wrap ((wrap64 (x7_1 + x8_2)) + 1)) = ji30 := (i64_w _).trans hji30
           by_cases c31 : 0 ≤ (ji30)
           ·rw [if_pos c31] at H
            have c31b0 : decide (0 ≤ (ji30)) = true := decide_eq_true c31
            clear c31
            by_cases c32 : (ji30) < (x6_2.length : Int)
            ·rw [if_pos c32] at H
             have c32b0 : decide ((ji30) < (x6_2.length : Int)) = true := decide_eq_true c32
             clear c32
             by_cases c33 : 0 ≤ x7_1
             ·rw [if_pos c33] at H
              have c33b0 : decide (0 ≤ x7_1) = true := decide_eq_true c33
              clear c33
              by_cases c34 : x7_1 < (a0_1.size : Int)
              ·rw [if_pos c34] at H
               have c34b0 : decide (x7_1 < (a0_1.size : Int)) = true := decide_eq_true c34
               clear c34
               by_cases c36 : 0 ≤ x8_2
               ·rw [if_pos c36] at H
                have c36b0 : decide (0 ≤ x8_2) = true := decide_eq_true c36
                clear c36
                by_cases c37 : x8_2 < (a1_1.size : Int)
                ·rw [if_pos c37] at H
                 have c37b0 : decide (x8_2 < (a1_1.size : Int)) = true := decide_eq_true c37
                 clear c37
                 obtain ⟨y247, hy247⟩ : ∃ y_ : List Int, y_ = (x6_2.set ((ji30) : Int).toNat (Int.tmod (wrap64 ((rd x6_2 (ji30)) + (wrap64 ((((bt a0_1 x7_1) - 48) % 256) * (((bt a1_1 x8_2) - 48) % 256))))) 10)) := ⟨_, rfl⟩
                 replace H : (if 0 ≤ (wrap64 (x7_1 + x8_2)) then (if (wrap64 (x7_1 + x8_2)) < (x6_2.length : Int) then (impl_TimesDecW.l1 k2 (y247.set ((wrap64 (x7_1 + x8_2)) : Int).toNat (wrap64 ((rd y247 (wrap64 (x7_1 + x8_2))) + (wrap64 (Int.tdiv (wrap64 ((rd x6_2 (ji30)) + (wrap64 ((((bt a0_1 x7_1) - 48) % 256) * (((bt a1_1 x8_2) - 48) % 256))))) 10))))) x7_1 (wrap64 (x8_2 - 1)) a0_0 a0_1 a0_2 a1_0 a1_1 a1_2) else (none)) else (none)) = some (r1, r2, r3, r4) := by first | (rw [hy247]; with_reducible exact H) | (have H2_ := (Option.bind_some _ _).symm.trans H; rw [hy247]; with_reducible exact H2_) | (have H2_ := (Option.bind_some _ _).symm.trans H; with_reducible exact H2_) | with_reducible exact H | (rw [hy247]; exact H) | exact H
                 have Ny247 := Aside0.mk hy247
                 clear hy247
                 obtain ⟨ji40, hji40⟩ : ∃ j_ : Int, (wrap64 (x7_1 + x8_2)) = j_ := ⟨_, rfl⟩
                 replace H : (if 0 ≤ (ji40) then (if (ji40) < (x6_2.length : Int) then (impl_TimesDecW.l1 k2 (y247.set ((ji40) : Int).toNat (wrap64 ((rd y247 (ji40)) + (wrap64 (Int.tdiv (wrap64 ((rd x6_2 (ji30)) + (wrap64 ((((bt a0_1 x7_1) - 48) % 256) * (((bt a1_1 x8_2) - 48) % 256))))) 10))))) x7_1 (wrap64 (x8_2 - 1)) a0_0 a0_1 a0_2 a1_0 a1_1 a1_2) else (none)) else (none)) = some (r1, r2, r3, r4) := by first | (rw [hji40] at H; exact H) | (simp only [hji40] at H ⊢; exact H)
                 have hji40w : (IntKind.i64.wrap (x7_1 + x8_2)) = ji40 := (i64_w _).trans hji40
                 have hji30x : wrap64 (ji40 + 1) = ji30 := by rw [← hji40]; exact hji30
                 have hji30y : (IntKind.i64.wrap (ji40 + 1)) = ji30 := (i64_w _).trans hji30x
                 by_cases c41 : 0 ≤ (ji40)
                 ·rw [if_pos c41] at H
                  have c41b0 : decide (0 ≤ (ji40)) = true := decide_eq_true c41
                  clear c41
                  by_cases c42 : (ji40) < (x6_2.length : Int)
                  ·rw [if_pos c42] at H
                   have c42b0 : decide ((ji40) < (x6_2.length : Int)) = true := decide_eq_true c42
                   clear c42
                   obtain ⟨y249, hy249⟩ : ∃ y_ : List Int, y_ = (y247.set ((ji40) : Int).toNat (wrap64 ((rd y247 (ji40)) + (wrap64 (Int.tdiv (wrap64 ((rd x6_2 (ji30)) + (wrap64 ((((bt a0_1 x7_1) - 48) % 256) * (((bt a1_1 x8_2) - 48) % 256))))) 10))))) := ⟨_, rfl⟩
                   replace H : (impl_TimesDecW.l1 k2 y249 x7_1 (wrap64 (x8_2 - 1)) a0_0 a0_1 a0_2 a1_0 a1_1 a1_2) = some (r1, r2, r3, r4) := by first | (rw [hy249]; with_reducible exact H) | (have H2_ := (Option.bind_some _ _).symm.trans H; rw [hy249]; with_reducible exact H2_) | (have H2_ := (Option.bind_some _ _).symm.trans H; with_reducible exact H2_) | with_reducible exact H | (rw [hy249]; exact H) | exact H
                   have Ny249 := Aside0.mk hy249
                   clear hy249
                   have H' := Aside0.mk H
                   clear H
                   try go_wp2
                   have n0_ := Aside0.mk (Kd.R_drew HO_6.out)
                   have n1_ := Aside0.mk (blk_drew BK238.out)
                   have n2_ := Aside0.mk (blk_drew BK239.out)
                   have n3_ := Aside0.mk (blk_drew BK240.out)
                   have n4_ := Aside0.mk (below_drew1 HB.out)
                   clear HO_6
                   clear BK238
                   clear BK239
                   clear BK240
                   clear HB
                   have HO_6 := n0_
                   have BK238 := n1_
                   have BK239 := n2_
                   have BK240 := n3_
                   have HB := n4_
                   clear n0_ n1_ n2_ n3_ n4_
                   obtain ⟨Ao45, co45, eo45⟩ := Kd.R_slice HO_6.out
                   (first | subst eo45 | (injection eo45 with f1_ f2_ f3_; have f4_ := f1_.symm; have f5_ := f3_.symm; clear f1_ f2_ f3_; subst f4_; subst f5_))
                   have p246 : 0 ≤ ((ji30) : Int) := of_decide_eq_true (by first | (with_reducible assumption) | assumption)
                   have q246 : (ji30) < (x6_2.length : Int) := of_decide_eq_true (by first | (with_reducible assumption) | assumption)
                   obtain ⟨ad246, e246, hx246_0⟩ := Kd.at_int (Kd.R_reads' HO_6.out).2.2 (ji30) p246 q246
                   cases e246
                   replace p246 := eq_true p246
                   replace q246 := eq_true q246
                   have p35 : 0 ≤ (x7_1 : Int) := of_decide_eq_true (by first | (with_reducible assumption) | assumption)
                   have q35 : x7_1 < (a0_1.size : Int) := of_decide_eq_true (by first | (with_reducible assumption) | assumption)
                   have hx35 := bt_at a0_1 x7_1
                   replace p35 := eq_true p35
                   replace q35 := eq_true q35
                   have p38 : 0 ≤ (x8_2 : Int) := of_decide_eq_true (by first | (with_reducible assumption) | assumption)
                   have q38 : x8_2 < (a1_1.size : Int) := of_decide_eq_true (by first | (with_reducible assumption) | assumption)
                   have hx38 := bt_at a1_1 x8_2
                   replace p38 := eq_true p38
                   replace q38 := eq_true q38
                   refine start_ (n := 22) (S := fun w' => w'.cell? ⟨gb238, 0, none⟩ = some (.bool a0_0) ∧ w'.cell? ⟨gb238, 1, none⟩ = some (.string a0_1) ∧ w'.cell? ⟨gb238, 2, none⟩ = some (.int .i64 a0_2) ∧ w'.cell? ⟨gb239, 0, none⟩ = some (.bool a1_0) ∧ w'.cell? ⟨gb239, 1, none⟩ = some (.string a1_1) ∧ w'.cell? ⟨gb239, 2, none⟩ = some (.int .i64 a1_2) ∧ w'.cell? (ad246.add ((ji30)).toNat) = some (.int .i64 (rd x6_2 (ji30)))) (ds := []) #[false, false, false, false, false, false, false, false, false, false, false, false, false, false, false, false, false, false, false, false, false, false] (by kernel_rfl) rfl rfl ⟨(blk_cell BK238.out 0).trans rfl, (blk_cell BK238.out 1).trans rfl, (blk_cell BK238.out 2).trans rfl, (blk_cell BK239.out 0).trans rfl, (blk_cell BK239.out 1).trans rfl, (blk_cell BK239.out 2).trans rfl, hx246_0⟩ (fun hHeld => ?_); refine with_tabW impl_TimesDecW.tab10 impl_TimesDecW.bits10 (fun HT_ HW_ => ?_)
                   generalize wr.drew = w44 at HO_6 BK238 BK239 BK240 HB hx246_0 hHeld ⊢
                   refine pure_ (i := 0) (N := some 46) (v := ?_) (a' := ?_) #[true, false, false, false, false, false, false, false, false, false, false, false, false, false, false, false, false, false, false, false, false, false] rfl rfl (any_of HT_.out (by kernel_rfl)) (fun _ _ _ h => h) (Or.inl ⟨by rfl, ?_⟩) ?_ ?_
                   rotate_left
                   ·intro w'
                    go_simp
                    with_reducible rfl
                   rotate_left
                   ·simp only [Act.put, List.setIfInBounds_toArray, List.set_cons_zero, List.set_cons_succ, i64_w, i32_w]
                    rfl
                   refine pure_ (i := 1) (N := some 47) (v := ?_) (a' := ?_) #[true, true, false, false, false, false, false, false, false, false, false, false, false, false, false, false, false, false, false, false, false, false] rfl rfl (any_of HT_.out (by kernel_rfl)) (fun _ _ _ h => h) (Or.inl ⟨by rfl, ?_⟩) ?_ ?_
                   rotate_left
                   ·intro w'
                    go_simp
                    with_reducible rfl
                   rotate_left
                   ·simp only [Act.put, List.setIfInBounds_toArray, List.set_cons_zero, List.set_cons_succ, i64_w, i32_w]
                    rfl
                   refine pure_ (i := 2) (N := some 48) (v := ?_) (a' := ?_) #[true, true, true, false, false, false, false, false, false, false, false, false, false, false, false, false, false, false, false, false, false, false] rfl rfl (any_of HT_.out (by kernel_rfl)) (fun _ _ _ h => h) (Or.inl ⟨by rfl, ?_⟩) ?_ ?_
                   rotate_left
                   ·intro w'
                    go_simp
                    with_reducible rfl
                   rotate_left
                   ·simp only [Act.put, List.setIfInBounds_toArray, List.set_cons_zero, List.set_cons_succ, i64_w, i32_w]
                    rfl
                   refine pure_ (i := 3) (N := some 49) (v := ?_) (a' := ?_) #[true, true, true, true, false, false, false, false, false, false, false, false, false, false, false, false, false, false, false, false, false, false] rfl rfl (any_of HT_.out (by kernel_rfl)) (fun _ _ _ h => h) (Or.inl ⟨by rfl, ?_⟩) ?_ ?_
                   rotate_left
                   ·intro w'
                    go_simp
                    with_reducible rfl
                   rotate_left
                   ·simp only [Act.put, List.setIfInBounds_toArray, List.set_cons_zero, List.set_cons_succ, i64_w, i32_w]
                    rfl
                   refine pure_ (i := 4) (N := some 50) (v := ?_) (a' := ?_) #[true, true, true, true, true, false, false, false, false, false, false, false, false, false, false, false, false, false, false, false, false, false] rfl rfl (any_of HT_.out (by kernel_rfl)) (fun _ _ _ h => h) (Or.inl ⟨by rfl, ?_⟩) ?_ ?_
                   rotate_left
                   ·intro w'
                    go_simp
                    with_reducible rfl
                   rotate_left
                   ·simp only [Act.put, List.setIfInBounds_toArray, List.set_cons_zero, List.set_cons_succ, i64_w, i32_w]
                    rfl
                   refine pure_ (i := 5) (N := some 51) (v := ?_) (a' := ?_) #[true, true, true, true, true, true, false, false, false, false, false, false, false, false, false, false, false, false, false, false, false, false] rfl rfl (any_of HT_.out (by kernel_rfl)) (fun _ _ _ h => h) (Or.inl ⟨by rfl, ?_⟩) ?_ ?_
                   rotate_left
                   ·intro w'
                    go_simp
                    with_reducible rfl
                   rotate_left
                   ·simp only [Act.put, List.setIfInBounds_toArray, List.set_cons_zero, List.set_cons_succ, i64_w, i32_w]
                    rfl
                   refine pure_ (i := 7) (N := some 53) (v := ?_) (a' := ?_) #[true, true, true, true, true, true, false, true, false, false, false, false, false, false, false, false, false, false, false, false, false, false] rfl rfl (any_of HT_.out (by kernel_rfl)) (fun _ _ _ h => h) (Or.inl ⟨by rfl, ?_⟩) ?_ ?_
                   rotate_left
                   ·intro w'
                    go_simp
                    with_reducible rfl
                   rotate_left
                   ·simp only [Act.put, List.setIfInBounds_toArray, List.set_cons_zero, List.set_cons_succ, i64_w, i32_w]
                    rfl
                   refine pure_ (i := 9) (N := some 55) (v := ?_) (a' := ?_) #[true, true, true, true, true, true, false, true, false, true, false, false, false, false, false, false, false, false, false, false, false, false] rfl rfl (any_of HT_.out (by kernel_rfl)) (fun _ _ _ h => h) (Or.inl ⟨by rfl, ?_⟩) ?_ ?_
                   rotate_left
                   ·intro w'
                    go_simp
                    with_reducible rfl
                   rotate_left
                   ·simp only [Act.put, List.setIfInBounds_toArray, List.set_cons_zero, List.set_cons_succ, i64_w, i32_w]
                    rfl
                   refine pure_ (i := 13) (N := some 59) (v := ?_) (a' := ?_) #[true, true, true, true, true, true, false, true, false, true, false, false, false, true, false, false, false, false, false, false, false, false] rfl rfl (any_of HT_.out (by kernel_rfl)) (fun _ _ _ h => h) (Or.inl ⟨by rfl, ?_⟩) ?_ ?_
                   rotate_left
                   ·intro w'
                    go_simp
                    with_reducible rfl
                   rotate_left
                   ·simp only [Act.put, List.setIfInBounds_toArray, List.set_cons_zero, List.set_cons_succ, i64_w, i32_w]
                    rfl
                   refine pure_ (i := 15) (N := some 61) (v := ?_) (a' := ?_) #[true, true, true, true, true, true, false, true, false, true, false, false, false, true, false, true, false, false, false, false, false, false] rfl rfl (any_of HT_.out (by kernel_rfl)) (fun _ _ _ h => h) (Or.inl ⟨by rfl, ?_⟩) ?_ ?_
                   rotate_left
                   ·intro w'
                    go_simp
                    with_reducible rfl
                   rotate_left
                   ·simp only [Act.put, List.setIfInBounds_toArray, List.set_cons_zero, List.set_cons_succ, i64_w, i32_w]
                    rfl
                   refine take_ (i := 6) (N := some 52) (v := ?_) (a' := ?_) #[true, true, true, true, true, true, true, true, false, true, false, false, false, true, false, true, false, false, false, false, false, false] rfl rfl (take_ofW HT_.out HW_.out (by kernel_rfl)) (fun _ _ _ h => h) (Or.inl ⟨by rfl, ?_⟩) hHeld ?_ ?_
                   rotate_left
                   ·rintro w' ⟨s0, s1, s2, s3, s4, s5, s6⟩
                    go_simp
                    with_reducible rfl
                   rotate_left
                   ·simp only [Act.put, List.setIfInBounds_toArray, List.set_cons_zero, List.set_cons_succ, i64_w, i32_w]
                    rfl
                   refine take_ (i := 8) (N := some 54) (v := ?_) (a' := ?_) #[true, true, true, true, true, true, true, true, true, true, false, false, false, true, false, true, false, false, false, false, false, false] rfl rfl (take_ofW HT_.out HW_.out (by kernel_rfl)) (fun _ _ _ h => h) (Or.inl ⟨by rfl, ?_⟩) hHeld ?_ ?_
                   rotate_left
                   ·rintro w' ⟨s0, s1, s2, s3, s4, s5, s6⟩
                    go_simp
                    with_reducible rfl
                   rotate_left
                   ·simp only [Act.put, List.setIfInBounds_toArray, List.set_cons_zero, List.set_cons_succ, i64_w, i32_w]
                    rfl
                   refine take_ (i := 10) (N := some 56) (v := ?_) (a' := ?_) #[true, true, true, true, true, true, true, true, true, true, true, false, false, true, false, true, false, false, false, false, false, false] rfl rfl (take_ofW HT_.out HW_.out (by kernel_rfl)) (fun _ _ _ h => h) (Or.inl ⟨by rfl, ?_⟩) hHeld ?_ ?_
                   rotate_left
                   ·rintro w' ⟨s0, s1, s2, s3, s4, s5, s6⟩
                    go_simp
                    with_reducible rfl
                   rotate_left
                   ·simp only [Act.put, List.setIfInBounds_toArray, List.set_cons_zero, List.set_cons_succ, i64_w, i32_w]
                    rfl
                   refine pure_ (i := 11) (N := some 57) (v := ?_) (a' := ?_) #[true, true, true, true, true, true, true, true, true, true, true, true, false, true, false, true, false, false, false, false, false, false] rfl rfl (any_of HT_.out (by kernel_rfl)) (fun _ _ _ h => h) (Or.inl ⟨by rfl, ?_⟩) ?_ ?_
                   rotate_left
                   ·intro w'
                    go_simp
                    with_reducible rfl
                   rotate_left
                   ·simp only [Act.put, List.setIfInBounds_toArray, List.set_cons_zero, List.set_cons_succ, i64_w, i32_w]
                    rfl
                   refine pure_ (i := 12) (N := some 58) (v := ?_) (a' := ?_) #[true, true, true, true, true, true, true, true, true, true, true, true, true, true, false, true, false, false, false, false, false, false] rfl rfl (any_of HT_.out (by kernel_rfl)) (fun _ _ _ h => h) (Or.inl ⟨by rfl, ?_⟩) ?_ ?_
                   rotate_left
                   ·intro w'
                    go_simp
                    with_reducible rfl
                   rotate_left
                   ·simp only [Act.put, List.setIfInBounds_toArray, List.set_cons_zero, List.set_cons_succ, i64_w, i32_w]
                    rfl
                   refine take_ (i := 14) (N := some 60) (v := ?_) (a' := ?_) #[true, true, true, true, true, true, true, true, true, true, true, true, true, true, true, true, false, false, false, false, false, false] rfl rfl (take_ofW HT_.out HW_.out (by kernel_rfl)) (fun _ _ _ h => h) (Or.inl ⟨by rfl, ?_⟩) hHeld ?_ ?_
                   rotate_left
                   ·rintro w' ⟨s0, s1, s2, s3, s4, s5, s6⟩
                    go_simp
                    with_reducible rfl
                   rotate_left
                   ·simp only [Act.put, List.setIfInBounds_toArray, List.set_cons_zero, List.set_cons_succ, i64_w, i32_w]
                    rfl
                   refine take_ (i := 16) (N := some 62) (v := ?_) (a' := ?_) #[true, true, true, true, true, true, true, true, true, true, true, true, true, true, true, true, true, false, false, false, false, false] rfl rfl (take_ofW HT_.out HW_.out (by kernel_rfl)) (fun _ _ _ h => h) (Or.inl ⟨by rfl, ?_⟩) hHeld ?_ ?_
                   rotate_left
                   ·rintro w' ⟨s0, s1, s2, s3, s4, s5, s6⟩
                    go_simp
                    with_reducible rfl
                   rotate_left
                   ·simp only [Act.put, List.setIfInBounds_toArray, List.set_cons_zero, List.set_cons_succ, i64_w, i32_w]
                    rfl
                   refine pure_ (i := 17) (N := some 63) (v := ?_) (a' := ?_) #[true, true, true, true, true, true, true, true, true, true, true, true, true, true, true, true, true, true, false, false, false, false] rfl rfl (any_of HT_.out (by kernel_rfl)) (fun _ _ _ h => h) (Or.inl ⟨by rfl, ?_⟩) ?_ ?_
                   rotate_left
                   ·intro w'
                    go_simp
                    with_reducible rfl
                   rotate_left
                   ·simp only [Act.put, List.setIfInBounds_toArray, List.set_cons_zero, List.set_cons_succ, i64_w, i32_w]
                    rfl
                   refine pure_ (i := 18) (N := some 64) (v := ?_) (a' := ?_) #[true, true, true, true, true, true, true, true, true, true, true, true, true, true, true, true, true, true, true, false, false, false] rfl rfl (any_of HT_.out (by kernel_rfl)) (fun _ _ _ h => h) (Or.inl ⟨by rfl, ?_⟩) ?_ ?_
                   rotate_left
                   ·intro w'
                    go_simp
                    with_reducible rfl
                   rotate_left
                   ·simp only [Act.put, List.setIfInBounds_toArray, List.set_cons_zero, List.set_cons_succ, i64_w, i32_w]
                    rfl
                   refine pure_ (i := 19) (N := some 65) (v := ?_) (a' := ?_) #[true, true, true, true, true, true, true, true, true, true, true, true, true, true, true, true, true, true, true, true, false, false] rfl rfl (any_of HT_.out (by kernel_rfl)) (fun _ _ _ h => h) (Or.inl ⟨by rfl, ?_⟩) ?_ ?_
                   rotate_left
                   ·intro w'
                    go_simp
                    with_reducible rfl
                   rotate_left
                   ·simp only [Act.put, List.setIfInBounds_toArray, List.set_cons_zero, List.set_cons_succ, i64_w, i32_w]
                    rfl
                   refine pure_ (i := 20) (N := some 66) (v := ?_) (a' := ?_) #[true, true, true, true, true, true, true, true, true, true, true, true, true, true, true, true, true, true, true, true, true, false] rfl rfl (any_of HT_.out (by kernel_rfl)) (fun _ _ _ h => h) (Or.inl ⟨by rfl, ?_⟩) ?_ ?_
                   rotate_left
                   ·intro w'
                    go_simp
                    with_reducible rfl
                   rotate_left
                   ·simp only [Act.put, List.setIfInBounds_toArray, List.set_cons_zero, List.set_cons_succ, i64_w, i32_w]
                    rfl
                   refine pure_ (i := 21) (N := some 9) (v := ?_) (a' := ?_) #[true, true, true, true, true, true, true, true, true, true, true, true, true, true, true, true, true, true, true, true, true, true] rfl rfl (any_of HT_.out (by kernel_rfl)) (fun _ _ _ h => h) (Or.inl ⟨by rfl, ?_⟩) ?_ ?_
                   rotate_left
                   ·intro w'
                    go_simp
                    with_reducible rfl
                   rotate_left
                   ·simp only [Act.put, List.setIfInBounds_toArray, List.set_cons_zero, List.set_cons_succ, i64_w, i32_w]
                    rfl
                   refine done_ (done_of HT_.out (by kernel_rfl)) ?_
                   have p39 : 0 ≤ ((ji30) : Int) := of_decide_eq_true (by first | (with_reducible assumption) | assumption)
                   have q39 : ((ji30) : Int) < ((x6_2.length : Int) : Int) := of_decide_eq_true (by first | (with_reducible assumption) | assumption)
                   obtain ⟨go39, co39, eo39, gb39, gl39, cl39, HG39⟩ := Kd.R_form HO_6.out (by omega)
                   (first | cases eo39 | (injection eo39 with ea_ en_ ec_; (first | subst ea_ | (injection ea_ with ea_; subst ea_)); subst ec_; clear en_))
                   have GB39 := Aside0.mk gb39
                   have GG39 := Aside0.mk HG39
                   clear gb39 gl39 HG39
                   (first | simp only [add_plain] at hx246_0 | skip)
                   obtain ⟨hx39_0, hf39_0⟩ := Kd.R_celln 0 HO_6.out ((ji30) : Int) p39 q39
                   replace p39 := eq_true p39
                   replace q39 := eq_true q39
                   obtain ⟨hy46_, hz46_⟩ := Kd.R_celln 0 HO_6.out ((ji30) : Int) (of_decide_eq_true (by first | (with_reducible assumption) | assumption)) (of_decide_eq_true (by first | (with_reducible assumption) | assumption))
                   have HP46 := Kd.R_putg HO_6.out ((ji30) : Int) (Int.tmod (wrap64 ((rd x6_2 (ji30)) + (wrap64 ((((bt a0_1 x7_1) - 48) % 256) * (((bt a1_1 x8_2) - 48) % 256))))) 10)
                   try go_wp2_with (first | ((with_reducible refine gate_store (t := 3) (p := 74) rfl ?_); refine store_event (t := 3) (p := 74) (v := ?vo_w47) (w1 := (w44.setCell ⟨go39, ((ji30) : Int).toNat, none⟩ (.int .i64 (Int.tmod (wrap64 ((rd x6_2 (ji30)) + (wrap64 ((((bt a0_1 x7_1) - 48) % 256) * (((bt a1_1 x8_2) - 48) % 256))))) 10)))) ?hg ?ho ?hn ?hr ?_; (case ho => rfl); (case hg => rfl); (case hn => rfl); (case hr => first | (go_simp; done) | (go_simp; rfl)); intro w47 hw; have hg : w44.grownBy w47 (some go39) := (by rw [hw]; exact HP46.2); have hp_ : Kd.R (Kd.int .i64) 3 w47 w.heap.size (fun _ => True) (.slice (some ⟨go39, 0, none⟩) x6_2.length co45) y247 := (by rw [hw, Ny247.out]; exact HP46.1); clear HP46; have n0_ := Aside0.mk (hp_); have n1_ := Aside0.mk (blk_grown (g := gb238) (o := .cells #[.bool a0_0, .string a0_1, .int .i64 a0_2] 26 (0, 0)) (by refine blk_up ?_; exact BK238.out) hg (Kd.R_ne HO_6.out BK238.out (by decide))); have n2_ := Aside0.mk (blk_grown (g := gb239) (o := .cells #[.bool a1_0, .string a1_1, .int .i64 a1_2] 26 (0, 0)) (by refine blk_up ?_; exact BK239.out) hg (Kd.R_ne HO_6.out BK239.out (by decide))); have n3_ := Aside0.mk (blk_grown (g := gb240) (o := .cells #[.bool false, .string (⟨#[]⟩ : ByteArray), .int .i64 0] 26 (0, 0)) (by refine blk_up ?_; exact BK240.out) hg (Kd.R_ne HO_6.out BK240.out (by decide))); have n4_ := Aside0.mk ((by rw [hw]; exact below_set (HB.out) GB39.out : Below w.heap.size w w47)); clear HO_6; clear BK238; clear BK239; clear BK240; clear HB; have HO_6 := n0_; have BK238 := n1_; have BK239 := n2_; have BK240 := n3_; have HB := n4_; clear n0_ n1_ n2_ n3_ n4_; clear hg hw hp_; have p248 : 0 ≤ ((ji40) : Int) := of_decide_eq_true (by first | (with_reducible assumption) | assumption); have q248 : (ji40) < (y247.length : Int) := (by have h_ : ((ji40) : Int) < ((x6_2.length : Int) : Int) := of_decide_eq_true (by first | (with_reducible assumption) | assumption); first | (have e_ := (Kd.R_reads' HO_6.out).1; omega) | simpa only [Ny247.out, List.length_set] using h_); have ql248 : (((ji40) : Int) < ((x6_2.length : Int) : Int)) = True := eq_true (of_decide_eq_true (by first | (with_reducible assumption) | assumption)); obtain ⟨ad248, e248, hx248_0⟩ := Kd.at_int (Kd.R_reads' HO_6.out).2.2 (ji40) p248 q248; obtain rfl : (⟨go39, 0, none⟩ : Addr) = ad248 := (by injection e248); (first | simp only [add_plain] at hx248_0 | simp only [add_at] at hx248_0 | simp only [Addr.add, Nat.zero_add] at hx248_0 | skip); replace p248 := eq_true p248; replace q248 := eq_true q248; have p43 : 0 ≤ ((ji40) : Int) := of_decide_eq_true (by first | (with_reducible assumption) | assumption); have q43 : ((ji40) : Int) < ((x6_2.length : Int) : Int) := of_decide_eq_true (by first | (with_reducible assumption) | assumption); obtain ⟨hx43_0, hf43_0⟩ := Kd.R_celln 0 HO_6.out ((ji40) : Int) p43 q43; replace p43 := eq_true p43; replace q43 := eq_true q43; obtain ⟨hy48_, hz48_⟩ := Kd.R_celln 0 HO_6.out ((ji40) : Int) (of_decide_eq_true (by first | (with_reducible assumption) | assumption)) (of_decide_eq_true (by first | (with_reducible assumption) | assumption)); have HP48 := Kd.R_putg HO_6.out ((ji40) : Int) (wrap64 ((rd y247 (ji40)) + (wrap64 (Int.tdiv (wrap64 ((rd x6_2 (ji30)) + (wrap64 ((((bt a0_1 x7_1) - 48) % 256) * (((bt a1_1 x8_2) - 48) % 256))))) 10))))) | ((with_reducible refine gate_store (t := 3) (p := 84) rfl ?_); refine store_event (t := 3) (p := 84) (v := ?vo_w49) (w1 := (w47.setCell ⟨go39, ((ji40) : Int).toNat, none⟩ (.int .i64 (wrap64 ((rd y247 (ji40)) + (wrap64 (Int.tdiv (wrap64 ((rd x6_2 (ji30)) + (wrap64 ((((bt a0_1 x7_1) - 48) % 256) * (((bt a1_1 x8_2) - 48) % 256))))) 10))))))) ?hg ?ho ?hn ?hr ?_; (case ho => rfl); (case hg => rfl); (case hn => rfl); (case hr => first | (go_simp; done) | (go_simp; rfl)); intro w49 hw; have hg : w47.grownBy w49 (some go39) := (by rw [hw]; exact HP48.2); have hp_ : Kd.R (Kd.int .i64) 3 w49 w.heap.size (fun _ => True) (.slice (some ⟨go39, 0, none⟩) x6_2.length co45) y249 := (by rw [hw, Ny249.out]; exact HP48.1); clear HP48; have n0_ := Aside0.mk (hp_); have n1_ := Aside0.mk (blk_grown (g := gb238) (o := .cells #[.bool a0_0, .string a0_1, .int .i64 a0_2] 26 (0, 0)) (by refine blk_up ?_; exact BK238.out) hg (Kd.R_ne HO_6.out BK238.out (by decide))); have n2_ := Aside0.mk (blk_grown (g := gb239) (o := .cells #[.bool a1_0, .string a1_1, .int .i64 a1_2] 26 (0, 0)) (by refine blk_up ?_; exact BK239.out) hg (Kd.R_ne HO_6.out BK239.out (by decide))); have n3_ := Aside0.mk (blk_grown (g := gb240) (o := .cells #[.bool false, .string (⟨#[]⟩ : ByteArray), .int .i64 0] 26 (0, 0)) (by refine blk_up ?_; exact BK240.out) hg (Kd.R_ne HO_6.out BK240.out (by decide))); have n4_ := Aside0.mk ((by rw [hw]; exact below_set (HB.out) GB39.out : Below w.heap.size w w49)); clear HO_6; clear BK238; clear BK239; clear BK240; clear HB; have HO_6 := n0_; have BK238 := n1_; have BK239 := n2_; have BK240 := n3_; have HB := n4_; clear n0_ n1_ n2_ n3_ n4_; clear hg hw hp_))
                   go_roundg k2
                   case measure => have := HK1.out; have := HK2.out; omega
                   case rel => exact ⟨(y249), (wrap64 (x8_2 - 1)), (by first | rfl | (simp; done) | (simp [*]; done)), H', ⟨by have := HK1.out; have := HK2.out; omega⟩, ⟨by (with_reducible repeat (first | apply Kd.R_alloc | apply Kd.R_drewN | apply Kd.R_drew)); exact HO_6.out⟩, ⟨by refine blk_up ?_; exact BK238.out⟩, ⟨by refine blk_up ?_; exact BK239.out⟩, ⟨by refine blk_up ?_; exact BK240.out⟩, ⟨by repeat (first | (with_reducible first | exact HB.out | apply below_alloc | apply pw_below_drewN | apply below_drew1 | refine below_set ?_ GE238.out | refine below_set ?_ GE239.out | refine below_set ?_ GE240.out) | exact HB.out)⟩⟩
                  ·rw [if_neg c42] at H
                   exact absurd H (by simp)
                 ·rw [if_neg c41] at H
                  exact absurd H (by simp)
                ·rw [if_neg c37] at H
                 exact absurd H (by simp)
               ·rw [if_neg c36] at H
                exact absurd H (by simp)
              ·rw [if_neg c34] at H
               exact absurd H (by simp)
             ·rw [if_neg c33] at H
              exact absurd H (by simp)
            ·rw [if_neg c32] at H
             exact absurd H (by simp)
           ·rw [if_neg c31] at H
            exact absurd H (by simp)
          ·rw [if_neg c29] at H
           have c29b0 : decide (0 ≤ x8_2) = false := decide_eq_false c29
           clear c29
           have H' := Aside0.mk H
           clear H
           go_wp2
           go_roundg k2
           case measure => have := HK1.out; have := HK2.out; omega
           case rel => exact ⟨(x6_2), (wrap64 (x7_1 - 1)), (by first | rfl | (simp; done) | (simp [*]; done)), H', ⟨by have := HK1.out; have := HK2.out; omega⟩, ⟨by (with_reducible repeat (first | apply Kd.R_alloc | apply Kd.R_drewN | apply Kd.R_drew)); exact HO_6.out⟩, ⟨by refine blk_up ?_; exact BK238.out⟩, ⟨by refine blk_up ?_; exact BK239.out⟩, ⟨by refine blk_up ?_; exact BK240.out⟩, ⟨by repeat (first | (with_reducible first | exact HB.out | apply below_alloc | apply pw_below_drewN | apply below_drew1 | refine below_set ?_ GE238.out | refine below_set ?_ GE239.out | refine below_set ?_ GE240.out) | exact HB.out)⟩⟩
       ·rw [if_neg c25] at H
        have c25b0 : decide (0 ≤ x7_1) = false := decide_eq_false c25
        clear c25
        have H' := Aside0.mk H
        clear H
        obtain ⟨Ao50, co50, eo50⟩ := Kd.R_slice HO_6.out
        subst eo50
        go_wp2_with ((with_reducible refine gate_dst (N := 86) rfl ?_); refine box_event ?hg (N := 86) ?hd (cs := #[.pointer none, .slice none 0 0]) (t := 67) ?hr ?_; (case hd => rfl); (case hg => rfl); (case hr => first | (go_simp; done) | (go_simp; rfl)); intro gb86 hg wB hbox hb; have n0_ := Aside0.mk (below_step (by repeat (first | (with_reducible first | exact HB.out | apply below_alloc | apply pw_below_drewN | apply below_drew1 | refine below_set ?_ GE238.out | refine below_set ?_ GE239.out | refine below_set ?_ GE240.out) | exact HB.out)) hb); have n1_ := Aside0.mk (bld_fresh (by rw [hg]; exact (below_size (by repeat (first | (with_reducible first | exact HB.out | apply below_alloc | apply pw_below_drewN | apply below_drew1 | refine below_set ?_ GE238.out | refine below_set ?_ GE239.out | refine below_set ?_ GE240.out) | exact HB.out))) : w.heap.size ≤ gb86) hbox); have m238_ := Aside0.mk (by rw [hg]; exact Nat.ne_of_lt (blk_lt (g := gb238) (o := .cells #[.bool a0_0, .string a0_1, .int .i64 a0_2] 26 (0, 0)) (by refine blk_up ?_; exact BK238.out)) : gb238 ≠ gb86); have k238_ := Aside0.mk (blk_below (g := gb238) (o := .cells #[.bool a0_0, .string a0_1, .int .i64 a0_2] 26 (0, 0)) (by refine blk_up ?_; exact BK238.out) hb); have m239_ := Aside0.mk (by rw [hg]; exact Nat.ne_of_lt (blk_lt (g := gb239) (o := .cells #[.bool a1_0, .string a1_1, .int .i64 a1_2] 26 (0, 0)) (by refine blk_up ?_; exact BK239.out)) : gb239 ≠ gb86); have k239_ := Aside0.mk (blk_below (g := gb239) (o := .cells #[.bool a1_0, .string a1_1, .int .i64 a1_2] 26 (0, 0)) (by refine blk_up ?_; exact BK239.out) hb); have m240_ := Aside0.mk (by rw [hg]; exact Nat.ne_of_lt (blk_lt (g := gb240) (o := .cells #[.bool false, .string (⟨#[]⟩ : ByteArray), .int .i64 0] 26 (0, 0)) (by refine blk_up ?_; exact BK240.out)) : gb240 ≠ gb86); have k240_ := Aside0.mk (blk_below (g := gb240) (o := .cells #[.bool false, .string (⟨#[]⟩ : ByteArray), .int .i64 0] 26 (0, 0)) (by refine blk_up ?_; exact BK240.out) hb); have r_ := Aside0.mk (Kd.R_below (by (with_reducible repeat (first | apply Kd.R_alloc | apply Kd.R_drewN | apply Kd.R_drew)); exact HO_6.out) hb); clear HB BK238 BK239 BK240 HO_6; have HB := n0_; have BB := n1_; have BK238 := k238_; have BK239 := k239_; have BK240 := k240_; have NB238_86 := m238_; have NB239_86 := m239_; have NB240_86 := m240_; have HO_6 := r_; clear n0_ n1_ m238_ m239_ m240_ k238_ k239_ k240_ r_; clear hb hbox hg)
        go_loopg [89] k1 (fun kq v89 w' => ∃ (E : List UInt8) (x89_2 : Int), v89 = .int .i64 x89_2 ∧ Aside0 (impl_TimesDecW.l2 kq (toI E) x6_1 (x6_1.length : Int) x89_2 a0_0 a0_1 a0_2 a1_0 a1_1 a1_2 = some (r1, r2, r3, r4)) ∧ Aside0 (kq ≤ k1) ∧ Aside0 (Lib.IsBuilderF 67 5 w.heap.size gb86 (Lib.byteCells E) w') ∧ Aside0 (Kd.R (Kd.int .i64) 3 w' w.heap.size (fun _ => True) (.slice Ao50 x6_1.length co50) x6_1) ∧ Aside0 (w'.heap[gb238]? = some (.cells #[.bool a0_0, .string a0_1, .int .i64 a0_2] 26 (0, 0))) ∧ Aside0 (w'.heap[gb239]? = some (.cells #[.bool a1_0, .string a1_1, .int .i64 a1_2] 26 (0, 0))) ∧ Aside0 (w'.heap[gb240]? = some (.cells #[.bool false, .string (⟨#[]⟩ : ByteArray), .int .i64 0] 26 (0, 0))) ∧ Aside0 (Below w.heap.size w w'))
        case atStart => exact ⟨[], (0), (by first | rfl | (simp; done) | (simp [*]; done)), H', ⟨Nat.le_refl _⟩, ⟨BB.out⟩, ⟨by (with_reducible repeat (first | apply Kd.R_alloc | apply Kd.R_drewN | apply Kd.R_drew)); exact HO_6.out⟩, ⟨by refine blk_up ?_; exact BK238.out⟩, ⟨by refine blk_up ?_; exact BK239.out⟩, ⟨by refine blk_up ?_; exact BK240.out⟩, ⟨by repeat (first | (with_reducible first | exact HB.out | apply below_alloc | apply pw_below_drewN | apply below_drew1 | refine below_set ?_ GE238.out | refine below_set ?_ GE239.out | refine below_set ?_ GE240.out) | exact HB.out)⟩⟩
        case round =>
         clear H'
         try clear c1
         try clear c2
         try clear p2
         try clear q2
         try clear hx2
         try clear c3
         try clear p3
         try clear q3
         try clear hx3
         try clear hf3
         try clear c4
         try clear p4
         try clear q4
         try clear hx4
         try clear hf4
         try clear c6
         try clear p6
         try clear c8
         try clear c8b0
         try clear c8b1
         try clear c9
         try clear c9b0
         try clear c9b1
         try clear c13
         try clear c14
         try clear c17
         try clear p24
         try clear q24
         try clear hx24
         try clear c25
         try clear c25b0
         try clear c26
         try clear c27
         try clear c29
         try clear c29b0
         try clear c31
         try clear c31b0
         try clear c32
         try clear c32b0
         try clear c33
         try clear c33b0
         try clear c34
         try clear c34b0
         try clear p35
         try clear q35
         try clear hx35
         try clear c36
         try clear c36b0
         try clear c37
         try clear c37b0
         try clear p38
         try clear q38
         try clear hx38
         try clear p39
         try clear q39
         try clear hx39
         try clear hf39
         try clear c41
         try clear c41b0
         try clear c42
         try clear c42b0
         try clear p43
         try clear q43
         try clear hx43
         try clear hf43
         try clear hcz15_0
         try clear hcz15_1
         try clear hcz15_2
         try clear hcz18_0
         try clear hcz18_1
         try clear hcz18_2
         try clear hcz20_0
         try clear hcz20_1
         try clear hcz20_2
         try clear hcz21_0
         try clear hcz21_1
         try clear hcz21_2
         try clear hcz24_0
         try clear hcz24_1
         try clear hcz24_2
         try clear hcz28_0
         try clear hcz28_1
         try clear hcz28_2
         try clear hfz15_0
         try clear hfz15_1
         try clear hfz15_2
         try clear hfz18_0
         try clear hfz18_1
         try clear hfz18_2
         try clear hfz20_0
         try clear hfz20_1
         try clear hfz20_2
         try clear hfz21_0
         try clear hfz21_1
         try clear hfz21_2
         try clear hfz24_0
         try clear hfz24_1
         try clear hfz24_2
         try clear hfz28_0
         try clear hfz28_1
         try clear hfz28_2
         try clear hx246_0
         try clear hx248_0
         try clear hx39_0
         try clear hx43_0
         try clear p2
         try clear p246
         try clear p248
         try clear p35
         try clear p38
         try clear p39
         try clear p43
         try clear p6
         try clear q246
         try clear q248
         try clear q35
         try clear q38
         try clear q39
         try clear q43
         obtain ⟨E, x89_2, rfl, HA, HK2, BB, HO_87, BK238, BK239, BK240, HB⟩ := hrel
         cases gk with
         | zero => exact absurd HA.out (by simp [impl_TimesDecW.l2])
         | succ k2 =>
          have H := HA.out
          clear HA
          simp only [impl_TimesDecW.l2] at H
          by_cases c51 : x89_2 < (x6_1.length : Int)
          ·rw [if_pos c51] at H
           have c51b0 : decide (x89_2 < (x6_1.length : Int)) = true := decide_eq_true c51
           clear c51
           by_cases c52 : 0 ≤ x89_2
           ·rw [if_pos c52] at H
            have c52b0 : decide (0 ≤ x89_2) = true := decide_eq_true c52
            clear c52
            by_cases c53 : x89_2 < (x6_1.length : Int)
            ·rw [if_pos c53] at H
             have c53b0 : decide (x89_2 < (x6_1.length : Int)) = true := decide_eq_true c53
             clear c53
             by_cases c54 : (toI E).length < 140737488355328
             ·rw [if_pos c54] at H
              have LMc54 := Aside0.mk c54
              clear c54
              obtain ⟨y251, hy251⟩ : ∃ y_ : List Int, y_ = ((toI E) ++ [(48 + ((rd x6_1 x89_2) % 256)) % 256]) := ⟨_, rfl⟩
              replace H : (impl_TimesDecW.l2 k2 y251 x6_1 (x6_1.length : Int) (wrap64 (x89_2 + 1)) a0_0 a0_1 a0_2 a1_0 a1_1 a1_2) = some (r1, r2, r3, r4) := by first | (rw [hy251]; with_reducible exact H) | (have H2_ := (Option.bind_some _ _).symm.trans H; rw [hy251]; with_reducible exact H2_) | (have H2_ := (Option.bind_some _ _).symm.trans H; with_reducible exact H2_) | with_reducible exact H | (rw [hy251]; exact H) | exact H
              have Ny251 := Aside0.mk hy251
              clear hy251
              have H' := Aside0.mk H
              clear H
              have p250 : 0 ≤ (x89_2 : Int) := of_decide_eq_true (by first | (with_reducible assumption) | assumption)
              have q250 : x89_2 < (x6_1.length : Int) := of_decide_eq_true (by first | (with_reducible assumption) | assumption)
              obtain ⟨ad250, e250, hx250_0⟩ := Kd.at_int (Kd.R_reads' HO_87.out).2.2 x89_2 p250 q250
              cases e250
              replace p250 := eq_true p250
              replace q250 := eq_true q250
              go_wp2_with ((with_reducible refine gate_callee (f := 53) rfl ?_); refine goesL_ (some 97) rfl rfl Tryd.func53 (by kernel_rfl) rfl #[.pointer (some ⟨gb86, 0, none⟩), .int .u8 ((48 + ((rd x6_1 x89_2) % 256)) % 256)] rfl (by (try simp only [List.map_toArray, List.map_cons, List.map_nil]); first | done | rfl) ?_; refine (bld_byte_k w.heap.size gb86 (Lib.byteCells E) ((48 + ((rd x6_1 x89_2) % 256)) % 256) _ BB.out ?hl ?hB).mono ?_; (case hl => have h_ := LMc54.out; rw [toI_len] at h_; rw [Lib.byteCells_length]; omega); (case hB => exact (below_size (by repeat (first | (with_reducible first | exact HB.out | apply below_alloc | apply pw_below_drewN | apply below_drew1 | refine below_set ?_ GE238.out | refine below_set ?_ GE239.out | refine below_set ?_ GE240.out) | exact HB.out)))); rintro e w55 ⟨rfl, hbd, hb, hko⟩; refine ⟨_, rfl, ?_⟩; have n0_ := Aside0.mk (R_others (by (with_reducible repeat (first | apply Kd.R_alloc | apply Kd.R_drewN | apply Kd.R_drew)); exact HO_87.out) hko (bldT BB.out) (by decide) (by decide)); have k238_ := Aside0.mk (blk_others (g := gb238) (by refine blk_up ?_; exact BK238.out) hko NB238_86.out (by decide)); have k239_ := Aside0.mk (blk_others (g := gb239) (by refine blk_up ?_; exact BK239.out) hko NB239_86.out (by decide)); have k240_ := Aside0.mk (blk_others (g := gb240) (by refine blk_up ?_; exact BK240.out) hko NB240_86.out (by decide)); have n1_ := Aside0.mk (Below.trans (by repeat (first | (with_reducible first | exact HB.out | apply below_alloc | apply pw_below_drewN | apply below_drew1 | refine below_set ?_ GE238.out | refine below_set ?_ GE239.out | refine below_set ?_ GE240.out) | exact HB.out)) hb); have n2_ := Aside0.mk (Or.inr (bc_at hbd (Int.emod_nonneg _ (by decide)) (Int.emod_lt_of_pos _ (by decide))) : Lib.IsBuilderF 67 5 w.heap.size gb86 (Lib.byteCells (E ++ [UInt8.ofNat (((48 + ((rd x6_1 x89_2) % 256)) % 256) : Int).toNat])) w55); clear HO_87 BK238 BK239 BK240 HB BB; have HO_87 := n0_; have BK238 := k238_; have BK239 := k239_; have BK240 := k240_; have HB := n1_; have BB := n2_; clear n0_ k238_ k239_ k240_ n1_ n2_; clear hbd hb hko)
              go_roundg k2
              case measure => have := HK1.out; have := HK2.out; omega
              case rel => exact ⟨E ++ [UInt8.ofNat (((48 + ((rd x6_1 x89_2) % 256)) % 256) : Int).toNat], (wrap64 (x89_2 + 1)), (by first | rfl | (simp; done) | (simp [*]; done)), ⟨by rw [← toI_snoc _ (Int.emod_nonneg _ (by decide)) (Int.emod_lt_of_pos _ (by decide)), ← Ny251.out]; exact H'.out⟩, ⟨by have := HK1.out; have := HK2.out; omega⟩, ⟨BB.out⟩, ⟨by (with_reducible repeat (first | apply Kd.R_alloc | apply Kd.R_drewN | apply Kd.R_drew)); exact HO_87.out⟩, ⟨by refine blk_up ?_; exact BK238.out⟩, ⟨by refine blk_up ?_; exact BK239.out⟩, ⟨by refine blk_up ?_; exact BK240.out⟩, ⟨by repeat (first | (with_reducible first | exact HB.out | apply below_alloc | apply pw_below_drewN | apply below_drew1 | refine below_set ?_ GE238.out | refine below_set ?_ GE239.out | refine below_set ?_ GE240.out) | exact HB.out)⟩⟩
             ·rw [if_neg c54] at H
              exact absurd H (by simp)
            ·rw [if_neg c53] at H
             exact absurd H (by simp)
           ·rw [if_neg c52] at H
            exact absurd H (by simp)
          ·rw [if_neg c51] at H
           have c51b0 : decide (x89_2 < (x6_1.length : Int)) = false := decide_eq_false c51
           clear c51
           replace H := Option.bind_eq_some_iff.mp H
           obtain ⟨⟨t254, t255, t256, t257⟩, A560, H⟩ := H
           replace H : (some (t254, t255, t256, t257)) = some (r1, r2, r3, r4) := H
           rw [str_toI] at A560
           have A56 := Aside0.mk A560
           clear A560
           simp only [Option.some.injEq, Prod.mk.injEq] at H
           obtain ⟨rfl, rfl, rfl, rfl⟩ := H
           try go_wp2
           have n0_ := Aside0.mk (bld_drew BB.out)
           have n1_ := Aside0.mk (Kd.R_drew HO_87.out)
           have n2_ := Aside0.mk (blk_drew BK238.out)
           have n3_ := Aside0.mk (blk_drew BK239.out)
           have n4_ := Aside0.mk (blk_drew BK240.out)
           have n5_ := Aside0.mk (below_drew1 HB.out)
           clear BB
           clear HO_87
           clear BK238
           clear BK239
           clear BK240
           clear HB
           have BB := n0_
           have HO_87 := n1_
           have BK238 := n2_
           have BK239 := n3_
           have BK240 := n4_
           have HB := n5_
           clear n0_ n1_ n2_ n3_ n4_ n5_

           refine start_ (n := 17) (S := fun w' => w'.cell? ⟨gb238, 0, none⟩ = some (.bool a0_0) ∧ w'.cell? ⟨gb238, 1, none⟩ = some (.string a0_1) ∧ w'.cell? ⟨gb238, 2, none⟩ = some (.int .i64 a0_2) ∧ w'.cell? ⟨gb239, 0, none⟩ = some (.bool a1_0) ∧ w'.cell? ⟨gb239, 1, none⟩ = some (.string a1_1) ∧ w'.cell? ⟨gb239, 2, none⟩ = some (.int .i64 a1_2)) (ds := []) #[false, false, false, false, false, false, false, false, false, false, false, false, false, false, false, false, false] (by kernel_rfl) rfl rfl ⟨(blk_cell BK238.out 0).trans rfl, (blk_cell BK238.out 1).trans rfl, (blk_cell BK238.out 2).trans rfl, (blk_cell BK239.out 0).trans rfl, (blk_cell BK239.out 1).trans rfl, (blk_cell BK239.out 2).trans rfl⟩ (fun hHeld => ?_); refine with_tabW impl_TimesDecW.tab19 impl_TimesDecW.bits19 (fun HT_ HW_ => ?_)
           generalize wr.drew = w57 at BB HO_87 BK238 BK239 BK240 HB hHeld ⊢
           refine pure_ (i := 0) (N := some 99) (v := ?_) (a' := ?_) #[true, false, false, false, false, false, false, false, false, false, false, false, false, false, false, false, false] rfl rfl (any_of HT_.out (by kernel_rfl)) (fun _ _ _ h => h) (Or.inl ⟨by rfl, ?_⟩) ?_ ?_
           rotate_left
           ·intro w'
            go_simp
            with_reducible rfl
           rotate_left
           ·simp only [Act.put, List.setIfInBounds_toArray, List.set_cons_zero, List.set_cons_succ, i64_w, i32_w]
            rfl
           refine pure_ (i := 2) (N := some 101) (v := ?_) (a' := ?_) #[true, false, true, false, false, false, false, false, false, false, false, false, false, false, false, false, false] rfl rfl (any_of HT_.out (by kernel_rfl)) (fun _ _ _ h => h) (Or.inl ⟨by rfl, ?_⟩) ?_ ?_
           rotate_left
           ·intro w'
            go_simp
            with_reducible rfl
           rotate_left
           ·simp only [Act.put, List.setIfInBounds_toArray, List.set_cons_zero, List.set_cons_succ, i64_w, i32_w]
            rfl
           refine pure_ (i := 5) (N := some 104) (v := ?_) (a' := ?_) #[true, false, true, false, false, true, false, false, false, false, false, false, false, false, false, false, false] rfl rfl (any_of HT_.out (by kernel_rfl)) (fun _ _ _ h => h) (Or.inl ⟨by rfl, ?_⟩) ?_ ?_
           rotate_left
           ·intro w'
            go_simp
            with_reducible rfl
           rotate_left
           ·simp only [Act.put, List.setIfInBounds_toArray, List.set_cons_zero, List.set_cons_succ, i64_w, i32_w]
            rfl
           refine pure_ (i := 7) (N := some 106) (v := ?_) (a' := ?_) #[true, false, true, false, false, true, false, true, false, false, false, false, false, false, false, false, false] rfl rfl (any_of HT_.out (by kernel_rfl)) (fun _ _ _ h => h) (Or.inl ⟨by rfl, ?_⟩) ?_ ?_
           rotate_left
           ·intro w'
            go_simp
            with_reducible rfl
           rotate_left
           ·simp only [Act.put, List.setIfInBounds_toArray, List.set_cons_zero, List.set_cons_succ, i64_w, i32_w]
            rfl
           refine pure_ (i := 9) (N := some 108) (v := ?_) (a' := ?_) #[true, false, true, false, false, true, false, true, false, true, false, false, false, false, false, false, false] rfl rfl (any_of HT_.out (by kernel_rfl)) (fun _ _ _ h => h) (Or.inl ⟨by rfl, ?_⟩) ?_ ?_
           rotate_left
           ·intro w'
            go_simp
            with_reducible rfl
           rotate_left
           ·simp only [Act.put, List.setIfInBounds_toArray, List.set_cons_zero, List.set_cons_succ, i64_w, i32_w]
            rfl
           refine take_ (i := 1) (N := some 100) (v := ?_) (a' := ?_) #[true, true, true, false, false, true, false, true, false, true, false, false, false, false, false, false, false] rfl rfl (take_ofW HT_.out HW_.out (by kernel_rfl)) (fun _ _ _ h => h) (Or.inl ⟨by rfl, ?_⟩) hHeld ?_ ?_
           rotate_left
           ·rintro w' ⟨s0, s1, s2, s3, s4, s5⟩
            go_simp
            with_reducible rfl
           rotate_left
           ·simp only [Act.put, List.setIfInBounds_toArray, List.set_cons_zero, List.set_cons_succ, i64_w, i32_w]
            rfl
           refine take_ (i := 3) (N := some 102) (v := ?_) (a' := ?_) #[true, true, true, true, false, true, false, true, false, true, false, false, false, false, false, false, false] rfl rfl (take_ofW HT_.out HW_.out (by kernel_rfl)) (fun _ _ _ h => h) (Or.inl ⟨by rfl, ?_⟩) hHeld ?_ ?_
           rotate_left
           ·rintro w' ⟨s0, s1, s2, s3, s4, s5⟩
            go_simp
            with_reducible rfl
           rotate_left
           ·simp only [Act.put, List.setIfInBounds_toArray, List.set_cons_zero, List.set_cons_succ, i64_w, i32_w]
            rfl
           refine pure_ (i := 4) (N := some 103) (v := ?_) (a' := ?_) #[true, true, true, true, true, true, false, true, false, true, false, false, false, false, false, false, false] rfl rfl (any_of HT_.out (by kernel_rfl)) (fun _ _ _ h => h) (Or.inl ⟨by rfl, ?_⟩) ?_ ?_
           rotate_left
           ·intro w'
            go_simp
            with_reducible rfl
           rotate_left
           ·simp only [Act.put, List.setIfInBounds_toArray, List.set_cons_zero, List.set_cons_succ, i64_w, i32_w]
            rfl
           refine take_ (i := 8) (N := some 107) (v := ?_) (a' := ?_) #[true, true, true, true, true, true, false, true, true, true, false, false, false, false, false, false, false] rfl rfl (take_ofW HT_.out HW_.out (by kernel_rfl)) (fun _ _ _ h => h) (Or.inl ⟨by rfl, ?_⟩) hHeld ?_ ?_
           rotate_left
           ·rintro w' ⟨s0, s1, s2, s3, s4, s5⟩
            go_simp
            with_reducible rfl
           rotate_left
           ·simp only [Act.put, List.setIfInBounds_toArray, List.set_cons_zero, List.set_cons_succ, i64_w, i32_w]
            rfl
           refine take_ (i := 10) (N := some 109) (v := ?_) (a' := ?_) #[true, true, true, true, true, true, false, true, true, true, true, false, false, false, false, false, false] rfl rfl (take_ofW HT_.out HW_.out (by kernel_rfl)) (fun _ _ _ h => h) (Or.inl ⟨by rfl, ?_⟩) hHeld ?_ ?_
           rotate_left
           ·rintro w' ⟨s0, s1, s2, s3, s4, s5⟩
            go_simp
            with_reducible rfl
           rotate_left
           ·simp only [Act.put, List.setIfInBounds_toArray, List.set_cons_zero, List.set_cons_succ, i64_w, i32_w]
            rfl
           refine pure_ (i := 11) (N := some 110) (v := ?_) (a' := ?_) #[true, true, true, true, true, true, false, true, true, true, true, true, false, false, false, false, false] rfl rfl (any_of HT_.out (by kernel_rfl)) (fun _ _ _ h => h) (Or.inl ⟨by rfl, ?_⟩) ?_ ?_
           rotate_left
           ·intro w'
            go_simp
            with_reducible rfl
           rotate_left
           ·simp only [Act.put, List.setIfInBounds_toArray, List.set_cons_zero, List.set_cons_succ, i64_w, i32_w]
            rfl
           refine one_ (i := 6) (N := some 105) #[true, true, true, true, true, true, true, true, true, true, true, true, false, false, false, false, false] rfl rfl (one_of HT_.out (by kernel_rfl)) (by decide) (fun K hK => ?_)
           refine goes_ Tryd.func55 (by kernel_rfl) rfl #[.pointer (some ⟨gb86, 0, none⟩)] (by rfl) rfl rfl (by (try simp only [List.map_toArray, List.map_cons, List.map_nil]); first | done | rfl) ?_
           refine (Tryd.Builder_String_any_k w.heap.size gb86 E _ BB.out (below_size (by repeat (first | (with_reducible first | exact HB.out | apply below_alloc | apply pw_below_drewN | apply below_drew1 | refine below_set ?_ GE238.out | refine below_set ?_ GE239.out | refine below_set ?_ GE240.out) | exact HB.out)))).mono ?_
           rintro e w58 ⟨rfl, hbd, hb, hko⟩
           refine ⟨_, rfl, ?_⟩
           have n0_ := Aside0.mk (R_others (by (with_reducible repeat (first | apply Kd.R_alloc | apply Kd.R_drewN | apply Kd.R_drew)); exact HO_87.out) hko (bldT BB.out) (by decide) (by decide))
           have k238_ := Aside0.mk (blk_others (g := gb238) (by refine blk_up ?_; exact BK238.out) hko NB238_86.out (by decide))
           have k239_ := Aside0.mk (blk_others (g := gb239) (by refine blk_up ?_; exact BK239.out) hko NB239_86.out (by decide))
           have k240_ := Aside0.mk (blk_others (g := gb240) (by refine blk_up ?_; exact BK240.out) hko NB240_86.out (by decide))
           have n1_ := Aside0.mk (Below.trans (by repeat (first | (with_reducible first | exact HB.out | apply below_alloc | apply pw_below_drewN | apply below_drew1 | refine below_set ?_ GE238.out | refine below_set ?_ GE239.out | refine below_set ?_ GE240.out) | exact HB.out)) hb)
           have n2_ := Aside0.mk hbd
           clear HO_87 BK238 BK239 BK240 HB BB
           have HO_87 := n0_
           have BK238 := k238_
           have BK239 := k239_
           have BK240 := k240_
           have HB := n1_
           have BB := n2_
           clear n0_ k238_ k239_ k240_ n1_ n2_
           clear hbd hb hko
           refine hK.out _ _ ⟨(blk_cell BK238.out 0).trans rfl, (blk_cell BK238.out 1).trans rfl, (blk_cell BK238.out 2).trans rfl, (blk_cell BK239.out 0).trans rfl, (blk_cell BK239.out 1).trans rfl, (blk_cell BK239.out 2).trans rfl⟩ (fun hHeld => ?_)
           clear hK K
           refine norm_ (a' := ?_) ?_ ?_
           rotate_left
           ·show Act.put _ (some 105) _ = _
            simp only [Act.put, List.setIfInBounds_toArray, List.set_cons_zero, List.set_cons_succ, i64_w, i32_w]
            rfl
           refine one_ (i := 12) (N := some 111) #[true, true, true, true, true, true, true, true, true, true, true, true, true, false, false, false, false] rfl rfl (one_of HT_.out (by kernel_rfl)) (by decide) (fun K hK => ?_)
           refine goes_ Tryd.func54 (by kernel_rfl) rfl #[.bool (a0_0 != a1_0), .string (mkB E), .int .i64 (wrap64 (a0_2 + a1_2))] (by rfl) rfl rfl (by (try simp only [List.map_toArray, List.map_cons, List.map_nil]); first | done | rfl | (simp only [List.length_drop, List.length_take]; rfl)) ?_
           with_reducible refine (impl_made.calls k2 (a0_0 != a1_0) (mkB E) (wrap64 (a0_2 + a1_2)) t254 t255 t256 t257 _ A56.out).mono ?_
           rintro e w59 ⟨rfl, hb⟩
           refine ⟨_, rfl, ?_⟩
           have n0_ := Aside0.mk trivial
           have n1_ := Aside0.mk (Kd.R_below (by (with_reducible repeat (first | apply Kd.R_alloc | apply Kd.R_drewN | apply Kd.R_drew)); exact HO_87.out) hb)
           have n2_ := Aside0.mk (blk_below (g := gb238) (o := .cells #[.bool a0_0, .string a0_1, .int .i64 a0_2] 26 (0, 0)) (by refine blk_up ?_; exact BK238.out) hb)
           have n3_ := Aside0.mk (blk_below (g := gb239) (o := .cells #[.bool a1_0, .string a1_1, .int .i64 a1_2] 26 (0, 0)) (by refine blk_up ?_; exact BK239.out) hb)
           have n4_ := Aside0.mk (blk_below (g := gb240) (o := .cells #[.bool false, .string (⟨#[]⟩ : ByteArray), .int .i64 0] 26 (0, 0)) (by refine blk_up ?_; exact BK240.out) hb)
           have n5_ := Aside0.mk (below_step (by repeat (first | (with_reducible first | exact HB.out | apply below_alloc | apply pw_below_drewN | apply below_drew1 | refine below_set ?_ GE238.out | refine below_set ?_ GE239.out | refine below_set ?_ GE240.out) | exact HB.out)) hb)
           clear BB
           clear HO_87
           clear BK238
           clear BK239
           clear BK240
           clear HB
           have BB := n0_
           have HO_87 := n1_
           have BK238 := n2_
           have BK239 := n3_
           have BK240 := n4_
           have HB := n5_
           clear n0_ n1_ n2_ n3_ n4_ n5_
           (try clear hb)
           (try clear hb2)
           (try clear hk)
           (try clear hi)
           refine hK.out _ _ ⟨(blk_cell BK238.out 0).trans rfl, (blk_cell BK238.out 1).trans rfl, (blk_cell BK238.out 2).trans rfl, (blk_cell BK239.out 0).trans rfl, (blk_cell BK239.out 1).trans rfl, (blk_cell BK239.out 2).trans rfl⟩ (fun hHeld => ?_)
           clear hK K
           refine norm_ (a' := ?_) ?_ ?_
           rotate_left
           ·show Act.put _ (some 111) _ = _
            simp only [Act.put, List.setIfInBounds_toArray, List.set_cons_zero, List.set_cons_succ, i64_w, i32_w]
            rfl
           refine pure_ (i := 13) (N := some 112) (v := ?_) (a' := ?_) #[true, true, true, true, true, true, true, true, true, true, true, true, true, true, false, false, false] rfl rfl (any_of HT_.out (by kernel_rfl)) (fun _ _ _ h => h) (Or.inl ⟨by rfl, ?_⟩) ?_ ?_
           rotate_left
           ·intro w'
            go_simp
            with_reducible rfl
           rotate_left
           ·simp only [Act.put, List.setIfInBounds_toArray, List.set_cons_zero, List.set_cons_succ, i64_w, i32_w]
            rfl
           refine pure_ (i := 14) (N := some 113) (v := ?_) (a' := ?_) #[true, true, true, true, true, true, true, true, true, true, true, true, true, true, true, false, false] rfl rfl (any_of HT_.out (by kernel_rfl)) (fun _ _ _ h => h) (Or.inl ⟨by rfl, ?_⟩) ?_ ?_
           rotate_left
           ·intro w'
            go_simp
            with_reducible rfl
           rotate_left
           ·simp only [Act.put, List.setIfInBounds_toArray, List.set_cons_zero, List.set_cons_succ, i64_w, i32_w]
            rfl
           refine one_ (i := 15) (N := none) #[true, true, true, true, true, true, true, true, true, true, true, true, true, true, true, true, false] rfl rfl (one_of HT_.out (by kernel_rfl)) (by decide) (fun K hK => ?_)
           have hs60 : w59.cell? ⟨gb240, 0, none⟩ = some (.bool false) := (blk_cell BK240.out 0).trans rfl
           have hfs60 := blk_frozen BK240.out 0
           have hns60_0 := NB238_240.out
           have hns60_1 := NB239_240.out
           have hms60_0 := NB240_238.out
           have hms60_1 := NB240_239.out
           have hs61 : w59.cell? ⟨gb240, 1, none⟩ = some (.string (⟨#[]⟩ : ByteArray)) := (blk_cell BK240.out 1).trans rfl
           have hfs61 := blk_frozen BK240.out 1
           have hns61_0 := NB238_240.out
           have hns61_1 := NB239_240.out
           have hms61_0 := NB240_238.out
           have hms61_1 := NB240_239.out
           have hs62 : w59.cell? ⟨gb240, 2, none⟩ = some (.int .i64 0) := (blk_cell BK240.out 2).trans rfl
           have hfs62 := blk_frozen BK240.out 2
           have hns62_0 := NB238_240.out
           have hns62_1 := NB239_240.out
           have hms62_0 := NB240_238.out
           have hms62_1 := NB240_239.out
           refine skip_ (w1 := ?_) (by rfl) rfl ?_ ?_
           rotate_left
           ·go_simp
            rfl
           refine hK.out _ _ ⟨((cell_far (p := ⟨gb240, _, none⟩) NB238_240.out _).trans (((cell_far (p := ⟨gb240, _, none⟩) NB238_240.out _).trans (((cell_far (p := ⟨gb240, _, none⟩) NB238_240.out _).trans (hHeld.1)))))), ((cell_far (p := ⟨gb240, _, none⟩) NB238_240.out _).trans (((cell_far (p := ⟨gb240, _, none⟩) NB238_240.out _).trans (((cell_far (p := ⟨gb240, _, none⟩) NB238_240.out _).trans (hHeld.2.1)))))), ((cell_far (p := ⟨gb240, _, none⟩) NB238_240.out _).trans (((cell_far (p := ⟨gb240, _, none⟩) NB238_240.out _).trans (((cell_far (p := ⟨gb240, _, none⟩) NB238_240.out _).trans (hHeld.2.2.1)))))), ((cell_far (p := ⟨gb240, _, none⟩) NB239_240.out _).trans (((cell_far (p := ⟨gb240, _, none⟩) NB239_240.out _).trans (((cell_far (p := ⟨gb240, _, none⟩) NB239_240.out _).trans (hHeld.2.2.2.1)))))), ((cell_far (p := ⟨gb240, _, none⟩) NB239_240.out _).trans (((cell_far (p := ⟨gb240, _, none⟩) NB239_240.out _).trans (((cell_far (p := ⟨gb240, _, none⟩) NB239_240.out _).trans (hHeld.2.2.2.2.1)))))), ((cell_far (p := ⟨gb240, _, none⟩) NB239_240.out _).trans (((cell_far (p := ⟨gb240, _, none⟩) NB239_240.out _).trans (((cell_far (p := ⟨gb240, _, none⟩) NB239_240.out _).trans (hHeld.2.2.2.2.2))))))⟩ (fun hHeld => ?_)
           clear hK K
           refine pure_ (i := 16) (N := some 5) (v := ?_) (a' := ?_) #[true, true, true, true, true, true, true, true, true, true, true, true, true, true, true, true, true] rfl rfl (any_of HT_.out (by kernel_rfl)) (fun _ _ _ h => h) (Or.inl ⟨by rfl, ?_⟩) ?_ ?_
           rotate_left
           ·intro w'
            go_simp
            with_reducible rfl
           rotate_left
           ·simp only [Act.put, List.setIfInBounds_toArray, List.set_cons_zero, List.set_cons_succ, i64_w, i32_w]
            rfl
           refine done_ (done_of HT_.out (by kernel_rfl)) ?_
           try go_wp2
           refine bodyPost_ret (results_ct rfl _ _ gb240 26 #[.bool t254, .string t255, .int .i64 t256] (0, 0) _ rfl (by refine blk_up ?_; refine blk_put (cs := #[.bool t254, .string t255, .int .i64 0]) ?_ 2 _ rfl; refine blk_up ?_; refine blk_put (cs := #[.bool t254, .string (⟨#[]⟩ : ByteArray), .int .i64 0]) ?_ 1 _ rfl; refine blk_up ?_; refine blk_put (cs := #[.bool false, .string (⟨#[]⟩ : ByteArray), .int .i64 0]) ?_ 0 _ rfl; refine blk_up ?_; exact BK240.out) Tryd.underlying26 rfl (by kernel_rfl)) rfl ?_
           exact ⟨by first | rfl | (simp [errW_none, errW_some] <;> rfl) | (simp only [← hji7]; first | rfl | (simp [errW_none, errW_some] <;> rfl)) | (simp [*, errW_none, errW_some] <;> rfl), by repeat (first | (with_reducible first | exact HB.out | apply below_alloc | apply pw_below_drewN | apply below_drew1 | refine below_set ?_ GE238.out | refine below_set ?_ GE239.out | refine below_set ?_ GE240.out) | exact HB.out)⟩
    ·rw [if_neg c9] at H
     exact absurd H (by simp)
   ·rw [if_neg c8] at H
    exact absurd H (by simp)
  ·replace c6 := Bool.eq_false_iff.mpr c6
   subst c6
   have H1 : (some (false, (⟨#[]⟩ : ByteArray), 0, false)) = some (r1, r2, r3, r4) := by rw [if_neg (show ¬ (false = true) by decide)] at H; exact H
   clear H
   have H := H1
   clear H1
   simp only [Option.some.injEq, Prod.mk.injEq] at H
   obtain ⟨rfl, rfl, rfl, rfl⟩ := H
   go_enter Tryd.func17, Tryd.ntmps17
   go_wp2_with (first | ((with_reducible refine gate_dst (N := 2) rfl ?_); refine box_event ?hg (N := 2) ?hd (cs := #[.bool a0_0, .string a0_1, .int .i64 a0_2]) (t := 26) ?hr ?_; (case hd => rfl); (case hg => rfl); (case hr => first | (go_simp; done) | (go_simp; rfl)); intro gb238 hg w63 hbox hb; have n0_ := Aside0.mk (below_step (by repeat (first | (with_reducible first | exact HB.out | apply below_alloc | apply pw_below_drewN | apply below_drew1) | exact HB.out)) hb); have n1_ := Aside0.mk (hbox); have n2_ := Aside0.mk ((by rw [hg]; exact (below_size (by repeat (first | (with_reducible first | exact HB.out | apply below_alloc | apply pw_below_drewN | apply below_drew1) | exact HB.out))) : w.heap.size ≤ gb238)); have n3_ := Aside0.mk ((by rw [hg]; exact (below_size (by repeat (first | (with_reducible first | exact HB.out | apply below_alloc | apply pw_below_drewN | apply below_drew1) | exact HB.out))) : w.heap.size ≤ gb238)); clear HB; have HB := n0_; have BK238 := n1_; have GW238 := n2_; have GE238 := n3_; clear n0_ n1_ n2_ n3_; clear hb hbox hg) | ((with_reducible refine gate_dst (N := 3) rfl ?_); refine box_event ?hg (N := 3) ?hd (cs := #[.bool a1_0, .string a1_1, .int .i64 a1_2]) (t := 26) ?hr ?_; (case hd => rfl); (case hg => rfl); (case hr => first | (go_simp; done) | (go_simp; rfl)); intro gb239 hg w64 hbox hb; have n0_ := Aside0.mk (blk_below (g := gb238) (o := .cells #[.bool a0_0, .string a0_1, .int .i64 a0_2] 26 (0, 0)) (by refine blk_up ?_; exact BK238.out) hb); have n1_ := Aside0.mk (below_step (by repeat (first | (with_reducible first | exact HB.out | apply below_alloc | apply pw_below_drewN | apply below_drew1 | refine below_set ?_ GE238.out) | exact HB.out)) hb); have n2_ := Aside0.mk (hbox); have n3_ := Aside0.mk ((by rw [hg]; exact (below_size (by repeat (first | (with_reducible first | exact HB.out | apply below_alloc | apply pw_below_drewN | apply below_drew1 | refine below_set ?_ GE238.out) | exact HB.out))) : w.heap.size ≤ gb239)); have n4_ := Aside0.mk ((by rw [hg]; exact (below_size (by repeat (first | (with_reducible first | exact HB.out | apply below_alloc | apply pw_below_drewN | apply below_drew1 | refine below_set ?_ GE238.out) | exact HB.out))) : w.heap.size ≤ gb239)); have n5_ := Aside0.mk ((by rw [hg]; exact Nat.ne_of_lt (blk_lt (g := gb238) (o := .cells #[.bool a0_0, .string a0_1, .int .i64 a0_2] 26 (0, 0)) (by refine blk_up ?_; exact BK238.out)) : gb238 ≠ gb239)); have n6_ := Aside0.mk ((by rw [hg]; exact Nat.ne_of_gt (blk_lt (g := gb238) (o := .cells #[.bool a0_0, .string a0_1, .int .i64 a0_2] 26 (0, 0)) (by refine blk_up ?_; exact BK238.out)) : gb239 ≠ gb238)); clear BK238; clear HB; have BK238 := n0_; have HB := n1_; have BK239 := n2_; have GW239 := n3_; have GE239 := n4_; have NB238_239 := n5_; have NB239_238 := n6_; clear n0_ n1_ n2_ n3_ n4_ n5_ n6_; clear hb hbox hg) | ((with_reducible refine gate_dst (N := 4) rfl ?_); refine box_event ?hg (N := 4) ?hd (cs := #[.bool false, .string (⟨#[]⟩ : ByteArray), .int .i64 0]) (t := 26) ?hr ?_; (case hd => rfl); (case hg => rfl); (case hr => first | (go_simp; done) | (go_simp; rfl)); intro gb240 hg w65 hbox hb; have n0_ := Aside0.mk (blk_below (g := gb238) (o := .cells #[.bool a0_0, .string a0_1, .int .i64 a0_2] 26 (0, 0)) (by refine blk_up ?_; exact BK238.out) hb); have n1_ := Aside0.mk (blk_below (g := gb239) (o := .cells #[.bool a1_0, .string a1_1, .int .i64 a1_2] 26 (0, 0)) (by refine blk_up ?_; exact BK239.out) hb); have n2_ := Aside0.mk (below_step (by repeat (first | (with_reducible first | exact HB.out | apply below_alloc | apply pw_below_drewN | apply below_drew1 | refine below_set ?_ GE238.out | refine below_set ?_ GE239.out) | exact HB.out)) hb); have n3_ := Aside0.mk (hbox); have n4_ := Aside0.mk ((by rw [hg]; exact (below_size (by repeat (first | (with_reducible first | exact HB.out | apply below_alloc | apply pw_below_drewN | apply below_drew1 | refine below_set ?_ GE238.out | refine below_set ?_ GE239.out) | exact HB.out))) : w.heap.size ≤ gb240)); have n5_ := Aside0.mk ((by rw [hg]; exact (below_size (by repeat (first | (with_reducible first | exact HB.out | apply below_alloc | apply pw_below_drewN | apply below_drew1 | refine below_set ?_ GE238.out | refine below_set ?_ GE239.out) | exact HB.out))) : w.heap.size ≤ gb240)); have n6_ := Aside0.mk ((by rw [hg]; exact Nat.ne_of_lt (blk_lt (g := gb238) (o := .cells #[.bool a0_0, .string a0_1, .int .i64 a0_2] 26 (0, 0)) (by refine blk_up ?_; exact BK238.out)) : gb238 ≠ gb240)); have n7_ := Aside0.mk ((by rw [hg]; exact Nat.ne_of_gt (blk_lt (g := gb238) (o := .cells #[.bool a0_0, .string a0_1, .int .i64 a0_2] 26 (0, 0)) (by refine blk_up ?_; exact BK238.out)) : gb240 ≠ gb238)); have n8_ := Aside0.mk ((by rw [hg]; exact Nat.ne_of_lt (blk_lt (g := gb239) (o := .cells #[.bool a1_0, .string a1_1, .int .i64 a1_2] 26 (0, 0)) (by refine blk_up ?_; exact BK239.out)) : gb239 ≠ gb240)); have n9_ := Aside0.mk ((by rw [hg]; exact Nat.ne_of_gt (blk_lt (g := gb239) (o := .cells #[.bool a1_0, .string a1_1, .int .i64 a1_2] 26 (0, 0)) (by refine blk_up ?_; exact BK239.out)) : gb240 ≠ gb239)); clear BK238; clear BK239; clear HB; have BK238 := n0_; have BK239 := n1_; have HB := n2_; have BK240 := n3_; have GW240 := n4_; have GE240 := n5_; have NB238_240 := n6_; have NB240_238 := n7_; have NB239_240 := n8_; have NB240_239 := n9_; clear n0_ n1_ n2_ n3_ n4_ n5_ n6_ n7_ n8_ n9_; clear hb hbox hg; have hnb66 := NB238_239.out; have hnc66 := NB239_238.out; have hnb67 := NB238_240.out; have hnc67 := NB240_238.out; have hcz68_0 : w65.cell? ⟨gb238, 0, none⟩ = some (.bool a0_0) := (blk_cell BK238.out 0).trans rfl; have hcz68_1 : w65.cell? ⟨gb238, 1, none⟩ = some (.string a0_1) := (blk_cell BK238.out 1).trans rfl; have hcz68_2 : w65.cell? ⟨gb238, 2, none⟩ = some (.int .i64 a0_2) := (blk_cell BK238.out 2).trans rfl; have hfz68_0 := blk_frozen BK238.out 0; have hfz68_1 := blk_frozen BK238.out 1; have hfz68_2 := blk_frozen BK238.out 2) | ((with_reducible refine gate_callee (f := 27) rfl ?_); refine goesL_ (some 14) rfl rfl Tryd.func27 (by kernel_rfl) rfl #[.agg #[.bool a0_0, .string a0_1, .int .i64 a0_2]] rfl (by (try simp only [List.map_toArray, List.map_cons, List.map_nil]); first | done | rfl | (simp only [List.length_drop, List.length_take]; rfl)) ?_; (with_reducible refine (impl_DecOk.calls a0_0 a0_1 a0_2 true _ A3.out).mono ?_); rintro e w69 ⟨rfl, hb⟩; refine ⟨_, rfl, ?_⟩; have n0_ := Aside0.mk (blk_below (g := gb238) (o := .cells #[.bool a0_0, .string a0_1, .int .i64 a0_2] 26 (0, 0)) (by refine blk_up ?_; exact BK238.out) hb); have n1_ := Aside0.mk (blk_below (g := gb239) (o := .cells #[.bool a1_0, .string a1_1, .int .i64 a1_2] 26 (0, 0)) (by refine blk_up ?_; exact BK239.out) hb); have n2_ := Aside0.mk (blk_below (g := gb240) (o := .cells #[.bool false, .string (⟨#[]⟩ : ByteArray), .int .i64 0] 26 (0, 0)) (by refine blk_up ?_; exact BK240.out) hb); have n3_ := Aside0.mk (below_step (by repeat (first | (with_reducible first | exact HB.out | apply below_alloc | apply pw_below_drewN | apply below_drew1 | refine below_set ?_ GE238.out | refine below_set ?_ GE239.out | refine below_set ?_ GE240.out) | exact HB.out)) hb); clear BK238; clear BK239; clear BK240; clear HB; have BK238 := n0_; have BK239 := n1_; have BK240 := n2_; have HB := n3_; clear n0_ n1_ n2_ n3_; (try clear hb); (try clear hb2); (try clear hk); (try clear hi); have hnb70 := NB239_240.out; have hnc70 := NB240_239.out; have hcz71_0 : w69.cell? ⟨gb239, 0, none⟩ = some (.bool a1_0) := (blk_cell BK239.out 0).trans rfl; have hcz71_1 : w69.cell? ⟨gb239, 1, none⟩ = some (.string a1_1) := (blk_cell BK239.out 1).trans rfl; have hcz71_2 : w69.cell? ⟨gb239, 2, none⟩ = some (.int .i64 a1_2) := (blk_cell BK239.out 2).trans rfl; have hfz71_0 := blk_frozen BK239.out 0; have hfz71_1 := blk_frozen BK239.out 1; have hfz71_2 := blk_frozen BK239.out 2) | (go_at_call 27; (with_reducible refine (impl_DecOk.calls a1_0 a1_1 a1_2 false _ A5.out).mono ?_); rintro e w72 ⟨rfl, hb⟩; have n0_ := Aside0.mk (blk_below (g := gb238) (o := .cells #[.bool a0_0, .string a0_1, .int .i64 a0_2] 26 (0, 0)) (by refine blk_up ?_; exact BK238.out) hb); have n1_ := Aside0.mk (blk_below (g := gb239) (o := .cells #[.bool a1_0, .string a1_1, .int .i64 a1_2] 26 (0, 0)) (by refine blk_up ?_; exact BK239.out) hb); have n2_ := Aside0.mk (blk_below (g := gb240) (o := .cells #[.bool false, .string (⟨#[]⟩ : ByteArray), .int .i64 0] 26 (0, 0)) (by refine blk_up ?_; exact BK240.out) hb); have n3_ := Aside0.mk (below_step (by repeat (first | (with_reducible first | exact HB.out | apply below_alloc | apply pw_below_drewN | apply below_drew1 | refine below_set ?_ GE238.out | refine below_set ?_ GE239.out | refine below_set ?_ GE240.out) | exact HB.out)) hb); clear BK238; clear BK239; clear BK240; clear HB; have BK238 := n0_; have BK239 := n1_; have BK240 := n2_; have HB := n3_; clear n0_ n1_ n2_ n3_; (try clear hb); (try clear hb2); (try clear hk); (try clear hi); have hcz73_0 : w72.cell? ⟨gb240, 0, none⟩ = some (.bool false) := (blk_cell BK240.out 0).trans rfl; have hcz73_1 : w72.cell? ⟨gb240, 1, none⟩ = some (.string (⟨#[]⟩ : ByteArray)) := (blk_cell BK240.out 1).trans rfl; have hcz73_2 : w72.cell? ⟨gb240, 2, none⟩ = some (.int .i64 0) := (blk_cell BK240.out 2).trans rfl; have hfz73_0 := blk_frozen BK240.out 0; have hfz73_1 := blk_frozen BK240.out 1; have hfz73_2 := blk_frozen BK240.out 2))
   refine bodyPost_ret (results_ct rfl _ _ gb240 26 #[.bool false, .string (⟨#[]⟩ : ByteArray), .int .i64 0] (0, 0) _ rfl (by refine blk_up ?_; refine blk_put (cs := #[.bool false, .string (⟨#[]⟩ : ByteArray), .int .i64 0]) ?_ 2 _ rfl; refine blk_up ?_; refine blk_put (cs := #[.bool false, .string (⟨#[]⟩ : ByteArray), .int .i64 0]) ?_ 1 _ rfl; refine blk_up ?_; refine blk_put (cs := #[.bool false, .string (⟨#[]⟩ : ByteArray), .int .i64 0]) ?_ 0 _ rfl; refine blk_up ?_; exact BK240.out) Tryd.underlying26 rfl (by kernel_rfl)) rfl ?_
   exact ⟨by first | rfl | (simp [errW_none, errW_some] <;> rfl) | (simp [*, errW_none, errW_some] <;> rfl), by repeat (first | (with_reducible first | exact HB.out | apply below_alloc | apply pw_below_drewN | apply below_drew1 | refine below_set ?_ GE238.out | refine below_set ?_ GE239.out | refine below_set ?_ GE240.out) | exact HB.out)⟩
 ·replace c4 := Bool.eq_false_iff.mpr c4
  subst c4
  have H1 : (some (false, (⟨#[]⟩ : ByteArray), 0, false)) = some (r1, r2, r3, r4) := by rw [if_neg (show ¬ (false = true) by decide)] at H; exact H
  clear H
  have H := H1
  clear H1
  simp only [Option.some.injEq, Prod.mk.injEq] at H
  obtain ⟨rfl, rfl, rfl, rfl⟩ := H
  go_enter Tryd.func17, Tryd.ntmps17
  go_wp2_with (first | ((with_reducible refine gate_dst (N := 2) rfl ?_); refine box_event ?hg (N := 2) ?hd (cs := #[.bool a0_0, .string a0_1, .int .i64 a0_2]) (t := 26) ?hr ?_; (case hd => rfl); (case hg => rfl); (case hr => first | (go_simp; done) | (go_simp; rfl)); intro gb238 hg w74 hbox hb; have n0_ := Aside0.mk (below_step (by repeat (first | (with_reducible first | exact HB.out | apply below_alloc | apply pw_below_drewN | apply below_drew1) | exact HB.out)) hb); have n1_ := Aside0.mk (hbox); have n2_ := Aside0.mk ((by rw [hg]; exact (below_size (by repeat (first | (with_reducible first | exact HB.out | apply below_alloc | apply pw_below_drewN | apply below_drew1) | exact HB.out))) : w.heap.size ≤ gb238)); have n3_ := Aside0.mk ((by rw [hg]; exact (below_size (by repeat (first | (with_reducible first | exact HB.out | apply below_alloc | apply pw_below_drewN | apply below_drew1) | exact HB.out))) : w.heap.size ≤ gb238)); clear HB; have HB := n0_; have BK238 := n1_; have GW238 := n2_; have GE238 := n3_; clear n0_ n1_ n2_ n3_; clear hb hbox hg) | ((with_reducible refine gate_dst (N := 3) rfl ?_); refine box_event ?hg (N := 3) ?hd (cs := #[.bool a1_0, .string a1_1, .int .i64 a1_2]) (t := 26) ?hr ?_; (case hd => rfl); (case hg => rfl); (case hr => first | (go_simp; done) | (go_simp; rfl)); intro gb239 hg w75 hbox hb; have n0_ := Aside0.mk (blk_below (g := gb238) (o := .cells #[.bool a0_0, .string a0_1, .int .i64 a0_2] 26 (0, 0)) (by refine blk_up ?_; exact BK238.out) hb); have n1_ := Aside0.mk (below_step (by repeat (first | (with_reducible first | exact HB.out | apply below_alloc | apply pw_below_drewN | apply below_drew1 | refine below_set ?_ GE238.out) | exact HB.out)) hb); have n2_ := Aside0.mk (hbox); have n3_ := Aside0.mk ((by rw [hg]; exact (below_size (by repeat (first | (with_reducible first | exact HB.out | apply below_alloc | apply pw_below_drewN | apply below_drew1 | refine below_set ?_ GE238.out) | exact HB.out))) : w.heap.size ≤ gb239)); have n4_ := Aside0.mk ((by rw [hg]; exact (below_size (by repeat (first | (with_reducible first | exact HB.out | apply below_alloc | apply pw_below_drewN | apply below_drew1 | refine below_set ?_ GE238.out) | exact HB.out))) : w.heap.size ≤ gb239)); have n5_ := Aside0.mk ((by rw [hg]; exact Nat.ne_of_lt (blk_lt (g := gb238) (o := .cells #[.bool a0_0, .string a0_1, .int .i64 a0_2] 26 (0, 0)) (by refine blk_up ?_; exact BK238.out)) : gb238 ≠ gb239)); have n6_ := Aside0.mk ((by rw [hg]; exact Nat.ne_of_gt (blk_lt (g := gb238) (o := .cells #[.bool a0_0, .string a0_1, .int .i64 a0_2] 26 (0, 0)) (by refine blk_up ?_; exact BK238.out)) : gb239 ≠ gb238)); clear BK238; clear HB; have BK238 := n0_; have HB := n1_; have BK239 := n2_; have GW239 := n3_; have GE239 := n4_; have NB238_239 := n5_; have NB239_238 := n6_; clear n0_ n1_ n2_ n3_ n4_ n5_ n6_; clear hb hbox hg) | ((with_reducible refine gate_dst (N := 4) rfl ?_); refine box_event ?hg (N := 4) ?hd (cs := #[.bool false, .string (⟨#[]⟩ : ByteArray), .int .i64 0]) (t := 26) ?hr ?_; (case hd => rfl); (case hg => rfl); (case hr => first | (go_simp; done) | (go_simp; rfl)); intro gb240 hg w76 hbox hb; have n0_ := Aside0.mk (blk_below (g := gb238) (o := .cells #[.bool a0_0, .string a0_1, .int .i64 a0_2] 26 (0, 0)) (by refine blk_up ?_; exact BK238.out) hb); have n1_ := Aside0.mk (blk_below (g := gb239) (o := .cells #[.bool a1_0, .string a1_1, .int .i64 a1_2] 26 (0, 0)) (by refine blk_up ?_; exact BK239.out) hb); have n2_ := Aside0.mk (below_step (by repeat (first | (with_reducible first | exact HB.out | apply below_alloc | apply pw_below_drewN | apply below_drew1 | refine below_set ?_ GE238.out | refine below_set ?_ GE239.out) | exact HB.out)) hb); have n3_ := Aside0.mk (hbox); have n4_ := Aside0.mk ((by rw [hg]; exact (below_size (by repeat (first | (with_reducible first | exact HB.out | apply below_alloc | apply pw_below_drewN | apply below_drew1 | refine below_set ?_ GE238.out | refine below_set ?_ GE239.out) | exact HB.out))) : w.heap.size ≤ gb240)); have n5_ := Aside0.mk ((by rw [hg]; exact (below_size (by repeat (first | (with_reducible first | exact HB.out | apply below_alloc | apply pw_below_drewN | apply below_drew1 | refine below_set ?_ GE238.out | refine below_set ?_ GE239.out) | exact HB.out))) : w.heap.size ≤ gb240)); have n6_ := Aside0.mk ((by rw [hg]; exact Nat.ne_of_lt (blk_lt (g := gb238) (o := .cells #[.bool a0_0, .string a0_1, .int .i64 a0_2] 26 (0, 0)) (by refine blk_up ?_; exact BK238.out)) : gb238 ≠ gb240)); have n7_ := Aside0.mk ((by rw [hg]; exact Nat.ne_of_gt (blk_lt (g := gb238) (o := .cells #[.bool a0_0, .string a0_1, .int .i64 a0_2] 26 (0, 0)) (by refine blk_up ?_; exact BK238.out)) : gb240 ≠ gb238)); have n8_ := Aside0.mk ((by rw [hg]; exact Nat.ne_of_lt (blk_lt (g := gb239) (o := .cells #[.bool a1_0, .string a1_1, .int .i64 a1_2] 26 (0, 0)) (by refine blk_up ?_; exact BK239.out)) : gb239 ≠ gb240)); have n9_ := Aside0.mk ((by rw [hg]; exact Nat.ne_of_gt (blk_lt (g := gb239) (o := .cells #[.bool a1_0, .string a1_1, .int .i64 a1_2] 26 (0, 0)) (by refine blk_up ?_; exact BK239.out)) : gb240 ≠ gb239)); clear BK238; clear BK239; clear HB; have BK238 := n0_; have BK239 := n1_; have HB := n2_; have BK240 := n3_; have GW240 := n4_; have GE240 := n5_; have NB238_240 := n6_; have NB240_238 := n7_; have NB239_240 := n8_; have NB240_239 := n9_; clear n0_ n1_ n2_ n3_ n4_ n5_ n6_ n7_ n8_ n9_; clear hb hbox hg; have hnb77 := NB238_239.out; have hnc77 := NB239_238.out; have hnb78 := NB238_240.out; have hnc78 := NB240_238.out; have hcz79_0 : w76.cell? ⟨gb238, 0, none⟩ = some (.bool a0_0) := (blk_cell BK238.out 0).trans rfl; have hcz79_1 : w76.cell? ⟨gb238, 1, none⟩ = some (.string a0_1) := (blk_cell BK238.out 1).trans rfl; have hcz79_2 : w76.cell? ⟨gb238, 2, none⟩ = some (.int .i64 a0_2) := (blk_cell BK238.out 2).trans rfl; have hfz79_0 := blk_frozen BK238.out 0; have hfz79_1 := blk_frozen BK238.out 1; have hfz79_2 := blk_frozen BK238.out 2) | ((with_reducible refine gate_callee (f := 27) rfl ?_); refine goesL_ (some 14) rfl rfl Tryd.func27 (by kernel_rfl) rfl #[.agg #[.bool a0_0, .string a0_1, .int .i64 a0_2]] rfl (by (try simp only [List.map_toArray, List.map_cons, List.map_nil]); first | done | rfl | (simp only [List.length_drop, List.length_take]; rfl)) ?_; (with_reducible refine (impl_DecOk.calls a0_0 a0_1 a0_2 false _ A3.out).mono ?_); rintro e w80 ⟨rfl, hb⟩; refine ⟨_, rfl, ?_⟩; have n0_ := Aside0.mk (blk_below (g := gb238) (o := .cells #[.bool a0_0, .string a0_1, .int .i64 a0_2] 26 (0, 0)) (by refine blk_up ?_; exact BK238.out) hb); have n1_ := Aside0.mk (blk_below (g := gb239) (o := .cells #[.bool a1_0, .string a1_1, .int .i64 a1_2] 26 (0, 0)) (by refine blk_up ?_; exact BK239.out) hb); have n2_ := Aside0.mk (blk_below (g := gb240) (o := .cells #[.bool false, .string (⟨#[]⟩ : ByteArray), .int .i64 0] 26 (0, 0)) (by refine blk_up ?_; exact BK240.out) hb); have n3_ := Aside0.mk (below_step (by repeat (first | (with_reducible first | exact HB.out | apply below_alloc | apply pw_below_drewN | apply below_drew1 | refine below_set ?_ GE238.out | refine below_set ?_ GE239.out | refine below_set ?_ GE240.out) | exact HB.out)) hb); clear BK238; clear BK239; clear BK240; clear HB; have BK238 := n0_; have BK239 := n1_; have BK240 := n2_; have HB := n3_; clear n0_ n1_ n2_ n3_; (try clear hb); (try clear hb2); (try clear hk); (try clear hi); have hnb81 := NB240_239.out; have hnc81 := NB239_240.out; have hcz82_0 : w80.cell? ⟨gb240, 0, none⟩ = some (.bool false) := (blk_cell BK240.out 0).trans rfl; have hcz82_1 : w80.cell? ⟨gb240, 1, none⟩ = some (.string (⟨#[]⟩ : ByteArray)) := (blk_cell BK240.out 1).trans rfl; have hcz82_2 : w80.cell? ⟨gb240, 2, none⟩ = some (.int .i64 0) := (blk_cell BK240.out 2).trans rfl; have hfz82_0 := blk_frozen BK240.out 0; have hfz82_1 := blk_frozen BK240.out 1; have hfz82_2 := blk_frozen BK240.out 2))
  refine bodyPost_ret (results_ct rfl _ _ gb240 26 #[.bool false, .string (⟨#[]⟩ : ByteArray), .int .i64 0] (0, 0) _ rfl (by refine blk_up ?_; refine blk_put (cs := #[.bool false, .string (⟨#[]⟩ : ByteArray), .int .i64 0]) ?_ 2 _ rfl; refine blk_up ?_; refine blk_put (cs := #[.bool false, .string (⟨#[]⟩ : ByteArray), .int .i64 0]) ?_ 1 _ rfl; refine blk_up ?_; refine blk_put (cs := #[.bool false, .string (⟨#[]⟩ : ByteArray), .int .i64 0]) ?_ 0 _ rfl; refine blk_up ?_; exact BK240.out) Tryd.underlying26 rfl (by kernel_rfl)) rfl ?_
  exact ⟨by first | rfl | (simp [errW_none, errW_some] <;> rfl) | (simp [*, errW_none, errW_some] <;> rfl), by repeat (first | (with_reducible first | exact HB.out | apply below_alloc | apply pw_below_drewN | apply below_drew1 | refine below_set ?_ GE238.out | refine below_set ?_ GE239.out | refine below_set ?_ GE240.out) | exact HB.out)⟩

end Go.Proofs.YtilmhfkbpnejeaaDoor.L

namespace Go.Proofs.YtilmhfkbpnejeaaDoor.Pure
open Go.RowKit Go.Proofs.YtilmhfkbpnejeaaDoor.L Go.Proofs.YtilmhfkbpnejeaaDoorW.PrintWords Go.Proofs.YtilmhfkbpnejeaaDoorW.PrintLast Go.Proofs.YtilmhfkbpnejeaaDoorW.PrintMore
set_option linter.unusedVariables false
set_option linter.unusedSimpArgs false

def RowOk (C : List Int) (i m : Nat) : Prop := ∀ j (h : j < C.length), 0 ≤ C[j] ∧ (C[j] ≤ 9 ∨ (j = i + m ∧ 0 < m ∧ C[j] ≤ 18)) ∧ (j < i ∨ (j = i ∧ 0 < m) → C[j] = 0)
def pv (l m : List UInt8) (i k : Nat) : Nat := nv (l.drop (i + 1)) * nv m + dv (l.getD i 48) * 10 ^ (l.length - 1 - i) * nv (m.drop k)
theorem nv_drop_cons (l : List UInt8) (i : Nat) (h : i < l.length) : nv (l.drop i) = dv l[i] * 10 ^ (l.length - 1 - i) + nv (l.drop (i + 1)) := by
  rw [List.drop_eq_getElem_cons h, nv_cons, List.length_drop]
  have e : l.length - (i + 1) = l.length - 1 - i := by omega
  rw [e]
theorem getD_at (l : List UInt8) (i : Nat) (h : i < l.length) : l.getD i 48 = l[i] := by simp [List.getD, h]
theorem pv_start (l m : List UInt8) (i : Nat) : pv l m i m.length = nv (l.drop (i + 1)) * nv m := by
  unfold pv; rw [List.drop_length]; simp [nv_nil]
theorem pv_end (l m : List UInt8) (i : Nat) (h : i < l.length) : pv l m i 0 = nv (l.drop i) * nv m := by
  unfold pv; rw [getD_at l i h, nv_drop_cons l i h, List.drop_zero, Nat.add_mul, Nat.add_comm]
theorem pv_step (l m : List UInt8) (i k : Nat) (hi : i < l.length) (hk : k < m.length) : pv l m i k = pv l m i (k + 1) + dv l[i] * dv m[k] * 10 ^ ((l.length - 1 - i) + (m.length - 1 - k)) := by
  unfold pv
  rw [getD_at l i hi, nv_drop_cons m k hk, Nat.mul_add, Nat.pow_add]
  have : dv l[i] * 10 ^ (l.length - 1 - i) * (dv m[k] * 10 ^ (m.length - 1 - k)) = dv l[i] * dv m[k] * (10 ^ (l.length - 1 - i) * 10 ^ (m.length - 1 - k)) := by
    simp only [Nat.mul_assoc, Nat.mul_left_comm]
  rw [this]; omega
theorem set2_get (C : List Int) (a b j : Nat) (x y : Int) (hb : b < C.length) (hab : a ≠ b) (h : j < ((C.set a x).set b y).length) :
    ((C.set a x).set b y)[j] = if j = b then y else if j = a then x else C[j]'(by simpa using h) := by
  rw [List.getElem_set]
  by_cases e : b = j
  · rw [if_pos e, if_pos e.symm]
  · rw [if_neg e, if_neg (fun h => e h.symm), List.getElem_set]
    by_cases e2 : a = j
    · rw [if_pos e2, if_pos e2.symm]
    · rw [if_neg e2, if_neg (fun h => e2 h.symm)]
theorem row_step (C : List Int) (i m : Nat) (hl : i + m + 1 < C.length) (hl2 : i + m < C.length) (h : RowOk C i (m + 1)) (d : Int) (d0 : 0 ≤ d) (d1 : d ≤ 81) (A B : Int) (eA : C[i + m + 1] = A) (eB : C[i + m] = B) :
    RowOk ((C.set (i + m + 1) ((A + d) % 10)).set (i + m) (B + (A + d) / 10)) i m := by
  intro j hj
  rw [set2_get C _ _ j _ _ hl2 (by omega) hj]
  have hA := h (i + m + 1) hl
  have hB := h (i + m) hl2
  rw [eA] at hA
  rw [eB] at hB
  have hA18 : A ≤ 18 := by rcases hA.2.1 with h | ⟨_, _, h⟩ <;> omega
  have hB9 : B ≤ 9 := by rcases hB.2.1 with h | ⟨h, _⟩ <;> omega
  have a0 := hA.1
  have b0 := hB.1
  have bz := hB.2.2
  clear hA hB eA eB
  by_cases e : j = i + m
  · rw [if_pos e]
    refine ⟨by omega, ?_, by omega⟩
    by_cases m0 : m = 0
    · have : B = 0 := bz (by omega)
      left; omega
    · right; omega
  · rw [if_neg e]
    by_cases e2 : j = i + m + 1
    · rw [if_pos e2]
      exact ⟨by omega, by omega, by omega⟩
    · rw [if_neg e2]
      have hJ := h j (by simpa using hj)
      refine ⟨hJ.1, ?_, fun hz => hJ.2.2 (by omega)⟩
      rcases hJ.2.1 with h | ⟨h, _⟩
      · exact .inl h
      · omega
theorem cv_alg (c A B d P Q M : Int) (hM : M = A + d - 10 * Q) : c + (M - A) * P + (B + Q - B) * (P * ((10 : Nat) : Int)) = c + d * P := by
  have k2 : B + Q - B = Q := by omega
  have k3 : M - A = d - 10 * Q := by omega
  rw [k2, k3, Int.sub_mul]
  have k4 : Q * (P * ((10 : Nat) : Int)) = 10 * Q * P := by rw [Int.mul_comm P, ← Int.mul_assoc, Int.mul_comm Q]; rfl
  rw [k4]; omega
theorem cv_set2 (C : List Int) (a : Nat) (hl : a + 1 < C.length) (hl2 : a < C.length) (d A B : Int) (eA : C[a + 1] = A) (eB : C[a] = B) :
    cv ((C.set (a + 1) ((A + d) % 10)).set a (B + (A + d) / 10)) = cv C + d * ((10 ^ (C.length - 2 - a) : Nat) : Int) := by
  have h1 := cv_set (C.set (a + 1) ((A + d) % 10)) a (by rw [List.length_set]; exact hl2) (B + (A + d) / 10)
  have e : (C.set (a + 1) ((A + d) % 10))[a]'(by rw [List.length_set]; exact hl2) = B := by rw [List.getElem_set, if_neg (by omega)]; exact eB
  rw [e, List.length_set, cv_set C (a + 1) hl, eA] at h1
  rw [h1]
  have e1 : C.length - 1 - (a + 1) = C.length - 2 - a := by omega
  have e2 : C.length - 1 - a = (C.length - 2 - a) + 1 := by omega
  rw [e1, e2, Nat.pow_succ, Int.natCast_mul]
  exact cv_alg _ A B d _ ((A + d) / 10) ((A + d) % 10) (by omega)
theorem w_ik1 (i k : Nat) (h : i + k ≤ 1000) : wrap64 ((i : Int) + (k : Int)) = ((i + k : Nat) : Int) ∧ wrap64 (((i + k : Nat) : Int) + 1) = ((i + k + 1 : Nat) : Int) ∧ wrap64 ((k : Int) - 1) = (k : Int) - 1 :=
  ⟨by rw [w64 (by omega) (by omega)]; omega, by rw [w64 (by omega) (by omega)]; omega, by rw [w64 (by omega) (by omega)]⟩
theorem w_99 {x : Int} {p : Nat} (h : p ≤ 81) (h0 : 0 ≤ x) (h1 : x ≤ 18) : wrap64 (x + (p : Int)) = x + (p : Int) := w64 (by omega) (by omega)
theorem w_tdiv {s : Int} (h0 : 0 ≤ s) (h1 : s ≤ 99) : wrap64 (Int.tdiv s 10) = s / 10 ∧ Int.tmod s 10 = s % 10 := by
  rw [Int.tdiv_eq_ediv_of_nonneg h0, Int.tmod_eq_emod_of_nonneg h0]
  exact ⟨w64 (by omega) (by omega), rfl⟩
theorem w_b {x s : Int} (h0 : 0 ≤ x) (h1 : x ≤ 9) (s0 : 0 ≤ s) (s1 : s ≤ 99) : wrap64 (x + s / 10) = x + s / 10 := w64 (by omega) (by omega)
theorem rd_set (C : List Int) (a b : Nat) (x : Int) (h : b < C.length) (hab : a ≠ b) : rd (C.set a x) (b : Int) = C[b] := by
  rw [rd_at _ b (by rw [List.length_set]; exact h), List.getElem_set, if_neg hab]
theorem impl_l1_step (f : Nat) (C : List Int) (n0 n1 : Bool) (s0 s1 : ByteArray) (x0 x1 : Int) (d0 : s0.data.toList.all digB = true) (d1 : s1.data.toList.all digB = true) (i m : Nat) (hi : i < s0.data.toList.length) (hm : m < s1.data.toList.length) (hik : i + m ≤ 1000) (hl : i + m + 1 < C.length)
    (hA0 : 0 ≤ C[i + m + 1]) (hA : C[i + m + 1] ≤ 18) (hB0 : 0 ≤ C[i + m]) (hB : C[i + m] ≤ 9) :
    impl_TimesDecW.l1 (f + 1) C (i : Int) (m : Int) n0 s0 x0 n1 s1 x1 = impl_TimesDecW.l1 f ((C.set (i + m + 1) ((C[i + m + 1] + ((dv s0.data.toList[i] * dv s1.data.toList[m] : Nat) : Int)) % 10)).set (i + m) (C[i + m] + (C[i + m + 1] + ((dv s0.data.toList[i] * dv s1.data.toList[m] : Nat) : Int)) / 10)) (i : Int) ((m : Int) - 1) n0 s0 x0 n1 s1 x1 := by
  have y0 := sz s0
  have y1 := sz s1
  have g1 : (m : Int) ≥ 0 := by omega
  have g1' : (0 : Int) ≤ (m : Int) := by omega
  have g2 : (0 : Int) ≤ ((i + m + 1 : Nat) : Int) := by omega
  have g3 : ((i + m + 1 : Nat) : Int) < (C.length : Int) := by omega
  have g4 : (0 : Int) ≤ (i : Int) := by omega
  have g5 : (i : Int) < (s0.size : Int) := by omega
  have g6 : (m : Int) < (s1.size : Int) := by omega
  have g7 : (0 : Int) ≤ ((i + m : Nat) : Int) := by omega
  have g8 : ((i + m : Nat) : Int) < (C.length : Int) := by omega
  have g9 : i + m < C.length := by omega
  have g10 : i + m + 1 ≠ i + m := by omega
  have l0 := (bt_dig s0 i hi d0).2
  have l1 := (bt_dig s1 m hm d1).2
  have hle := dd_le l0 l1
  obtain ⟨w1, w2, w3⟩ := w_ik1 i m hik
  conv => lhs; unfold impl_TimesDecW.l1
  rw [w1, w2, w3, if_pos g1, if_pos g2, if_pos g3, if_pos g4, if_pos g5, if_pos g1', if_pos g6]
  simp only [Option.bind_some]
  rw [if_pos g7, if_pos g8, rd_at C _ hl, bt_dv s0 i hi d0, bt_dv s1 m hm d1, Int.toNat_natCast, Int.toNat_natCast, w_dd hle, w_99 hle hA0 hA]
  have hs0 : 0 ≤ C[i + m + 1] + ((dv s0.data.toList[i] * dv s1.data.toList[m] : Nat) : Int) := Int.add_nonneg hA0 (Int.natCast_nonneg _)
  have hs1 : C[i + m + 1] + ((dv s0.data.toList[i] * dv s1.data.toList[m] : Nat) : Int) ≤ 99 := by
    have := Int.ofNat_le.2 hle
    exact Int.le_trans (Int.add_le_add hA this) (by decide)
  obtain ⟨q1, q2⟩ := w_tdiv hs0 hs1
  rw [q1, q2, rd_set C _ _ _ g9 g10, w_b hB0 hB hs0 hs1]
theorem impl_l1 (n0 n1 : Bool) (s0 s1 : ByteArray) (x0 x1 : Int) (d0 : s0.data.toList.all digB = true) (d1 : s1.data.toList.all digB = true) (z0 : s0.data.toList.length ≤ 60) (z1 : s1.data.toList.length ≤ 60) (i : Nat) (hi : i < s0.data.toList.length) (R : Bool × ByteArray × Int × Bool)
    (next : ∀ C : List Int, C.length = s0.data.toList.length + s1.data.toList.length → RowOk C i 0 → cv C = (nv (s0.data.toList.drop i) * nv s1.data.toList : Nat) → Ev (fun f => impl_TimesDecW.l0 f C ((i : Int) - 1) n0 s0 x0 n1 s1 x1) R) :
    ∀ (m : Nat) (C : List Int), m ≤ s1.data.toList.length → C.length = s0.data.toList.length + s1.data.toList.length → RowOk C i m → cv C = (pv s0.data.toList s1.data.toList i m : Nat) →
      Ev (fun f => impl_TimesDecW.l1 f C (i : Int) ((m : Int) - 1) n0 s0 x0 n1 s1 x1) R := by
  intro m
  induction m with
  | zero =>
    intro C hm hl hC hv
    rw [pv_end _ _ i hi] at hv
    refine Ev.step (fun f => ?_) (next C hl hC hv)
    conv => lhs; unfold impl_TimesDecW.l1
    rw [if_neg (by omega), w64 (by omega) (by omega)]
  | succ m ih =>
    intro C hm hl hC hv
    have hm' : m < s1.data.toList.length := by omega
    have hat : i + m + 1 < C.length := by omega
    have hle : dv s0.data.toList[i] * dv s1.data.toList[m] ≤ 81 := dd_le (bt_dig s0 i hi d0).2 (bt_dig s1 m hm' d1).2
    have e3 : C.length - 2 - (i + m) = (s0.data.toList.length - 1 - i) + (s1.data.toList.length - 1 - m) := by omega
    have hik : i + m ≤ 1000 := by omega
    have g9 : i + m < C.length := by omega
    have hm2 : m ≤ s1.data.toList.length := by omega
    have hA := hC (i + m + 1) hat
    have hB := hC (i + m) g9
    have hA18 : C[i + m + 1] ≤ 18 := by rcases hA.2.1 with h | ⟨_, _, h⟩ <;> omega
    have hB9 : C[i + m] ≤ 9 := by rcases hB.2.1 with h | ⟨h, _⟩ <;> omega
    have IH := ih _ hm2 (by rw [List.length_set, List.length_set]; exact hl) (row_step C i m hat g9 hC ((dv s0.data.toList[i] * dv s1.data.toList[m] : Nat) : Int) (Int.natCast_nonneg _) (Int.ofNat_le.2 hle) _ _ rfl rfl) (by
      rw [cv_set2 C (i + m) hat g9 _ _ _ rfl rfl, hv, pv_step _ _ i m hi hm', e3, Int.natCast_add, Int.natCast_mul (dv s0.data.toList[i] * dv s1.data.toList[m])])
    refine Ev.step (fun f => ?_) IH
    rw [pred_cast m]
    exact impl_l1_step f C n0 n1 s0 s1 x0 x1 d0 d1 i m hi hm' hik hat hA.1 hA18 hB.1 hB9
theorem dig_48 {c : Int} (h0 : 0 ≤ c) (h1 : c ≤ 9) : (48 + c % 256) % 256 = ((dig c.toNat).toNat : Int) := by rw [dig_nat (by omega)]; omega
theorem w_j1 (j : Nat) (h : j ≤ 1000) : wrap64 ((j : Int) + 1) = ((j + 1 : Nat) : Int) := by rw [w64 (by omega) (by omega)]; omega
theorem impl_l2 (n0 n1 : Bool) (s0 s1 : ByteArray) (x0 x1 : Int) (C : List Int) (hC : ∀ x ∈ C, 0 ≤ x ∧ x ≤ 9) (hn : C.length ≤ 1000) (g0 : 0 ≤ x0 + x1) (g1 : x0 + x1 ≤ 1000) :
    ∀ (d j : Nat) (E : List UInt8), j + d = C.length → E = (C.take j).map (fun c => dig c.toNat) →
      Ev (fun k => impl_TimesDecW.l2 k (toI E) C (C.length : Int) (j : Int) n0 s0 x0 n1 s1 x1) (norm (n0 != n1) (C.map (fun c => dig c.toNat)) (x0 + x1).toNat) := by
  intro d
  induction d with
  | zero =>
    intro j E hj hE
    have hjl : j = C.length := by omega
    rw [hjl, List.take_length] at hE
    have hx := made_f (n0 != n1) (x0 + x1).toNat (mkB E) (by omega) (by rw [sz, mkB_list, hE, List.length_map]; omega)
    rw [mkB_list] at hx
    rw [← hE]
    refine Ev.step (fun k => ?_) (Ev.bind hx (Ev.now _))
    have e : ((x0 + x1).toNat : Int) = x0 + x1 := by omega
    conv => lhs; unfold impl_TimesDecW.l2
    rw [if_neg (by omega), w64 (by omega) (by omega), str_toI, e]
  | succ d ih =>
    intro j E hj hE
    have c0 : j < C.length := by omega
    obtain ⟨p0, p1⟩ := hC C[j] (List.getElem_mem c0)
    have hd10 : C[j].toNat < 10 := by omega
    have hlen : E.length = j := by rw [hE, List.length_map, List.length_take]; omega
    have IH := ih (j + 1) (E ++ [dig C[j].toNat]) (by omega) (by rw [hE, List.take_succ_eq_append_getElem c0, List.map_append]; rfl)
    refine Ev.step (fun k => ?_) IH
    have g1 : (j : Int) < (C.length : Int) := by omega
    have g2 : (0 : Int) ≤ (j : Int) := by omega
    have g3 : (toI E).length < 140737488355328 := by rw [toI_len]; omega
    have k2 : toI (E ++ [dig C[j].toNat]) = toI E ++ [((dig C[j].toNat).toNat : Int)] := by simp [toI]
    conv => lhs; unfold impl_TimesDecW.l2
    rw [if_pos g1, if_pos g2, if_pos g1, if_pos g3, rd_at C j c0, dig_48 p0 p1, k2, w_j1 j (by omega)]
theorem row_all {C : List Int} {i : Nat} (h : RowOk C i 0) : ∀ x ∈ C, 0 ≤ x ∧ x ≤ 9 := by
  intro x hx
  obtain ⟨j, hj, rfl⟩ := List.getElem_of_mem hx
  have := h j hj
  exact ⟨this.1, by rcases this.2.1 with h | ⟨_, h, _⟩ <;> omega⟩
theorem row_next {C : List Int} {i m : Nat} (h : RowOk C (i + 1) 0) : RowOk C i m := by
  intro j hj
  have := h j hj
  refine ⟨this.1, .inl (by rcases this.2.1 with h | ⟨_, h, _⟩ <;> omega), fun hz => this.2.2 (by omega)⟩
theorem cv_digs (C : List Int) (h : ∀ x ∈ C, 0 ≤ x ∧ x ≤ 9) : (nv (C.map fun c => dig c.toNat) : Int) = cv C ∧ (C.map fun c => dig c.toNat).all digB = true := by
  have hd : (C.map fun c => dig c.toNat).all digB = true := by
    rw [List.all_eq_true]
    intro b hb
    obtain ⟨c, hc, rfl⟩ := List.mem_map.1 hb
    have := h c hc
    exact (dig_ok (by omega)).1
  refine ⟨?_, hd⟩
  rw [← cv_toI _ hd, List.map_map]
  congr 1
  conv => rhs; rw [← List.map_id C]
  refine List.map_congr_left (fun c hc => ?_)
  have := h c hc
  show ((dig c.toNat).toNat : Int) - 48 = c
  rw [dig_nat (by omega)]; omega
theorem impl_l0 (n0 n1 : Bool) (s0 s1 : ByteArray) (x0 x1 : Int) (d0 : s0.data.toList.all digB = true) (d1 : s1.data.toList.all digB = true) (z0 : s0.data.toList.length ≤ 60) (z1 : s1.data.toList.length ≤ 60) (g0 : 0 ≤ x0 + x1) (g1 : x0 + x1 ≤ 1000) :
    ∀ (i : Nat) (C : List Int), i ≤ s0.data.toList.length → C.length = s0.data.toList.length + s1.data.toList.length → RowOk C i 0 → cv C = (nv (s0.data.toList.drop i) * nv s1.data.toList : Nat) →
      Ev (fun f => impl_TimesDecW.l0 f C ((i : Int) - 1) n0 s0 x0 n1 s1 x1) (norm (n0 != n1) (prod s0 s1) (x0 + x1).toNat) := by
  have y1 := sz s1
  intro i
  induction i with
  | zero =>
    intro C hi hl hC hv
    have hall := row_all hC
    obtain ⟨hc, hd⟩ := cv_digs C hall
    have key := impl_l2 n0 n1 s0 s1 x0 x1 C hall (by omega) g0 g1 C.length 0 [] (by omega) (by simp)
    rw [norm_eq (m := (n0 != n1)) (k := prod s0 s1) hd (dlist_dig _ _) (by rw [hc, hv, List.drop_zero, prod_nv d0 d1])] at key
    refine Ev.step (fun f => ?_) key
    conv => lhs; unfold impl_TimesDecW.l0
    rw [if_neg (by omega)]
    rfl
  | succ i ih =>
    intro C hi hl hC hv
    have hi' : i < s0.data.toList.length := by omega
    have := impl_l1 n0 n1 s0 s1 x0 x1 d0 d1 z0 z1 i hi' _ (fun C' a b c => ih C' (by omega) a b c) s1.data.toList.length C (Nat.le_refl _) hl (row_next hC) (by rw [pv_start]; exact hv)
    refine Ev.step (fun f => ?_) this
    have w1 : wrap64 ((s1.size : Int) - 1) = ((s1.data.toList.length : Int) - 1) := by rw [w64 (by omega) (by omega)]; omega
    have e : (((i + 1 : Nat) : Int) - 1) = (i : Int) := by omega
    conv => lhs; unfold impl_TimesDecW.l0
    rw [e, if_pos (by omega), w1]
theorem times_implW (n0 n1 : Bool) (s0 s1 : ByteArray) (x0 x1 : Int) (hs0 : s0.size ≤ 1000000) (hs1 : s1.size ≤ 1000000) : Ev (fun k => impl_TimesDecW.f k n0 s0 x0 n1 s1 x1) (timesR n0 s0 x0 n1 s1 x1) := by
  have q0 := impl_DecOk_f n0 s0 x0 (by omega)
  have q1 := impl_DecOk_f n1 s1 x1 (by omega)
  have y0 := sz s0
  have y1 := sz s1
  unfold impl_TimesDecW.f timesR
  rw [q0, q1]
  simp only [Option.bind_some]
  cases e0 : okB n0 s0 x0 with
  | false => exact Ev.now _
  | true =>
    cases e1 : okB n1 s1 x1 with
    | false => exact Ev.now _
    | true =>
      obtain ⟨z0, a0, a1⟩ := ok_len e0
      obtain ⟨z1, b0, b1⟩ := ok_len e1
      have key := impl_l0 n0 n1 s0 s1 x0 x1 (ok_all e0) (ok_all e1) (by omega) (by omega) (by omega) (by omega) s0.data.toList.length (List.replicate (s0.data.toList.length + s1.data.toList.length) 0) (Nat.le_refl _) (by simp) (by
        intro j hj; rw [List.getElem_replicate]; exact ⟨by omega, by omega, fun _ => rfl⟩) (by rw [cv_zeros, List.drop_length, nv_nil]; simp)
      have w1 : wrap64 ((s0.size : Int) + (s1.size : Int)) = ((s0.data.toList.length + s1.data.toList.length : Nat) : Int) := by rw [w64 (by omega) (by omega)]; omega
      have w2 : wrap64 ((s0.size : Int) - 1) = ((s0.data.toList.length : Int) - 1) := by rw [w64 (by omega) (by omega)]; omega
      simp only [if_true, Bool.and_self]
      rw [w1, w2]
      refine Ev.congr (fun k => ?_) key
      rw [if_pos (by omega), if_pos (by rw [Int.toNat_natCast]; omega), Int.toNat_natCast]
end Go.Proofs.YtilmhfkbpnejeaaDoor.Pure

namespace Go.Proofs.YtilmhfkbpnejeaaDoor.L
open Go.RowKit Go.Proofs.YtilmhfkbpnejeaaDoorW.PrintWords Go.Proofs.YtilmhfkbpnejeaaDoorW.PrintLast Go.Proofs.YtilmhfkbpnejeaaDoorW.PrintMore Go.Proofs.YtilmhfkbpnejeaaDoor.Pure
theorem impl_TimesDec.calls (a0_0 : Bool) (a0_1 : ByteArray) (a0_2 : Int) (a1_0 : Bool) (a1_1 : ByteArray) (a1_2 : Int) (r1 : Bool) (r2 : ByteArray) (r3 : Int) (r4 : Bool) (w : World) (h : impl_TimesDec.f a0_0 a0_1 a0_2 a1_0 a1_1 a1_2 = some (r1, r2, r3, r4)) :
    Calls Tryd.prog 17 #[.agg #[.bool a0_0, .string a0_1, .int .i64 a0_2], .agg #[.bool a1_0, .string a1_1, .int .i64 a1_2]] w fun e w' => e = .returned (.tuple #[.agg #[.bool r1, .string r2, .int .i64 r3], .bool r4]) ∧ Below w.heap.size w w' := by
  have hs : a0_1.size ≤ 1000000 ∧ a1_1.size ≤ 1000000 := by
    unfold impl_TimesDec.f at h
    by_cases c : a0_1.size ≤ 1000000 ∧ a1_1.size ≤ 1000000
    · exact c
    · rw [if_neg c] at h; cases h
  rw [times_f _ _ _ _ _ _ hs.1 hs.2] at h
  have hr := Option.some.inj h
  have key := times_implW a0_0 a1_0 a0_1 a1_1 a0_2 a1_2 hs.1 hs.2
  rw [hr] at key
  obtain ⟨k, hk⟩ := Ev.rounds key
  exact impl_TimesDecW.calls k a0_0 a0_1 a0_2 a1_0 a1_1 a1_2 r1 r2 r3 r4 w hk
end Go.Proofs.YtilmhfkbpnejeaaDoor.L
