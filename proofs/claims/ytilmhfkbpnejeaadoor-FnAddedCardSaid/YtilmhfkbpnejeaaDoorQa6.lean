/- Words and contracts for the row RowFnAdded: what the Go functions answer that it calls; printed by programs of the kit and of this session, and merged. -/
import Derived.Test.YtilmhfkbpnejeaaDoorQa5
namespace Go.Proofs.YtilmhfkbpnejeaaDoor.Pure
open Go.RowKit Go.Proofs.YtilmhfkbpnejeaaDoor.L Go.Proofs.YtilmhfkbpnejeaaDoorW.PrintWords Go.Proofs.YtilmhfkbpnejeaaDoorW.PrintLast Go.Proofs.YtilmhfkbpnejeaaDoorW.PrintMore
set_option linter.unusedVariables false
set_option linter.unusedSimpArgs false

def whole (l : List UInt8) : List UInt8 := l.takeWhile (· != 46)
def part (l : List UInt8) : List UInt8 := (l.dropWhile (· != 46)).drop 1
def readB (n : Bool) (l : List UInt8) : Bool × ByteArray × Int × Bool :=
  if l.length > 180 then zeroQ false
  else if (whole l).all digB = true then (if (part l).all digB = true then (if whole l ++ part l = [] then zeroQ false else norm n (whole l ++ part l) (part l).length) else zeroQ false) else zeroQ false
def readD : List UInt8 → Bool × ByteArray × Int × Bool
  | [] => readB false []
  | b :: t => if b = 45 then readB true t else if b = 43 then readB false t else readB false (b :: t)

theorem whole_add (l : List UInt8) : whole l ++ l.dropWhile (· != 46) = l := List.takeWhile_append_dropWhile
theorem whole_len (l : List UInt8) : (whole l).length ≤ l.length := by
  have := congrArg List.length (whole_add l)
  rw [List.length_append] at this
  omega
theorem take_whole (l : List UInt8) : l.take (whole l).length = whole l := by
  conv => lhs; arg 2; rw [← whole_add l]
  exact List.take_left
theorem drop_whole (l : List UInt8) : l.drop (whole l).length = l.dropWhile (· != 46) := by
  conv => lhs; arg 2; rw [← whole_add l]
  exact List.drop_left
theorem drop_part (l : List UInt8) : l.drop ((whole l).length + 1) = part l := by
  rw [part, ← drop_whole, List.drop_drop]
theorem part_nil (l : List UInt8) (h : (whole l).length = l.length) : part l = [] := by
  rw [← drop_part, List.drop_of_length_le (by omega)]
theorem at_whole : ∀ (l : List UInt8) (i : Nat) (h : i < l.length), (i < (whole l).length → l[i] ≠ 46) ∧ (i = (whole l).length → l[i] = 46)
  | [], i, h => by simp at h
  | b :: t, i, h => by
    by_cases c : b = 46
    · subst c
      have e : whole (46 :: t) = [] := rfl
      rw [e]
      refine ⟨fun h => by simp at h, fun h => ?_⟩
      have : i = 0 := by simpa using h
      subst this; rfl
    · have c' : (b != 46) = true := by simpa using c
      have e : whole (b :: t) = b :: whole t := by simp only [whole, List.takeWhile, c']
      rw [e, List.length_cons]
      match i, h with
      | 0, h => exact ⟨fun _ => c, fun h => by omega⟩
      | i + 1, h =>
        have ih := at_whole t i (by simpa using h)
        exact ⟨fun h => ih.1 (by omega), fun h => ih.2 (by omega)⟩
theorem b46 (b : UInt8) : ((b.toNat : Int) = 46) ↔ b = 46 := by
  constructor
  · intro h
    apply UInt8.toNat.inj
    have e2 : (46 : UInt8).toNat = 46 := rfl
    omega
  · intro h; subst h; rfl

theorem spec_j4 (n : Bool) (s w p : ByteArray) (hs : s.size ≤ 1000000) (hw : w.data.toList = whole s.data.toList) (hp : p.data.toList = part s.data.toList) :
    Ev (fun k => spec_ReadDec.j4 k s n w p) (readB n s.data.toList) := by
  have hzs := sz s
  have hlw : w.data.toList.length ≤ 1000000 := by rw [hw]; exact Nat.le_trans (whole_len _) (by omega)
  have hlp : p.data.toList.length ≤ 1000000 := by rw [hp, ← drop_part, List.length_drop]; omega
  unfold readB
  by_cases c : s.data.toList.length > 180
  · rw [if_pos c]
    refine Ev.step (f := fun _ => some (zeroQ false)) (fun k => ?_) (Ev.now _)
    simp only [spec_ReadDec.j4]
    rw [if_pos (by omega)]; rfl
  · rw [if_neg c]
    refine Ev.step (f := fun k => ((spec_l4Digits.f k w).bind fun t175 => (if t175 = true then ((spec_l4Digits.f k p).bind fun t176 => (if t176 = true then (if w.size + p.size ≤ 9223372036854775807 then (if (w ++ p).toList = ([] : List UInt8) then (some (false, (⟨#[]⟩ : ByteArray), 0, false)) else ((spec_l4Norm.f k n (w ++ p) (p.size : Int)).bind fun bt177 => (some (bt177.1, bt177.2.1, bt177.2.2.1, bt177.2.2.2)))) else (none)) else (some (false, (⟨#[]⟩ : ByteArray), 0, false)))) else (some (false, (⟨#[]⟩ : ByteArray), 0, false))))) (fun k => ?_) ?_
    · simp only [spec_ReadDec.j4]
      rw [if_neg (by omega)]
    · have d1 := l4Digits w (by omega)
      rw [hw] at d1
      refine Ev.bind d1 ?_
      by_cases c1 : (whole s.data.toList).all digB = true
      · rw [if_pos c1]
        simp only [c1, if_true]
        have d2 := l4Digits p (by omega)
        rw [hp] at d2
        refine Ev.bind d2 ?_
        by_cases c2 : (part s.data.toList).all digB = true
        · simp only [c2, if_true]
          have e1 := sz w
          have e2 := sz p
          simp only [Lib.toList_data, ba_app, hw, hp, show w.size + p.size ≤ 9223372036854775807 by omega, if_true]
          by_cases c3 : whole s.data.toList ++ part s.data.toList = []
          · simp only [c3, if_true]; exact Ev.now _
          · simp only [c3, if_false]
            have d3 := l4Norm_f n (w ++ p) p.data.toList.length hlp (by rw [app_size]; have := whole_len s.data.toList; rw [sz, sz]; have : p.data.toList.length ≤ 180 := (by rw [hp, ← drop_part, List.length_drop]; omega); rw [hw]; omega)
            rw [ba_app, hw, hp, ← hp, ← e2] at d3
            refine Ev.bind d3 ?_
            rw [hp, e2, hp]
            exact Ev.now _
        · rw [if_neg c2]
          simp only [c2]; exact Ev.now _
      · rw [if_neg c1]
        simp only [c1]; exact Ev.now _
theorem spec_j3 (n : Bool) (s : ByteArray) (hs : s.size ≤ 1000000) : Ev (fun k => spec_ReadDec.j3 k s n ((whole s.data.toList).length : Int)) (readB n s.data.toList) := by
  have hz := sz s
  have hl := whole_len s.data.toList
  have e1 : (s.extract 0 (((whole s.data.toList).length : Nat) : Int).toNat).data.toList = whole s.data.toList := by
    rw [Lib.extract_data, List.drop_zero, Int.toNat_natCast, Nat.sub_zero, take_whole]
  by_cases c : (whole s.data.toList).length < s.data.toList.length
  · have hw : wrap64 (((whole s.data.toList).length : Int) + 1) = (((whole s.data.toList).length + 1 : Nat) : Int) := by rw [w64] <;> omega
    refine Ev.step (f := fun k => spec_ReadDec.j4 k s n (s.extract 0 (((whole s.data.toList).length : Nat) : Int).toNat) (s.extract (((whole s.data.toList).length + 1 : Nat) : Int).toNat s.size)) (fun k => ?_) (spec_j4 n s _ _ hs e1 ?_)
    · simp only [spec_ReadDec.j3]
      rw [if_pos (by omega), if_pos (by omega), if_pos (by omega), hw, if_pos (by omega), if_pos (by omega)]
    · rw [Lib.extract_to_end, Int.toNat_natCast, drop_part]
  · refine Ev.step (f := fun k => spec_ReadDec.j4 k s n (s.extract 0 (((whole s.data.toList).length : Nat) : Int).toNat) ⟨#[]⟩) (fun k => ?_) (spec_j4 n s _ _ hs e1 ?_)
    · simp only [spec_ReadDec.j3]
      rw [if_pos (by omega), if_pos (by omega), if_neg (by omega)]
    · rw [part_nil _ (by omega)]
theorem spec_l0 (n : Bool) (s : ByteArray) (hs : s.size ≤ 1000000) : ∀ (m i : Nat), i + m = (whole s.data.toList).length → Ev (fun k => spec_ReadDec.l0 k s n (i : Int)) (readB n s.data.toList) := by
  have hz := sz s
  have hl := whole_len s.data.toList
  intro m
  induction m with
  | zero =>
    intro i hi
    have hi' : i = (whole s.data.toList).length := by omega
    subst hi'
    refine Ev.step (f := fun k => spec_ReadDec.j3 k s n ((whole s.data.toList).length : Int)) (fun k => ?_) (spec_j3 n s hs)
    conv => lhs; unfold spec_ReadDec.l0
    by_cases c : (whole s.data.toList).length < s.data.toList.length
    · rw [if_pos (by omega), if_pos (by omega), bt_nat s _ c, if_pos ((b46 _).2 ((at_whole _ _ c).2 rfl))]
    · rw [if_neg (by omega)]
  | succ m ih =>
    intro i hi
    have c : i < s.data.toList.length := by omega
    refine Ev.step (f := fun k => spec_ReadDec.l0 k s n ((i + 1 : Nat) : Int)) (fun k => ?_) (ih (i + 1) (by omega))
    conv => lhs; unfold spec_ReadDec.l0
    have hw : wrap64 ((i : Int) + 1) = ((i + 1 : Nat) : Int) := by rw [w64] <;> omega
    rw [if_pos (by omega), if_pos (by omega), bt_nat s _ c, if_neg (fun h => (at_whole s.data.toList i c).1 (by omega) ((b46 _).1 h)), hw]
theorem spec_j1 (n : Bool) (s : ByteArray) (hs : s.size ≤ 1000000) : Ev (fun k => spec_ReadDec.j1 k s n) (readB n s.data.toList) :=
  Ev.step (f := fun k => spec_ReadDec.l0 k s n 0) (fun k => by simp only [spec_ReadDec.j1]) (spec_l0 n s hs (whole s.data.toList).length 0 (by omega))
theorem bN (b : UInt8) (m : UInt8) : ((b.toNat : Int) = (m.toNat : Int)) ↔ b = m := by
  constructor
  · intro h; apply UInt8.toNat.inj; omega
  · intro h; subst h; rfl
theorem spec_ReadDec_f (s : ByteArray) (hs : s.size ≤ 1000000) : Ev (fun k => spec_ReadDec.f k s) (readD s.data.toList) := by
  have hz := sz s
  unfold spec_ReadDec.f
  rcases h : s.data.toList with _ | ⟨b, t⟩
  · rw [h] at hz
    have hz' : s.size = 0 := hz
    refine Ev.congr (f := fun k => spec_ReadDec.j0 k s false false) (fun k => by rw [if_neg (by omega)]) ?_
    refine Ev.step (f := fun k => spec_ReadDec.j1 k s false) (fun k => by simp only [spec_ReadDec.j0, Bool.false_eq_true, if_false]) ?_
    have := spec_j1 false s hs
    rw [h] at this
    exact this
  · rw [h, List.length_cons] at hz
    have hb := first_bt s b t h
    have hd : (s.extract 1 s.size).data.toList = t := by rw [Lib.extract_to_end, h]; rfl
    have hds : (s.extract 1 s.size).size ≤ 1000000 := by rw [sz, hd]; omega
    have n45 := bN b 45
    have n43 := bN b 43
    have e45 : ((45 : UInt8).toNat : Int) = 45 := rfl
    have e43 : ((43 : UInt8).toNat : Int) = 43 := rfl
    rw [e45] at n45
    rw [e43] at n43
    refine Ev.congr (f := fun k => if b = 45 then spec_ReadDec.j0 k s false true else spec_ReadDec.j0 k s false (b == 43)) (fun k => ?_) ?_
    · rw [if_pos (by omega), if_pos (by omega), hb]
      by_cases c : b = 45
      · rw [if_pos (n45.2 c), if_pos c]
      · rw [if_neg (fun h => c (n45.1 h)), if_neg c]
        congr 1
        rw [Bool.eq_iff_iff, beq_iff_eq, beq_iff_eq]
        exact n43
    · have jt : Ev (fun k => spec_ReadDec.j0 k s false true) (readB (b == 45) t) := by
        refine Ev.step (f := fun k => spec_ReadDec.j1 k (s.extract 1 s.size) (b == 45)) (fun k => ?_) ?_
        · simp only [spec_ReadDec.j0, if_true]
          rw [if_pos (by omega), if_pos (by omega), hb]
          congr 1
          rw [Bool.eq_iff_iff, beq_iff_eq, beq_iff_eq]
          exact n45
        · have := spec_j1 (b == 45) (s.extract 1 s.size) hds
          rw [hd] at this
          exact this
      unfold readD
      by_cases c : b = 45
      · simp only [c, if_true] at jt ⊢
        exact jt
      · simp only [c, if_false]
        by_cases c3 : b = 43
        · subst c3
          simp only [if_true, beq_self_eq_true] at jt ⊢
          exact jt
        · have c3' : (b == 43) = false := by simpa using c3
          simp only [c3, if_false, c3']
          refine Ev.step (f := fun k => spec_ReadDec.j1 k s false) (fun k => by simp only [spec_ReadDec.j0, Bool.false_eq_true, if_false]) ?_
          have := spec_j1 false s hs
          rw [h] at this
          exact this

/-! ### the program's way -/
/-! ### there and back -/
theorem readD_cons (b : UInt8) (t : List UInt8) : readD (b :: t) = if b = 45 then readB true t else if b = 43 then readB false t else readB false (b :: t) := rfl
theorem readB_good (n : Bool) (l : List UInt8) (h : (readB n l).2.2.2 = true) : okB (readB n l).1 (readB n l).2.1 (readB n l).2.2.1 = true := by
  unfold readB at h ⊢
  by_cases c : l.length > 180
  · rw [if_pos c] at h; cases h
  · rw [if_neg c] at h ⊢
    by_cases c1 : (whole l).all digB = true
    · rw [if_pos c1] at h ⊢
      by_cases c2 : (part l).all digB = true
      · rw [if_pos c2] at h ⊢
        by_cases c3 : whole l ++ part l = []
        · rw [if_pos c3] at h; cases h
        · rw [if_neg c3] at h ⊢
          exact (norm_good n _ _ (by rw [List.all_append, c1, c2]; rfl) h).1
      · rw [if_neg c2] at h; cases h
    · rw [if_neg c1] at h; cases h
theorem readD_good (l : List UInt8) (h : (readD l).2.2.2 = true) : okB (readD l).1 (readD l).2.1 (readD l).2.2.1 = true := by
  rcases l with _ | ⟨b, t⟩
  · exact readB_good false [] h
  · rw [readD_cons] at h ⊢
    by_cases c : b = 45
    · rw [if_pos c] at h ⊢; exact readB_good _ _ h
    · rw [if_neg c] at h ⊢
      by_cases c2 : b = 43
      · rw [if_pos c2] at h ⊢; exact readB_good _ _ h
      · rw [if_neg c2] at h ⊢; exact readB_good _ _ h
theorem norm_cases2 (n : Bool) (l : List UInt8) (x : Nat) : (norm n l x).2.2.2 = true ∨ norm n l x = zeroQ false := by
  cases e : (norm n l x).2.2.2 with
  | true => exact .inl rfl
  | false => exact .inr (norm_bad n l x e)
theorem readB_cases (n : Bool) (l : List UInt8) : (readB n l).2.2.2 = true ∨ readB n l = zeroQ false := by
  unfold readB
  split
  · exact .inr rfl
  · split
    · split
      · split
        · exact .inr rfl
        · exact norm_cases2 _ _ _
      · exact .inr rfl
    · exact .inr rfl
theorem readD_cases (l : List UInt8) : (readD l).2.2.2 = true ∨ readD l = zeroQ false := by
  rcases l with _ | ⟨b, t⟩
  · exact readB_cases false []
  · rw [readD_cons]
    split
    · exact readB_cases _ _
    · split <;> exact readB_cases _ _
theorem readD_len (l : List UInt8) : (readD l).2.1.size ≤ 60 := by
  rcases readD_cases l with h | h
  · exact (ok_len (readD_good l h)).1
  · rw [h]; decide
def Code (l : List Int) : Prop := l.length ≤ 140737488351232 ∧ ∀ x ∈ l, 0 ≤ x ∧ x ≤ 255
def St (l : List Int) (p : Int) : Prop := 0 ≤ p ∧ p ≤ l.length
theorem code_of {l : List Int} (h1 : l.length * 1 ≤ 140737488351232) (h2 : ∀ x ∈ l, (Lit.int .u8 x).wf = true) : Code l :=
  ⟨by omega, fun x hx => by
    have := h2 x hx
    simpa [Lit.wf, IntKind.min, IntKind.max, IntKind.signed, IntKind.bits] using this⟩
theorem rd_byte {l : List Int} (h : Code l) (i : Int) : 0 ≤ rd l i ∧ rd l i ≤ 255 := by
  unfold rd
  rw [List.getD_eq_getElem?_getD]
  rcases e : l[i.toNat]? with _ | x
  · simp
  · exact h.2 x (List.mem_of_getElem? e)
theorem next_f {l : List Int} {p : Int} (h : Code l) (hp : St l p) : ∃ v q, spec_l1Rd_next.f l p = some (v, q) ∧ 0 ≤ v ∧ v ≤ 255 ∧ St l q := by
  have hl := h.1
  obtain ⟨p0, p1⟩ := hp
  unfold spec_l1Rd_next.f
  by_cases c : p ≥ (l.length : Int)
  · rw [if_pos c]; exact ⟨0, p, rfl, by omega, by omega, p0, p1⟩
  · have w1 : wrap64 (p + 1) = p + 1 := by rw [w64] <;> omega
    have w2 : wrap64 (p + 1 - 1) = p := by rw [w64] <;> omega
    have hb := rd_byte h p
    have w3 : wrap64 (rd l p) = rd l p := by rw [w64] <;> omega
    rw [if_neg c, w1, w2, if_pos (by omega), if_pos (by omega), w3]
    exact ⟨_, _, rfl, hb.1, hb.2, by omega, by omega⟩
theorem below_f {l : List Int} {p : Int} (h : Code l) (hp : St l p) (n : Int) (h1 : 1 ≤ n) (h2 : n ≤ 256) : ∃ v q, spec_l1Rd_below.f l p n = some (v, q) ∧ 0 ≤ v ∧ v < n ∧ St l q := by
  unfold spec_l1Rd_below.f
  by_cases c : n ≤ 1
  · rw [if_pos c]; exact ⟨0, p, rfl, by omega, by omega, hp⟩
  · obtain ⟨v, q, e, v0, v1, hq⟩ := next_f h hp
    rw [if_neg c, if_pos h2, e]
    simp only [Option.bind_some]
    rw [if_neg (by omega), Int.tmod_eq_emod_of_nonneg v0]
    exact ⟨_, _, rfl, Int.emod_nonneg _ (by omega), Int.emod_lt_of_pos _ (by omega), hq⟩
theorem once_f {l : List Int} {p : Int} (h : Code l) (hp : St l p) (n : Int) (h1 : 1 ≤ n) (h2 : n ≤ 256) : ∃ v q, spec_l1Rd_once.f l p n = some (v, q) ∧ St l q := by
  obtain ⟨v, q, e, _, _, hq⟩ := below_f h hp n h1 h2
  unfold spec_l1Rd_once.f
  rw [e]
  exact ⟨_, _, rfl, hq⟩
theorem rdOf_size (y : List ByteArray) (i : Int) (n : Nat) (h : ∀ s ∈ y, s.size ≤ n) : (rdOf ByteArray.empty y i).size ≤ n := by
  unfold rdOf
  rw [List.getD_eq_getElem?_getD]
  rcases e : y[i.toNat]? with _ | x
  · simp only [Option.getD_none]; exact Nat.zero_le _
  · exact h x (List.mem_of_getElem? e)

theorem dt_l1 {l : List Int} {p : Int} (hp : St l p) : ∀ (m : Nat) (s : ByteArray) (i : Int), 0 ≤ i → (m : Int) = 60 - i → s.size + m ≤ 1000 →
    ∃ t, Ev (fun k => spec_l1Rd_decText.l1 k s i l p) (t, p) ∧ t.size ≤ s.size + m := by
  intro m
  induction m with
  | zero =>
    intro s i hi hm hs
    refine ⟨s, Ev.step (f := fun _ => some (s, p)) (fun k => ?_) (Ev.now _), by omega⟩
    conv => lhs; unfold spec_l1Rd_decText.l1
    rw [if_neg (by omega)]
  | succ m ih =>
    intro s i hi hm hs
    have e1 : (⟨#[55]⟩ : ByteArray).size = 1 := rfl
    obtain ⟨t, ht, hl⟩ := ih (s ++ (⟨#[55]⟩ : ByteArray)) (i + 1) (by omega) (by omega) (by rw [app_size, e1]; omega)
    refine ⟨t, Ev.step (f := fun k => spec_l1Rd_decText.l1 k (s ++ (⟨#[55]⟩ : ByteArray)) (i + 1) l p) (fun k => ?_) ht, by rw [app_size, e1] at hl; omega⟩
    conv => lhs; unfold spec_l1Rd_decText.l1
    rw [if_pos (by omega), if_pos (by omega), w64 (by omega) (by omega)]
theorem dt_j3 {l : List Int} {p : Int} (h : Code l) (hp : St l p) (s : ByteArray) (hs : s.size ≤ 100) : ∃ t q, Ev (fun k => spec_l1Rd_decText.j3 k s l p) (t, q) ∧ t.size ≤ 160 ∧ St l q := by
  obtain ⟨v, q, e, hq⟩ := once_f h hp 40 (by omega) (by omega)
  cases v with
  | true =>
    obtain ⟨t, ht, hl⟩ := dt_l1 hq 60 s 0 (by omega) (by omega) (by omega)
    refine ⟨t, q, Ev.step (f := fun k => spec_l1Rd_decText.l1 k s 0 l q) (fun k => ?_) ht, by omega, hq⟩
    simp only [spec_l1Rd_decText.j3, e, Option.bind_some, if_true]
  | false =>
    refine ⟨s, q, Ev.step (f := fun k => some (s, q)) (fun k => ?_) (Ev.now _), by omega, hq⟩
    simp only [spec_l1Rd_decText.j3, e, Option.bind_some, Bool.false_eq_true, if_false]
theorem dt_j2 {l : List Int} {p : Int} (h : Code l) (hp : St l p) (s : ByteArray) (hs : s.size ≤ 99) (a : Int) (b : Bool) : ∃ t q, Ev (fun k => spec_l1Rd_decText.j2 k s a b l p) (t, q) ∧ t.size ≤ 160 ∧ St l q := by
  have e1 (c : UInt8) : (⟨#[c]⟩ : ByteArray).size = 1 := rfl
  cases b with
  | true =>
    obtain ⟨t, q, ht, r⟩ := dt_j3 h hp ((⟨#[45]⟩ : ByteArray) ++ s) (by rw [app_size, e1]; omega)
    refine ⟨t, q, Ev.step (f := fun k => spec_l1Rd_decText.j3 k ((⟨#[45]⟩ : ByteArray) ++ s) l p) (fun k => ?_) ht, r⟩
    simp only [spec_l1Rd_decText.j2, if_true]
    rw [if_pos (by omega)]
  | false =>
    by_cases c : a = 2
    · obtain ⟨t, q, ht, r⟩ := dt_j3 h hp ((⟨#[43]⟩ : ByteArray) ++ s) (by rw [app_size, e1]; omega)
      refine ⟨t, q, Ev.step (f := fun k => spec_l1Rd_decText.j3 k ((⟨#[43]⟩ : ByteArray) ++ s) l p) (fun k => ?_) ht, r⟩
      simp only [spec_l1Rd_decText.j2, Bool.false_eq_true, if_false]
      rw [if_pos c, if_pos (by omega)]
    · obtain ⟨t, q, ht, r⟩ := dt_j3 h hp s (by omega)
      refine ⟨t, q, Ev.step (f := fun k => spec_l1Rd_decText.j3 k s l p) (fun k => ?_) ht, r⟩
      simp only [spec_l1Rd_decText.j2, Bool.false_eq_true, if_false]
      rw [if_neg c]
theorem dt_j1 {l : List Int} {p : Int} (h : Code l) (hp : St l p) (s : ByteArray) (hs : s.size ≤ 99) : ∃ t q, Ev (fun k => spec_l1Rd_decText.j1 k s l p) (t, q) ∧ t.size ≤ 160 ∧ St l q := by
  obtain ⟨v, q, e, v0, v1, hq⟩ := below_f h hp 6 (by omega) (by omega)
  by_cases c : v = 0
  · obtain ⟨t, r, ht, g⟩ := dt_j2 h hq s hs v (v == 0)
    refine ⟨t, r, Ev.step (f := fun k => spec_l1Rd_decText.j2 k s v (v == 0) l q) (fun k => ?_) ht, g⟩
    simp only [spec_l1Rd_decText.j1, e, Option.bind_some]
    rw [if_pos c]
  · obtain ⟨t, r, ht, g⟩ := dt_j2 h hq s hs v (v == 1)
    refine ⟨t, r, Ev.step (f := fun k => spec_l1Rd_decText.j2 k s v (v == 1) l q) (fun k => ?_) ht, g⟩
    simp only [spec_l1Rd_decText.j1, e, Option.bind_some]
    rw [if_neg c]
theorem dt_l0 {l : List Int} (h : Code l) : ∀ (m : Nat) (p : Int) (s : ByteArray), St l p → m ≤ 10 → s.size + 2 * m ≤ 40 →
    ∃ t q, Ev (fun k => spec_l1Rd_decText.l0 k s (m : Int) l p) (t, q) ∧ t.size ≤ 160 ∧ St l q := by
  intro m
  induction m with
  | zero =>
    intro p s hp hm hs
    obtain ⟨v, q, e, hq⟩ := once_f h hp 2 (by omega) (by omega)
    have e1 (c : UInt8) : (⟨#[c]⟩ : ByteArray).size = 1 := rfl
    cases v with
    | true =>
      obtain ⟨i, r, ei, i0, i1, hr⟩ := below_f h hq 6 (by omega) (by omega)
      have hsz := rdOf_size [(⟨#[]⟩ : ByteArray), (⟨#[48]⟩ : ByteArray), (⟨#[53]⟩ : ByteArray), (⟨#[50, 53]⟩ : ByteArray), (⟨#[48, 53, 48]⟩ : ByteArray), (⟨#[57, 57, 57]⟩ : ByteArray)] i 3 (by decide)
      obtain ⟨t, z, ht, g⟩ := dt_j1 h hr ((s ++ (⟨#[46]⟩ : ByteArray)) ++ rdOf ByteArray.empty [(⟨#[]⟩ : ByteArray), (⟨#[48]⟩ : ByteArray), (⟨#[53]⟩ : ByteArray), (⟨#[50, 53]⟩ : ByteArray), (⟨#[48, 53, 48]⟩ : ByteArray), (⟨#[57, 57, 57]⟩ : ByteArray)] i) (by rw [app_size, app_size, e1]; omega)
      refine ⟨t, z, Ev.step (f := fun k => spec_l1Rd_decText.j1 k ((s ++ (⟨#[46]⟩ : ByteArray)) ++ rdOf ByteArray.empty [(⟨#[]⟩ : ByteArray), (⟨#[48]⟩ : ByteArray), (⟨#[53]⟩ : ByteArray), (⟨#[50, 53]⟩ : ByteArray), (⟨#[48, 53, 48]⟩ : ByteArray), (⟨#[57, 57, 57]⟩ : ByteArray)] i) l r) (fun k => ?_) ht, g⟩
      conv => lhs; unfold spec_l1Rd_decText.l0
      rw [if_neg (by omega), e]
      simp only [Option.bind_some, if_true, ei]
      rw [if_pos (by omega), if_pos i0, if_pos (by simpa using i1), if_pos (by rw [app_size, e1]; omega)]
    | false =>
      obtain ⟨t, z, ht, g⟩ := dt_j1 h hq s (by omega)
      refine ⟨t, z, Ev.step (f := fun k => spec_l1Rd_decText.j1 k s l q) (fun k => ?_) ht, g⟩
      conv => lhs; unfold spec_l1Rd_decText.l0
      rw [if_neg (by omega), e]
      simp only [Option.bind_some, Bool.false_eq_true, if_false]
  | succ m ih =>
    intro p s hp hm hs
    obtain ⟨i, r, ei, i0, i1, hr⟩ := below_f h hp 6 (by omega) (by omega)
    have hsz := rdOf_size [(⟨#[48]⟩ : ByteArray), (⟨#[49]⟩ : ByteArray), (⟨#[53]⟩ : ByteArray), (⟨#[57]⟩ : ByteArray), (⟨#[48, 48]⟩ : ByteArray), (⟨#[49, 50]⟩ : ByteArray)] i 2 (by decide)
    obtain ⟨t, z, ht, g⟩ := ih r (s ++ rdOf ByteArray.empty [(⟨#[48]⟩ : ByteArray), (⟨#[49]⟩ : ByteArray), (⟨#[53]⟩ : ByteArray), (⟨#[57]⟩ : ByteArray), (⟨#[48, 48]⟩ : ByteArray), (⟨#[49, 50]⟩ : ByteArray)] i) hr (by omega) (by rw [app_size]; omega)
    refine ⟨t, z, Ev.step (f := fun k => spec_l1Rd_decText.l0 k (s ++ rdOf ByteArray.empty [(⟨#[48]⟩ : ByteArray), (⟨#[49]⟩ : ByteArray), (⟨#[53]⟩ : ByteArray), (⟨#[57]⟩ : ByteArray), (⟨#[48, 48]⟩ : ByteArray), (⟨#[49, 50]⟩ : ByteArray)] i) (m : Int) l r) (fun k => ?_) ht, g⟩
    conv => lhs; unfold spec_l1Rd_decText.l0
    have hw : wrap64 (((m + 1 : Nat) : Int) - 1) = (m : Int) := by rw [w64] <;> omega
    rw [if_pos (by omega)]
    simp only [Option.bind_some, ei]
    rw [if_pos i0, if_pos (by simpa using i1), if_pos (by omega), hw]
theorem decText_f {l : List Int} {p : Int} (h : Code l) (hp : St l p) : ∃ t q, Ev (fun k => spec_l1Rd_decText.f k l p) (t, q) ∧ t.size ≤ 160 ∧ St l q := by
  obtain ⟨v, q, e, v0, v1, hq⟩ := below_f h hp 5 (by omega) (by omega)
  have e0 : (⟨#[]⟩ : ByteArray).size = 0 := rfl
  obtain ⟨t, r, ht, g⟩ := dt_l0 h v.toNat q ⟨#[]⟩ hq (by omega) (by omega)
  have hv : ((v.toNat : Nat) : Int) = v := by omega
  rw [hv] at ht
  refine ⟨t, r, ?_, g⟩
  unfold spec_l1Rd_decText.f
  rw [e]
  exact ht

theorem word_f {l : List Int} (h : Code l) : ∀ (m : Nat) (p x i : Int), St l p → 0 ≤ i → (m : Int) = 8 - i → ∃ y q, Ev (fun k => spec_l1Rd_word.l0 k x i l p) (y, q) ∧ St l q := by
  intro m
  induction m with
  | zero =>
    intro p x i hp hi hm
    refine ⟨x, p, Ev.step (f := fun _ => some (x, p)) (fun k => ?_) (Ev.now _), hp⟩
    conv => lhs; unfold spec_l1Rd_word.l0
    rw [if_neg (by omega)]
  | succ m ih =>
    intro p x i hp hi hm
    obtain ⟨v, q, e, _, _, hq⟩ := next_f h hp
    obtain ⟨y, r, hy, g⟩ := ih q (Go.bits .or .u64 (IntKind.u64.wrap (x * 256)) (IntKind.u64.wrap v)) (i + 1) hq (by omega) (by omega)
    refine ⟨y, r, Ev.step (f := fun k => spec_l1Rd_word.l0 k (Go.bits .or .u64 (IntKind.u64.wrap (x * 256)) (IntKind.u64.wrap v)) (i + 1) l q) (fun k => ?_) hy, g⟩
    conv => lhs; unfold spec_l1Rd_word.l0
    rw [if_pos (by omega), e, w64 (n := i + 1) (by omega) (by omega)]
    rfl
theorem near_f {l : List Int} {p : Int} (h : Code l) (hp : St l p) : ∃ y q, Ev (fun k => spec_l1Rd_near.f k l p 0 60) (y, q) ∧ St l q := by
  obtain ⟨v, q, e, v0, v1, hq⟩ := below_f h hp 8 (by omega) (by omega)
  unfold spec_l1Rd_near.f
  rw [e]
  simp only [Option.bind_some]
  by_cases c : v = 0
  · simp only [c, if_true]; exact ⟨_, _, Ev.now _, hq⟩
  · simp only [c, if_false]
    by_cases c1 : v = 1
    · simp only [c1, if_true]; exact ⟨_, _, Ev.now _, hq⟩
    · simp only [c1, if_false]
      obtain ⟨y, r, hy, g⟩ := word_f h 8 q 0 0 hq (by omega) (by omega)
      have w0 : (IntKind.u64.wrap (wrap64 ((wrap64 (60 - 0)) + 1))) = 61 := by decide +kernel
      refine ⟨_, r, Ev.congr (f := fun k => (spec_l1Rd_word.l0 k 0 0 l q).bind fun bt214 => some (wrap64 (0 + (wrap64 (Int.tmod (bt214.1 / 2) (IntKind.u64.wrap (wrap64 ((wrap64 (60 - 0)) + 1)))))), bt214.2)) (fun k => ?_) (Ev.bind hy (Ev.now _)), g⟩
      rw [if_neg (by omega)]
      unfold spec_l1Rd_word.f
      congr 1
      funext bt
      rw [if_neg (by rw [w0]; decide)]
theorem off_f {l : List Int} {p : Int} (h : Code l) (hp : St l p) : ∃ y q, Ev (fun k => spec_l1Rd_off.f k l p 0 60) (y, q) ∧ St l q := by
  obtain ⟨v, q, e, hq⟩ := once_f h hp 24 (by omega) (by omega)
  unfold spec_l1Rd_off.f
  rw [e]
  simp only [Option.bind_some]
  cases v with
  | true =>
    obtain ⟨i, r, ei, i0, i1, hr⟩ := below_f h hq 4 (by omega) (by omega)
    simp only [if_true, ei, Option.bind_some]
    rw [if_pos i0, if_pos (by simpa using i1)]
    exact ⟨_, _, Ev.now _, hr⟩
  | false =>
    simp only [Bool.false_eq_true, if_false]
    obtain ⟨y, r, hy, g⟩ := near_f h hq
    exact ⟨y, r, Ev.bind hy (Ev.now _), g⟩
theorem dec_f {l : List Int} {p : Int} (h : Code l) (hp : St l p) : ∃ n s x q, Ev (fun k => spec_l1Rd_dec.f k l p) (n, s, x, q) ∧ s.size ≤ 1000 ∧ St l q := by
  obtain ⟨t, q, ht, hl, hq⟩ := decText_f h hp
  obtain ⟨v, r, e, v0, v1, hr⟩ := below_f h hq 30 (by omega) (by omega)
  have hR := spec_ReadDec_f t (by omega)
  have hS := readD_len t.data.toList
  rcases eR : readD t.data.toList with ⟨n, s, x, b⟩
  rw [eR] at hR hS
  have hS : s.size ≤ 60 := hS
  unfold spec_l1Rd_dec.f
  by_cases c1 : v = 29
  · obtain ⟨y, z, hy, g⟩ := off_f h hr
    refine ⟨n, s, y, z, Ev.bind ht (Ev.bind hR ?_), by omega, g⟩
    simp only [e, Option.bind_some, c1, if_true]
    exact Ev.bind hy (Ev.now _)
  · by_cases c2 : v = 28
    · refine ⟨n, s ++ (⟨#[48]⟩ : ByteArray), x, r, Ev.bind ht (Ev.bind hR ?_), by rw [app_size]; have : (⟨#[48]⟩ : ByteArray).size = 1 := rfl; omega, hr⟩
      simp only [e, Option.bind_some]
      have hx : s.size + 1 ≤ 9223372036854775807 := by omega
      simp only [if_neg c1, if_pos c2, if_pos hx]
      exact Ev.now _
    · by_cases c3 : v = 27
      · refine ⟨!n, s, x, r, Ev.bind ht (Ev.bind hR ?_), by omega, hr⟩
        simp only [e, Option.bind_some]
        simp only [if_neg c1, if_neg c2, if_pos c3]
        exact Ev.now _
      · refine ⟨n, s, x, r, Ev.bind ht (Ev.bind hR ?_), by omega, hr⟩
        simp only [e, Option.bind_some]
        simp only [if_neg c1, if_neg c2, if_neg c3]
        exact Ev.now _
theorem start {l : List Int} : St l 0 := ⟨by omega, by omega⟩
theorem drawCompare {l : List Int} (h : Code l) : ∃ n s x m t y, Ev (fun k => spec_DrawCompareDec.f k l) (n, s, x, m, t, y) ∧ s.size ≤ 1000 ∧ t.size ≤ 1000 := by
  obtain ⟨n, s, x, q, h1, hs, hq⟩ := dec_f h (start (l := l))
  obtain ⟨v, r, e, hr⟩ := once_f h hq 5 (by omega) (by omega)
  unfold spec_DrawCompareDec.f spec_l1Open.f
  simp only [Option.bind_some]
  cases v with
  | true =>
    refine ⟨n, s, x, n, s, x, Ev.bind h1 ?_, hs, hs⟩
    simp only [e, Option.bind_some, if_true]
    exact Ev.now _
  | false =>
    obtain ⟨m, t, y, z, h2, ht, _⟩ := dec_f h hr
    refine ⟨n, s, x, m, t, y, Ev.bind h1 ?_, hs, ht⟩
    simp only [e, Option.bind_some, Bool.false_eq_true, if_false]
    exact Ev.bind h2 (Ev.now _)
def lessB (a b : ByteArray) : Bool := Op.bytesLess a.data.toList b.data.toList
def cmpB (a b : ByteArray) : Int := if lessB a b = true then -1 else if lessB b a = true then 1 else 0
theorem cmp_string_f (a b : ByteArray) : cmp_Compare_string.f a b = some (cmpB a b) := by
  unfold cmp_Compare_string.f cmp_isNaN_string.f
  simp only [Option.bind_some, bne_self_eq_false, Bool.false_eq_true, if_false, Lib.toList_data]
  unfold cmpB lessB
  (repeat' split) <;> rfl
theorem cmp_int_f (a b : Int) : cmp_Compare_int64.f a b = some (if a < b then -1 else if a > b then 1 else 0) := by
  unfold cmp_Compare_int64.f cmp_isNaN_int64.f
  have h1 : (a != a) = false := by simp
  have h2 : (b != b) = false := by simp
  simp only [Option.bind_some, h1, h2, Bool.false_eq_true, if_false]
  (repeat' split) <;> rfl
/-! ### nought is below what is above it -/
theorem zeros_less : ∀ (l : List UInt8), (∀ b ∈ l, 48 ≤ b.toNat) → (∃ b ∈ l, b.toNat ≠ 48) → Op.bytesLess (List.replicate l.length 48) l = true ∧ Op.bytesLess l (List.replicate l.length 48) = false
  | [], _, h => by obtain ⟨b, h, _⟩ := h; cases h
  | b :: l, h0, h => by
    have hb := h0 b (by simp)
    rw [List.length_cons, List.replicate_succ]
    simp only [Op.bytesLess]
    by_cases c : b = 48
    · subst c
      have ih := zeros_less l (fun x hx => h0 x (List.mem_cons_of_mem _ hx)) (by
        obtain ⟨x, hx, hne⟩ := h
        rcases List.mem_cons.1 hx with rfl | hx
        · exact absurd rfl hne
        · exact ⟨x, hx, hne⟩)
      have e : ¬ ((48 : UInt8) < 48) := by decide
      simp [ih.1, ih.2, e]
    · have c1 : (48 : UInt8) < b := by
        rw [UInt8.lt_iff_toNat_lt]
        have : b.toNat ≠ 48 := fun e => c (UInt8.toNat.inj (by rw [e]; rfl))
        have e2 : (48 : UInt8).toNat = 48 := rfl
        omega
      have c2 : ¬ (b < 48) := by
        rw [UInt8.lt_iff_toNat_lt]
        have e2 : (48 : UInt8).toNat = 48 := rfl
        omega
      have c3 : (b == 48) = false := by simpa using c
      simp [c1, c2, c3]
theorem pad_size {n : Nat} {s : ByteArray} (h : s.size ≤ n) : (pad n s).size = n := by rw [pad, app_size, Z_size]; omega
theorem le_top0 (s0 : ByteArray) (x0 : Int) (s1 : ByteArray) (x1 : Int) : (lv (mx x0 x1) s0 x0).size ≤ top s0 x0 s1 x1 := by unfold top; omega
theorem le_top1 (s0 : ByteArray) (x0 : Int) (s1 : ByteArray) (x1 : Int) : (lv (mx x0 x1) s1 x1).size ≤ top s0 x0 s1 x1 := by unfold top; omega
theorem lx_size (s0 : ByteArray) (x0 : Int) (s1 : ByteArray) (x1 : Int) : (lx s0 x0 s1 x1).size = top s0 x0 s1 x1 := pad_size (le_top0 s0 x0 s1 x1)
theorem ly_size (s0 : ByteArray) (x0 : Int) (s1 : ByteArray) (x1 : Int) : (ly s0 x0 s1 x1).size = top s0 x0 s1 x1 := pad_size (le_top1 s0 x0 s1 x1)
/-- Nought on any scale. -/
theorem pad_nought (n m : Nat) (s : ByteArray) (hs : s.data.toList = []) (h : m ≤ n) : (Z (n - (s ++ Z m).size) ++ (s ++ Z m)).data.toList = List.replicate n 48 := by
  have e : s = Z 0 := ba_ext (by rw [hs, Z_list]; rfl)
  subst e
  rw [Z_none_l, Z_size, ba_app, Z_list, Z_list, List.replicate_append_replicate]
  congr 1; omega
theorem pad_has (n m : Nat) (b : UInt8) (l : List UInt8) (s : ByteArray) (hs : s.data.toList = b :: l) (hd : (b :: l).all digB = true) (hb : b.toNat ≠ 48) :
    (∀ c ∈ (Z (n - (s ++ Z m).size) ++ (s ++ Z m)).data.toList, 48 ≤ c.toNat) ∧ ∃ c ∈ (Z (n - (s ++ Z m).size) ++ (s ++ Z m)).data.toList, c.toNat ≠ 48 := by
  rw [ba_app, ba_app, Z_list, Z_list, hs]
  refine ⟨fun c hc => ?_, b, by simp, hb⟩
  rw [List.mem_append, List.mem_append] at hc
  rcases hc with hc | hc | hc
  · rw [(List.mem_replicate.1 hc).2]; decide
  · have := List.all_eq_true.1 hd c hc
    simp only [digB, Bool.and_eq_true, decide_eq_true_eq] at this
    exact this.1
  · rw [(List.mem_replicate.1 hc).2]; decide

theorem ok_nil {n : Bool} {s : ByteArray} {x : Int} (h : okB n s x = true) (e : s.data.toList = []) : n = false ∧ x = 0 := by
  unfold okB at h
  rw [e] at h
  simp only [okL, Bool.and_eq_true, beq_iff_eq, Bool.not_eq_true'] at h
  exact h
theorem ok_cons {n : Bool} {s : ByteArray} {x : Int} {b : UInt8} {l : List UInt8} (h : okB n s x = true) (e : s.data.toList = b :: l) : (b :: l).all digB = true ∧ b.toNat ≠ 48 := by
  unfold okB at h
  rw [e] at h
  simp only [okL, Bool.and_eq_true, bne_iff_ne] at h
  exact ⟨h.2.1, h.2.2.1⟩
def signI (n : Bool) (s : ByteArray) : Int := if n then -1 else if s.data.toList = [] then 0 else 1
theorem sign_f (n : Bool) (s : ByteArray) (x : Int) : impl_Dec_sign.f n s x = some (signI n s) := by
  unfold impl_Dec_sign.f signI
  rw [Lib.toList_data]
  (repeat' split) <;> rfl

/-- How two right numbers stand. -/
def cmpD (n0 : Bool) (s0 : ByteArray) (x0 : Int) (n1 : Bool) (s1 : ByteArray) (x1 : Int) : Int :=
  if n0 != n1 then (if n0 then -1 else 1) else if n0 then -(cmpB (lx s0 x0 s1 x1) (ly s0 x0 s1 x1)) else cmpB (lx s0 x0 s1 x1) (ly s0 x0 s1 x1)
theorem cmpB_range (a b : ByteArray) : -1 ≤ cmpB a b ∧ cmpB a b ≤ 1 := by unfold cmpB; (repeat' split) <;> omega

theorem impl_j0 (n0 : Bool) (s0 : ByteArray) (x0 : Int) (n1 : Bool) (s1 : ByteArray) (x1 : Int) (h0 : okB n0 s0 x0 = true) (h1 : okB n1 s1 x1 = true) :
    Ev (fun k => impl_CompareDec.j0 k false n0 s0 x0 n1 s1 x1) (cmpD n0 s0 x0 n1 s1 x1) := by
  obtain ⟨z0, a0, a1⟩ := ok_len h0
  obtain ⟨z1, b0, b1⟩ := ok_len h1
  refine Ev.step (f := fun _ => some (cmpD n0 s0 x0 n1 s1 x1)) (fun k => ?_) (Ev.now _)
  simp only [impl_CompareDec.j0, Bool.false_eq_true, if_false, sign_f, Option.bind_some, level_f n0 s0 x0 n1 s1 x1 z0 z1 a0 a1 b0 b1, cmp_string_f, cmp_int_f]
  have hr := cmpB_range (lx s0 x0 s1 x1) (ly s0 x0 s1 x1)
  by_cases c : signI n0 s0 = signI n1 s1
  · rw [if_pos c]
    congr 1
    unfold cmpD
    cases n0 with
    | true =>
      cases n1 with
      | true => simp only [signI, if_true, bne_self_eq_false, Bool.false_eq_true, if_false]; rw [w64] <;> omega
      | false => exfalso; simp only [signI, if_true, Bool.false_eq_true, if_false] at c; split at c <;> omega
    | false =>
      cases n1 with
      | true => exfalso; simp only [signI, if_true, Bool.false_eq_true, if_false] at c; split at c <;> omega
      | false =>
        simp only [bne_self_eq_false, Bool.false_eq_true, if_false]
        by_cases e : s0.data.toList = []
        · have e1 : s1.data.toList = [] := by
            simp only [signI, Bool.false_eq_true, if_false, e, if_true] at c
            by_cases e1 : s1.data.toList = []
            · exact e1
            · rw [if_neg e1] at c; cases c
          have hs : signI false s0 = 0 := by simp [signI, e]
          have x00 := (ok_nil h0 e).2
          have x10 := (ok_nil h1 e1).2
          have hxy : lx s0 x0 s1 x1 = ly s0 x0 s1 x1 := by
            have : s0 = s1 := ba_ext (by rw [e, e1])
            subst this; subst x00; subst x10; rfl
          rw [hs, Int.mul_zero, hxy]
          have : ∀ l : List UInt8, Op.bytesLess l l = false := fun l => by
            induction l with
            | nil => rfl
            | cons a l ih => simp [Op.bytesLess, ih]
          simp only [cmpB, lessB, this, Bool.false_eq_true, if_false]
          rw [w64] <;> omega
        · have hs : signI false s0 = 1 := by simp [signI, e]
          rw [hs, Int.mul_one]; rw [w64] <;> omega
  · rw [if_neg c]
    congr 1
    unfold cmpD
    cases n0 with
    | true =>
      cases n1 with
      | true => exact absurd rfl c
      | false =>
        simp only [Bool.true_bne, Bool.not_false, if_true]
        rw [if_pos]
        simp only [signI, if_true, Bool.false_eq_true, if_false]; split <;> omega
    | false =>
      cases n1 with
      | true =>
        simp only [Bool.false_bne, if_true, Bool.false_eq_true, if_false]
        rw [if_neg, if_pos]
        · simp only [signI, if_true, Bool.false_eq_true, if_false]; split <;> omega
        · simp only [signI, if_true, Bool.false_eq_true, if_false]; split <;> omega
      | false =>
        simp only [bne_self_eq_false, Bool.false_eq_true, if_false]
        obtain ⟨g0, g1, g2⟩ := mx_le x0 x1
        rcases e : s0.data.toList with _ | ⟨b, l⟩
        · rcases e1 : s1.data.toList with _ | ⟨b', l'⟩
          · exact absurd (by simp [signI, e, e1]) c
          · have q := ok_cons h1 e1
            have hx : (lx s0 x0 s1 x1).data.toList = List.replicate (top s0 x0 s1 x1) 48 := by
              have := le_top0 s0 x0 s1 x1
              rw [lv, app_size, Z_size] at this
              exact pad_nought _ _ _ e (by omega)
            have hy := pad_has (top s0 x0 s1 x1) (mx x0 x1 - x1).toNat b' l' s1 e1 q.1 q.2
            have k := zeros_less (ly s0 x0 s1 x1).data.toList hy.1 hy.2
            rw [← sz, ly_size] at k
            rw [cmpB, lessB, hx, k.1]
            simp [signI, e, e1]
        · rcases e1 : s1.data.toList with _ | ⟨b', l'⟩
          · have q := ok_cons h0 e
            have hx : (ly s0 x0 s1 x1).data.toList = List.replicate (top s0 x0 s1 x1) 48 := by
              have := le_top1 s0 x0 s1 x1
              rw [lv, app_size, Z_size] at this
              exact pad_nought _ _ _ e1 (by omega)
            have hy := pad_has (top s0 x0 s1 x1) (mx x0 x1 - x0).toNat b l s0 e q.1 q.2
            have k := zeros_less (lx s0 x0 s1 x1).data.toList hy.1 hy.2
            rw [← sz, lx_size] at k
            rw [cmpB, lessB, lessB, hx, k.1, k.2]
            simp [signI, e, e1]
          · exact absurd (by simp [signI, e, e1]) c

def answer (n0 : Bool) (s0 : ByteArray) (x0 : Int) (n1 : Bool) (s1 : ByteArray) (x1 : Int) : Int := if okB n0 s0 x0 && okB n1 s1 x1 then cmpD n0 s0 x0 n1 s1 x1 else 2
theorem impl_CompareDec_f (n0 : Bool) (s0 : ByteArray) (x0 : Int) (n1 : Bool) (s1 : ByteArray) (x1 : Int) (h0 : s0.size ≤ 9223372036854775806) (h1 : s1.size ≤ 9223372036854775806) :
    Ev (fun k => impl_CompareDec.f k n0 s0 x0 n1 s1 x1) (answer n0 s0 x0 n1 s1 x1) := by
  have jt : Ev (fun k => impl_CompareDec.j0 k true n0 s0 x0 n1 s1 x1) 2 := Ev.step (f := fun _ => some 2) (fun k => by simp only [impl_CompareDec.j0, if_true]) (Ev.now _)
  unfold impl_CompareDec.f
  simp only [impl_DecOk_f n0 s0 x0 (by omega), impl_DecOk_f n1 s1 x1 (by omega), Option.bind_some]
  cases e0 : okB n0 s0 x0 with
  | false => simp only [answer, e0, Bool.false_and, Bool.false_eq_true, if_false]; exact jt
  | true =>
    simp only [if_true]
    cases e1 : okB n1 s1 x1 with
    | false => simp only [answer, e0, e1, Bool.true_and, Bool.false_eq_true, if_false, Bool.not_false]; exact jt
    | true => simp only [answer, e0, e1, Bool.true_and, if_true, Bool.not_true]; exact impl_j0 n0 s0 x0 n1 s1 x1 e0 e1

def toI (l : List UInt8) : List Int := l.map fun b => (b.toNat : Int)
theorem toI_len (l : List UInt8) : (toI l).length = l.length := by simp [toI]
theorem str_toI (l : List UInt8) : strOfNums (toI l) = mkB l := by
  apply ba_ext
  rw [mkB_list]
  simp [strOfNums, toI, Function.comp_def]
def dig (r : Nat) : UInt8 := UInt8.ofNat (48 + r)
theorem dig_nat {r : Nat} (h : r < 10) : (dig r).toNat = 48 + r := by unfold dig; rw [UInt8.toNat_ofNat']; omega
theorem dig_ok {r : Nat} (h : r < 10) : digB (dig r) = true ∧ dv (dig r) = r := by
  have := dig_nat h
  unfold digB dv
  rw [this]
  refine ⟨by simp; omega, by omega⟩
theorem bt_dig (s : ByteArray) (i : Nat) (h : i < s.data.toList.length) (hd : s.data.toList.all digB = true) : bt s (i : Int) = 48 + (dv s.data.toList[i] : Int) ∧ dv s.data.toList[i] < 10 := by
  have h1 := List.all_eq_true.1 hd _ (List.getElem_mem h)
  have h2 := dv_lt h1
  rw [bt_nat s i h]
  simp only [digB, Bool.and_eq_true, decide_eq_true_eq] at h1
  unfold dv at *
  omega
theorem sum_u8 (a b c : Int) (ha : 0 ≤ a) (ha' : a < 10) (hb : 0 ≤ b) (hb' : b < 10) (hc : 0 ≤ c) (hc' : c ≤ 1) : ((((((((((48 + a) - 48) % 256) + (48 + b)) % 256) - 48) % 256) + c) % 256)) = a + b + c := by
  have e1 : ((48 + a) - 48) % 256 = a := by omega
  rw [e1]
  have e2 : (a + (48 + b)) % 256 = a + b + 48 := by omega
  rw [e2]
  have e3 : (a + b + 48 - 48) % 256 = a + b := by omega
  rw [e3]
  omega
theorem rest_u8 (a b c : Int) (ha : 0 ≤ a) (ha' : a < 10) (hb : 0 ≤ b) (hb' : b < 10) (hc : 0 ≤ c) (hc' : c ≤ 1) : (((((((10 + (48 + a)) % 256) - (48 + b)) % 256) - c) % 256)) = 10 + a - b - c := by
  have e1 : (10 + (48 + a)) % 256 = 58 + a := by omega
  rw [e1]
  have e2 : (58 + a - (48 + b)) % 256 = 10 + a - b := by omega
  rw [e2]
  omega
theorem set_rep (m : Nat) (E : List Int) (d : Int) : (List.replicate (m + 1) (0 : Int) ++ E).set m d = List.replicate m 0 ++ (d :: E) := by
  induction m with
  | zero => rfl
  | succ m ih =>
    have e1 : List.replicate (m + 1 + 1) (0 : Int) ++ E = 0 :: (List.replicate (m + 1) 0 ++ E) := rfl
    have e2 : List.replicate (m + 1) (0 : Int) ++ (d :: E) = 0 :: (List.replicate m 0 ++ (d :: E)) := rfl
    rw [e1, List.set_cons_succ, ih, e2]
theorem all_cons_dig {d : Nat} {E : List UInt8} (h : d < 10) (hE : E.all digB = true) : (dig d :: E).all digB = true := by
  rw [List.all_cons, (dig_ok h).1, hE]; rfl

theorem pred_cast (j : Nat) : (((j + 1 : Nat) : Int) - 1) = (j : Int) := by omega
theorem sg_ne {n m : Bool} (h : (n == m) = false) : sg n = - sg m := by cases n <;> cases m <;> first | rfl | cases h
theorem nat_add {F X Y : Nat} (h : F = X + Y) : (F : Int) = (X : Int) + (Y : Int) := by omega
theorem nat_sub {F X Y : Nat} (h : F + X = Y) : (F : Int) = (Y : Int) - (X : Int) := by omega
theorem plus_step (k : Nat) (s0 s1 : ByteArray) (x5 : List Int) (c j : Nat) (h0 : j < s0.size) (h1 : j < s1.size) (h2 : j + 1 < x5.length) (hj : j ≤ 1000) :
    impl_plusDigits.l0 (k + 1) s0 s1 x5 (c : Int) (j : Int) = impl_plusDigits.l0 k s0 s1 (x5.set (j + 1) (48 + ((((((((((bt s0 (j : Int)) - 48) % 256) + (bt s1 (j : Int))) % 256) - 48) % 256) + (c : Int)) % 256) % 10))) ((((((((((bt s0 (j : Int)) - 48) % 256) + (bt s1 (j : Int))) % 256) - 48) % 256) + (c : Int)) % 256) / 10) ((j : Int) - 1) := by
  have i2 : wrap64 ((j : Int) + 1) = ((j + 1 : Nat) : Int) := w64 (by omega) (by omega)
  have i3 : wrap64 ((j : Int) - 1) = (j : Int) - 1 := w64 (by omega) (by omega)
  have g1 : (j : Int) ≥ 0 := by omega
  have g2 : (j : Int) < (s0.size : Int) := by omega
  have g3 : (j : Int) < (s1.size : Int) := by omega
  have g4 : (0 : Int) ≤ ((j + 1 : Nat) : Int) := by omega
  have g5 : ((j + 1 : Nat) : Int) < (x5.length : Int) := by omega
  conv => lhs; unfold impl_plusDigits.l0
  rw [i2, i3, if_pos g1, if_pos g1, if_pos g2, if_pos g3, if_pos g4, if_pos g5]
  rfl
theorem sum_nat (a b c : Nat) (ha : a < 10) (hb : b < 10) (hc : c ≤ 1) : ((((((((((48 + (a : Int)) - 48) % 256) + (48 + (b : Int))) % 256) - 48) % 256) + (c : Int)) % 256)) = ((a + b + c : Nat) : Int) := by
  rw [sum_u8 _ _ _ (by omega) (by omega) (by omega) (by omega) (by omega) (by omega)]
  rfl
theorem plus_dig (s0 s1 : ByteArray) (j c S : Nat) (h : ((((((((((bt s0 (j : Int)) - 48) % 256) + (bt s1 (j : Int))) % 256) - 48) % 256) + (c : Int)) % 256)) = (S : Int)) (hS : S < 20) :
    (48 + ((((((((((bt s0 (j : Int)) - 48) % 256) + (bt s1 (j : Int))) % 256) - 48) % 256) + (c : Int)) % 256) % 10)) = ((dig (S % 10)).toNat : Int) := by
  generalize ((((((((((bt s0 (j : Int)) - 48) % 256) + (bt s1 (j : Int))) % 256) - 48) % 256) + (c : Int)) % 256)) = T at h ⊢
  subst h
  rw [dig_nat (Nat.mod_lt _ (by omega))]
  omega
theorem plus_car (s0 s1 : ByteArray) (j c S : Nat) (h : ((((((((((bt s0 (j : Int)) - 48) % 256) + (bt s1 (j : Int))) % 256) - 48) % 256) + (c : Int)) % 256)) = (S : Int)) :
    ((((((((((bt s0 (j : Int)) - 48) % 256) + (bt s1 (j : Int))) % 256) - 48) % 256) + (c : Int)) % 256) / 10) = ((S / 10 : Nat) : Int) := by
  generalize ((((((((((bt s0 (j : Int)) - 48) % 256) + (bt s1 (j : Int))) % 256) - 48) % 256) + (c : Int)) % 256)) = T at h ⊢
  subst h
  omega
theorem plus_l0 (s0 s1 : ByteArray) (h0 : s0.data.toList.all digB = true) (h1 : s1.data.toList.all digB = true) (hl : s0.data.toList.length = s1.data.toList.length) (hn : s0.data.toList.length ≤ 1000) :
    ∀ (j : Nat) (E : List UInt8) (c : Nat), j ≤ s0.data.toList.length → E.length = s0.data.toList.length - j → E.all digB = true → c ≤ 1 → nv E + c * 10 ^ E.length = nv (s0.data.toList.drop j) + nv (s1.data.toList.drop j) →
    ∃ F, Ev (fun k => impl_plusDigits.l0 k s0 s1 (List.replicate (j + 1) 0 ++ toI E) (c : Int) ((j : Int) - 1)) (mkB F) ∧ F.all digB = true ∧ F.length = s0.data.toList.length + 1 ∧ nv F = nv s0.data.toList + nv s1.data.toList := by
  intro j
  have z0 := sz s0
  have z1 := sz s1
  induction j with
  | zero =>
    intro E c hj hE hd hc hv
    have hx : (List.replicate (0 + 1) (0 : Int) ++ toI E).set (0 : Int).toNat ((48 + (c : Int)) % 256) = toI (dig c :: E) := by
      have e1 : (0 : Int).toNat = 0 := rfl
      rw [e1, set_rep 0 (toI E)]
      simp only [List.replicate_zero, List.nil_append, toI, List.map_cons, List.cons.injEq, and_true]
      rw [dig_nat (by omega)]
      omega
    refine ⟨dig c :: E, Ev.step (f := fun _ => some (mkB (dig c :: E))) (fun k => ?_) (Ev.now _), all_cons_dig (by omega) hd, by rw [List.length_cons, hE]; omega, ?_⟩
    · conv => lhs; unfold impl_plusDigits.l0
      rw [if_neg (by omega), if_pos (by rw [List.length_append, List.length_replicate]; omega), hx, str_toI]
    · rw [nv_cons, (dig_ok (by omega : c < 10)).2]
      rw [List.drop_zero, List.drop_zero] at hv
      omega
  | succ j ih =>
    intro E c hj hE hd hc hv
    have c0 : j < s0.data.toList.length := by omega
    have c1 : j < s1.data.toList.length := by omega
    obtain ⟨b0, l0⟩ := bt_dig s0 j c0 h0
    obtain ⟨b1, l1⟩ := bt_dig s1 j c1 h1
    have e0 : s0.data.toList.drop j = s0.data.toList[j] :: s0.data.toList.drop (j + 1) := List.drop_eq_getElem_cons c0
    have e1 : s1.data.toList.drop j = s1.data.toList[j] :: s1.data.toList.drop (j + 1) := List.drop_eq_getElem_cons c1
    obtain ⟨S, hS⟩ : ∃ S : Nat, S = dv s0.data.toList[j] + dv s1.data.toList[j] + c := ⟨_, rfl⟩
    have hS20 : S < 20 := by omega
    have hd10 : S % 10 < 10 := Nat.mod_lt _ (by omega)
    obtain ⟨F, hF, g⟩ := ih (dig (S % 10) :: E) (S / 10) (by omega) (by rw [List.length_cons, hE]; omega) (all_cons_dig hd10 hd) (by omega) (by
      rw [e0, e1, nv_cons, nv_cons, nv_cons, (dig_ok hd10).2, List.length_cons, Nat.pow_succ]
      have q0 : (s0.data.toList.drop (j + 1)).length = E.length := by rw [List.length_drop, hE]
      have q1 : (s1.data.toList.drop (j + 1)).length = E.length := by rw [List.length_drop, hE, hl]
      rw [q0, q1]
      have key : S % 10 + 10 * (S / 10) = dv s0.data.toList[j] + dv s1.data.toList[j] + c := by rw [← hS]; exact Nat.mod_add_div _ 10
      have key2 := congrArg (· * 10 ^ E.length) key
      simp only [Nat.add_mul] at key2
      have r1 : S / 10 * (10 ^ E.length * 10) = 10 * (S / 10) * 10 ^ E.length := by
        rw [Nat.mul_comm (10 ^ E.length) 10, ← Nat.mul_assoc, Nat.mul_comm _ 10]
      rw [r1]
      omega)
    refine ⟨F, Ev.step (f := fun k => impl_plusDigits.l0 k s0 s1 (List.replicate (j + 1) 0 ++ toI (dig (S % 10) :: E)) ((S / 10 : Nat) : Int) ((j : Int) - 1)) (fun k => ?_) hF, g⟩
    rw [pred_cast j, plus_step k s0 s1 _ c j (by rw [z0]; exact c0) (by rw [z1]; exact c1) (by rw [List.length_append, List.length_replicate]; exact Nat.lt_of_lt_of_le (Nat.lt_succ_self _) (Nat.le_add_right _ _)) (Nat.le_trans (Nat.le_of_lt c0) hn)]
    refine congr (congr (congrArg (impl_plusDigits.l0 k s0 s1) ?_) ?_) rfl
    · refine (set_rep (j + 1) (toI E) _).trans (congrArg (fun z => List.replicate (j + 1) (0 : Int) ++ (z :: toI E)) ?_)
      exact plus_dig s0 s1 j c S (by rw [b0, b1]; exact hS ▸ (sum_nat _ _ _ l0 l1 hc)) hS20
    · exact plus_car s0 s1 j c S (by rw [b0, b1]; exact hS ▸ (sum_nat _ _ _ l0 l1 hc))
theorem plus_f (s0 s1 : ByteArray) (h0 : s0.data.toList.all digB = true) (h1 : s1.data.toList.all digB = true) (hl : s0.data.toList.length = s1.data.toList.length) (hn : s0.data.toList.length ≤ 1000) :
    ∃ F, Ev (fun k => impl_plusDigits.f k s0 s1) (mkB F) ∧ F.all digB = true ∧ F.length = s0.data.toList.length + 1 ∧ nv F = nv s0.data.toList + nv s1.data.toList := by
  have z0 := sz s0
  have e1 : s0.data.toList.drop s0.data.toList.length = [] := List.drop_length
  have e2 : s1.data.toList.drop s0.data.toList.length = [] := by rw [hl]; exact List.drop_length
  obtain ⟨F, hF, g⟩ := plus_l0 s0 s1 h0 h1 hl hn s0.data.toList.length [] 0 (by omega) (by simp) rfl (by omega) (by rw [e1, e2]; rfl)
  refine ⟨F, Ev.congr (fun k => ?_) hF, g⟩
  unfold impl_plusDigits.f
  have i1 : wrap64 ((s0.size : Int) + 1) = ((s0.data.toList.length + 1 : Nat) : Int) := by rw [w64] <;> omega
  have i2 : wrap64 ((s0.size : Int) - 1) = (s0.data.toList.length : Int) - 1 := by rw [w64] <;> omega
  rw [i1, i2, if_pos (by omega), if_pos (by omega), Int.toNat_natCast]
  simp [toI]

theorem minus_l0 (s0 s1 : ByteArray) (h0 : s0.data.toList.all digB = true) (h1 : s1.data.toList.all digB = true) (hl : s0.data.toList.length = s1.data.toList.length) (hn : s0.data.toList.length ≤ 1000) :
    ∀ (j : Nat) (E : List UInt8) (c : Nat), j ≤ s0.data.toList.length → E.length = s0.data.toList.length - j → E.all digB = true → c ≤ 1 → nv E + nv (s1.data.toList.drop j) = nv (s0.data.toList.drop j) + c * 10 ^ E.length →
    ∃ F c', Ev (fun k => impl_minusDigits.l0 k s0 s1 (List.replicate j 0 ++ toI E) (c : Int) ((j : Int) - 1)) (mkB F) ∧ F.all digB = true ∧ F.length = s0.data.toList.length ∧ nv F + nv s1.data.toList = nv s0.data.toList + c' * 10 ^ F.length := by
  intro j
  have z0 := sz s0
  have z1 := sz s1
  induction j with
  | zero =>
    intro E c hj hE hd hc hv
    refine ⟨E, c, Ev.step (f := fun _ => some (mkB E)) (fun k => ?_) (Ev.now _), hd, by omega, hv⟩
    conv => lhs; unfold impl_minusDigits.l0
    rw [if_neg (by omega)]
    simp only [List.replicate_zero, List.nil_append, str_toI]
  | succ j ih =>
    intro E c hj hE hd hc hv
    have c0 : j < s0.data.toList.length := by omega
    have c1 : j < s1.data.toList.length := by omega
    obtain ⟨b0, l0⟩ := bt_dig s0 j c0 h0
    obtain ⟨b1, l1⟩ := bt_dig s1 j c1 h1
    have e0 : s0.data.toList.drop j = s0.data.toList[j] :: s0.data.toList.drop (j + 1) := List.drop_eq_getElem_cons c0
    have e1 : s1.data.toList.drop j = s1.data.toList[j] :: s1.data.toList.drop (j + 1) := List.drop_eq_getElem_cons c1
    obtain ⟨r, hr⟩ : ∃ r : Nat, r = 10 + dv s0.data.toList[j] - dv s1.data.toList[j] - c := ⟨_, rfl⟩
    have hr20 : r < 20 := by omega
    have hd10 : r % 10 < 10 := Nat.mod_lt _ (by omega)
    obtain ⟨F, c', hF, g⟩ := ih (dig (r % 10) :: E) (1 - r / 10) (by omega) (by rw [List.length_cons, hE]; omega) (all_cons_dig hd10 hd) (by omega) (by
      rw [e0, e1, nv_cons, nv_cons, nv_cons, (dig_ok hd10).2, List.length_cons, Nat.pow_succ]
      have q0 : (s0.data.toList.drop (j + 1)).length = E.length := by rw [List.length_drop, hE]
      have q1 : (s1.data.toList.drop (j + 1)).length = E.length := by rw [List.length_drop, hE, hl]
      rw [q0, q1]
      have key : r % 10 + dv s1.data.toList[j] + c = dv s0.data.toList[j] + 10 * (1 - r / 10) := by omega
      have key2 := congrArg (· * 10 ^ E.length) key
      simp only [Nat.add_mul] at key2
      have r1 : (1 - r / 10) * (10 ^ E.length * 10) = 10 * (1 - r / 10) * 10 ^ E.length := by
        rw [Nat.mul_comm (10 ^ E.length) 10, ← Nat.mul_assoc, Nat.mul_comm _ 10]
      rw [r1]
      omega)
    refine ⟨F, c', Ev.step (f := fun k => impl_minusDigits.l0 k s0 s1 (List.replicate j 0 ++ toI (dig (r % 10) :: E)) ((1 - r / 10 : Nat) : Int) ((j : Int) - 1)) (fun k => ?_) hF, g⟩
    conv => lhs; unfold impl_minusDigits.l0
    have i1 : (((j + 1 : Nat) : Int) - 1) = (j : Int) := by omega
    have i3 : wrap64 ((j : Int) - 1) = (j : Int) - 1 := by rw [w64] <;> omega
    rw [i1, if_pos (by omega), if_pos (by omega), if_pos (by omega), if_pos (by omega), if_pos (by rw [List.length_append, List.length_replicate]; omega)]
    have hsum : (((((((10 + (bt s0 (j : Int))) % 256) - (bt s1 (j : Int))) % 256) - (c : Int)) % 256)) = (r : Int) := by rw [b0, b1, rest_u8 _ _ _ (by omega) (by omega) (by omega) (by omega) (by omega) (by omega)]; omega
    rw [hsum, i3, Int.toNat_natCast, set_rep j (toI E)]
    have k1 : (48 + (r : Int) % 10) = ((dig (r % 10)).toNat : Int) := by rw [dig_nat hd10]; omega
    have k2 : (1 - (r : Int) / 10) % 256 = ((1 - r / 10 : Nat) : Int) := by omega
    rw [k1, k2]
    rfl
theorem minus_f (s0 s1 : ByteArray) (h0 : s0.data.toList.all digB = true) (h1 : s1.data.toList.all digB = true) (hl : s0.data.toList.length = s1.data.toList.length) (hn : s0.data.toList.length ≤ 1000) (hv : nv s1.data.toList ≤ nv s0.data.toList) :
    ∃ F, Ev (fun k => impl_minusDigits.f k s0 s1) (mkB F) ∧ F.all digB = true ∧ F.length = s0.data.toList.length ∧ nv F + nv s1.data.toList = nv s0.data.toList := by
  have z0 := sz s0
  have e1 : s0.data.toList.drop s0.data.toList.length = [] := List.drop_length
  have e2 : s1.data.toList.drop s0.data.toList.length = [] := by rw [hl]; exact List.drop_length
  obtain ⟨F, c', hF, g1, g2, g3⟩ := minus_l0 s0 s1 h0 h1 hl hn s0.data.toList.length [] 0 (by omega) (by simp) rfl (by omega) (by rw [e1, e2]; rfl)
  refine ⟨F, Ev.congr (fun k => ?_) hF, g1, g2, ?_⟩
  · unfold impl_minusDigits.f
    have i2 : wrap64 ((s0.size : Int) - 1) = (s0.data.toList.length : Int) - 1 := by rw [w64] <;> omega
    rw [i2, if_pos (by omega), if_pos (by omega), Int.toNat_natCast, z0]
    simp [toI]
  · have hlt := nv_lt F g1
    rcases Nat.eq_zero_or_pos c' with h | h
    · subst h; omega
    · have := Nat.mul_le_mul_right (10 ^ F.length) h
      omega

/-- Rows of digits, equally long, stand as their values do. -/
theorem less_nv : ∀ (l m : List UInt8), l.all digB = true → m.all digB = true → l.length = m.length → Op.bytesLess l m = decide (nv l < nv m)
  | [], [], _, _, _ => by simp [Op.bytesLess, nv]
  | [], _ :: _, _, _, h => by simp at h
  | _ :: _, [], _, _, h => by simp at h
  | a :: l, b :: m, hl, hm, hn => by
    rw [List.all_cons, Bool.and_eq_true] at hl hm
    have hlen : l.length = m.length := by simpa using hn
    have ih := less_nv l m hl.2 hm.2 hlen
    have h1 := nv_lt l hl.2
    have h2 := nv_lt m hm.2
    have ha := hl.1
    have hb := hm.1
    simp only [digB, Bool.and_eq_true, decide_eq_true_eq] at ha hb
    rw [← hlen] at h2
    simp only [Op.bytesLess]
    rw [nv_cons, nv_cons, ← hlen]
    have hp : 0 < 10 ^ l.length := Nat.pow_pos (by omega)
    rcases Nat.lt_trichotomy a.toNat b.toNat with h | h | h
    · have c : a < b := UInt8.lt_iff_toNat_lt.2 h
      have : (dv a + 1) * 10 ^ l.length ≤ dv b * 10 ^ l.length := Nat.mul_le_mul_right _ (by unfold dv; omega)
      rw [Nat.add_mul] at this
      have c2 : dv a * 10 ^ l.length + nv l < dv b * 10 ^ l.length + nv m := by omega
      simp [c, c2]
    · have e : a = b := UInt8.toNat.inj h
      subst e
      have c : ¬ a < a := by rw [UInt8.lt_iff_toNat_lt]; omega
      rw [ih]
      simp [c]
    · have c : ¬ a < b := by rw [UInt8.lt_iff_toNat_lt]; omega
      have c1 : (a == b) = false := by rw [beq_eq_false_iff_ne]; intro e; subst e; omega
      have : (dv b + 1) * 10 ^ l.length ≤ dv a * 10 ^ l.length := Nat.mul_le_mul_right _ (by unfold dv; omega)
      rw [Nat.add_mul] at this
      have c2 : ¬ (dv a * 10 ^ l.length + nv l < dv b * 10 ^ l.length + nv m) := by omega
      simp [c, c1, c2]

theorem pad_list (n : Nat) (s : ByteArray) : (pad n s).data.toList = List.replicate (n - s.size) 48 ++ s.data.toList := by rw [pad, ba_app, Z_list]
theorem lv_list (m : Int) (s : ByteArray) (x : Int) : (lv m s x).data.toList = s.data.toList ++ List.replicate (m - x).toNat 48 := by rw [lv, ba_app, Z_list]
theorem rep_digs (n : Nat) : (List.replicate n (48 : UInt8)).all digB = true := by
  rw [List.all_eq_true]
  intro b hb
  rw [(List.mem_replicate.1 hb).2]; decide
theorem pad_lv (n : Nat) (m : Int) (s : ByteArray) (x : Int) (h : s.data.toList.all digB = true) : (pad n (lv m s x)).data.toList.all digB = true ∧ nv (pad n (lv m s x)).data.toList = nv s.data.toList * 10 ^ (m - x).toNat := by
  rw [pad_list, lv_list]
  refine ⟨?_, ?_⟩
  · rw [List.all_append, List.all_append, rep_digs, rep_digs, h]; rfl
  · rw [nv_zeros_app, nv_app_zeros]
theorem ok_all {n : Bool} {s : ByteArray} {x : Int} (h : okB n s x = true) : s.data.toList.all digB = true := by
  rcases ok_canon h with ⟨h1, _⟩ | ⟨_, _, _, _, b, t, e, hd, _⟩
  · rw [h1]; rfl
  · rw [e]; exact hd
theorem l_eq {s0 s1 : ByteArray} {x0 x1 : Int} : (lx s0 x0 s1 x1).data.toList.length = top s0 x0 s1 x1 ∧ (ly s0 x0 s1 x1).data.toList.length = top s0 x0 s1 x1 := by
  have a : (lv (mx x0 x1) s0 x0).size ≤ top s0 x0 s1 x1 := by unfold top; omega
  have b : (lv (mx x0 x1) s1 x1).size ≤ top s0 x0 s1 x1 := by unfold top; omega
  rw [← sz, ← sz]
  unfold lx ly pad
  rw [app_size, app_size, Z_size, Z_size]
  omega
theorem V_lx {n0 n1 : Bool} {s0 s1 : ByteArray} {x0 x1 : Int} (h0 : okB n0 s0 x0 = true) (h1 : okB n1 s1 x1 = true) :
    ∃ M : Nat, (M : Int) = mx x0 x1 ∧ M ≤ 60 ∧ x0 ≤ M ∧ x1 ≤ M ∧ (lx s0 x0 s1 x1).data.toList.all digB = true ∧ (ly s0 x0 s1 x1).data.toList.all digB = true ∧
    V n0 s0 x0 M = sg n0 * (nv (lx s0 x0 s1 x1).data.toList : Int) ∧ V n1 s1 x1 M = sg n1 * (nv (ly s0 x0 s1 x1).data.toList : Int) ∧ top s0 x0 s1 x1 ≤ 200 := by
  obtain ⟨z0, a0, a1⟩ := ok_len h0
  obtain ⟨z1, b0, b1⟩ := ok_len h1
  obtain ⟨g0, g1, g2⟩ := mx_le x0 x1
  obtain ⟨p0, p1⟩ := pad_lv (top s0 x0 s1 x1) (mx x0 x1) s0 x0 (ok_all h0)
  obtain ⟨q0, q1⟩ := pad_lv (top s0 x0 s1 x1) (mx x0 x1) s1 x1 (ok_all h1)
  refine ⟨(mx x0 x1).toNat, by omega, by omega, by omega, by omega, p0, q0, ?_, ?_, ?_⟩
  · unfold V lx
    rw [p1]
    have : (mx x0 x1).toNat - x0.toNat = (mx x0 x1 - x0).toNat := by omega
    rw [this]
  · unfold V ly
    rw [q1]
    have : (mx x0 x1).toNat - x1.toNat = (mx x0 x1 - x1).toNat := by omega
    rw [this]
  · unfold top lv
    rw [app_size, app_size, Z_size, Z_size]
    omega
theorem norm_eq {n m : Bool} {l k : List UInt8} {x : Nat} (h1 : l.all digB = true) (h2 : k.all digB = true) (hv : sg n * (nv l : Int) = sg m * (nv k : Int)) : norm n l x = norm m k x := by
  cases e : (norm n l x).2.2.2 with
  | true =>
    obtain ⟨a, b, c⟩ := norm_good n l x h1 e
    rw [norm_is m k x h2 a b (by rw [c, hv])]
    rw [← e]
  | false =>
    cases f : (norm m k x).2.2.2 with
    | true =>
      obtain ⟨a, b, c⟩ := norm_good m k x h2 f
      have := norm_is n l x h1 a b (by rw [c, hv])
      rw [this] at e
      cases e
    | false => rw [norm_bad n l x e, norm_bad m k x f]
/-- The right number with a value, if there is one. -/
theorem add_impl {n0 n1 : Bool} {s0 s1 : ByteArray} {x0 x1 : Int} (h0 : okB n0 s0 x0 = true) (h1 : okB n1 s1 x1 = true) (M : Nat) (hM : (M : Int) = mx x0 x1) :
    ∃ n l, l.all digB = true ∧ sg n * (nv l : Int) = V n0 s0 x0 M + V n1 s1 x1 M ∧ Ev (fun k => impl_AddDec.f k n0 s0 x0 n1 s1 x1) (norm n l M) := by
  obtain ⟨z0, a0, a1⟩ := ok_len h0
  obtain ⟨z1, b0, b1⟩ := ok_len h1
  obtain ⟨M', e1, e2, e3, e4, d0, d1, v0, v1, ht⟩ := V_lx h0 h1
  have : M' = M := by omega
  subst this
  obtain ⟨l0, l1⟩ := l_eq (s0 := s0) (s1 := s1) (x0 := x0) (x1 := x1)
  have start {n : Bool} {l : List UInt8} (h : Ev (fun k => impl_AddDec.j0 k false n0 s0 x0 n1 s1 x1) (norm n l M')) : Ev (fun k => impl_AddDec.f k n0 s0 x0 n1 s1 x1) (norm n l M') := by
    refine Ev.congr (fun k => ?_) h
    unfold impl_AddDec.f
    rw [impl_DecOk_f n0 s0 x0 (by omega), impl_DecOk_f n1 s1 x1 (by omega), h0, h1]
    rfl
  have less := less_nv (lx s0 x0 s1 x1).data.toList (ly s0 x0 s1 x1).data.toList d0 d1 (by omega)
  have made (n : Bool) (F : List UInt8) (hF : F.length ≤ 1000) : Ev (fun k => impl_made.f k n (mkB F) (mx x0 x1)) (norm n F M') := by
    have := made_f n M' (mkB F) (by omega) (by rw [sz, mkB_list]; omega)
    rw [mkB_list, e1] at this
    exact this
  by_cases c : (n0 == n1) = true
  · have hn : n0 = n1 := by simpa using c
    subst hn
    obtain ⟨F, hF, f1, f2, f3⟩ := plus_f (lx s0 x0 s1 x1) (ly s0 x0 s1 x1) d0 d1 (l0.trans l1.symm) (by rw [l0]; exact Nat.le_trans ht (by decide))
    refine ⟨n0, F, f1, ?_, start ?_⟩
    · rw [nat_add f3, Int.mul_add, v0, v1]
    · refine Ev.step (f := fun k => ((impl_plusDigits.f k (lx s0 x0 s1 x1) (ly s0 x0 s1 x1)).bind fun t319 => ((impl_made.f k n0 t319 (mx x0 x1)).bind fun bt320 => (some (bt320.1, bt320.2.1, bt320.2.2.1, bt320.2.2.2))))) (fun k => ?_) (Ev.bind hF (Ev.bind (made n0 F (by rw [f2, l0]; exact Nat.le_trans (Nat.succ_le_succ ht) (by decide))) (Ev.now _)))
      simp only [impl_AddDec.j0, Bool.false_eq_true, if_false, level_f n0 s0 x0 n0 s1 x1 z0 z1 a0 a1 b0 b1, Option.bind_some]
      rw [if_pos c]
  · have c' : (n0 == n1) = false := by simpa using c
    have hs : sg n0 = - sg n1 := sg_ne c'
    by_cases d : nv (lx s0 x0 s1 x1).data.toList < nv (ly s0 x0 s1 x1).data.toList
    · obtain ⟨F, hF, f1, f2, f3⟩ := minus_f (ly s0 x0 s1 x1) (lx s0 x0 s1 x1) d1 d0 (by omega) (by omega) (by omega)
      refine ⟨n1, F, f1, ?_, start ?_⟩
      · rw [v0, v1, hs, Int.neg_mul]
        rw [nat_sub f3, Int.mul_sub, Int.sub_eq_add_neg, Int.add_comm]
      · refine Ev.step (f := fun k => ((impl_minusDigits.f k (ly s0 x0 s1 x1) (lx s0 x0 s1 x1)).bind fun t319 => ((impl_made.f k n1 t319 (mx x0 x1)).bind fun bt320 => (some (bt320.1, bt320.2.1, bt320.2.2.1, bt320.2.2.2))))) (fun k => ?_) (Ev.bind hF (Ev.bind (made n1 F (by omega)) (Ev.now _)))
        simp only [impl_AddDec.j0, Bool.false_eq_true, if_false, level_f n0 s0 x0 n1 s1 x1 z0 z1 a0 a1 b0 b1, Option.bind_some, c', Lib.toList_data, less, d, decide_true, if_true]
    · obtain ⟨F, hF, f1, f2, f3⟩ := minus_f (lx s0 x0 s1 x1) (ly s0 x0 s1 x1) d0 d1 (by omega) (by omega) (by omega)
      refine ⟨n0, F, f1, ?_, start ?_⟩
      · have hs' : sg n1 = - sg n0 := by rw [hs, Int.neg_neg]
        rw [v0, v1, hs', Int.neg_mul]
        rw [nat_sub f3, Int.mul_sub, Int.sub_eq_add_neg]
      · refine Ev.step (f := fun k => ((impl_minusDigits.f k (lx s0 x0 s1 x1) (ly s0 x0 s1 x1)).bind fun t319 => ((impl_made.f k n0 t319 (mx x0 x1)).bind fun bt320 => (some (bt320.1, bt320.2.1, bt320.2.2.1, bt320.2.2.2))))) (fun k => ?_) (Ev.bind hF (Ev.bind (made n0 F (by omega)) (Ev.now _)))
        simp only [impl_AddDec.j0, Bool.false_eq_true, if_false, level_f n0 s0 x0 n1 s1 x1 z0 z1 a0 a1 b0 b1, Option.bind_some, c', Lib.toList_data, less, d, decide_false]
theorem sum4_nat (a b c : Nat) (ha : a < 10) (hb : b < 10) (hc : c ≤ 1) : wrap64 (((((48 + (a : Int)) - 48) % 256) + (((48 + (b : Int)) - 48) % 256)) + (c : Int)) = ((a + b + c : Nat) : Int) := by
  have h1 : ((48 + (a : Int)) - 48) % 256 = a := by omega
  have h2 : ((48 + (b : Int)) - 48) % 256 = b := by omega
  rw [h1, h2, w64 (by omega) (by omega)]; omega
theorem dig4 (S : Nat) (hS : S < 20) : (wrap64 (48 + Int.tmod (S : Int) 10)) % 256 = ((dig (S % 10)).toNat : Int) := by
  rw [Int.tmod_eq_emod_of_nonneg (by omega), w64 (by omega) (by omega), dig_nat (Nat.mod_lt _ (by omega))]; omega
theorem car4 (S : Nat) (hS : S < 20) : wrap64 (Int.tdiv (S : Int) 10) = ((S / 10 : Nat) : Int) := by
  rw [Int.tdiv_eq_ediv_of_nonneg (by omega), w64 (by omega) (by omega)]; omega
theorem sum_step (k : Nat) (s0 s1 : ByteArray) (E : List UInt8) (c j S : Nat) (h0 : j < s0.size) (h1 : j < s1.size) (hE : E.length ≤ 1000) (hj : j ≤ 1000)
    (hS : S < 20) (hs : wrap64 (((((bt s0 (j : Int)) - 48) % 256) + (((bt s1 (j : Int)) - 48) % 256)) + (c : Int)) = (S : Int)) :
    spec_l4Sum.l0 (k + 1) s0 s1 (toI E) (c : Int) (j : Int) = spec_l4Sum.l0 k s0 s1 (toI (dig (S % 10) :: E)) ((S / 10 : Nat) : Int) ((j : Int) - 1) := by
  have i3 : wrap64 ((j : Int) - 1) = (j : Int) - 1 := w64 (by omega) (by omega)
  have g1 : (j : Int) ≥ 0 := by omega
  have g2 : (j : Int) < (s0.size : Int) := by omega
  have g3 : (j : Int) < (s1.size : Int) := by omega
  conv => lhs; unfold spec_l4Sum.l0
  rw [if_pos g1, if_pos g1, if_pos g2, if_pos g3, i3, hs, dig4 S hS, car4 S hS]
  simp only [Option.bind_some]
  rw [if_pos (by rw [toI_len]; simp only [List.length_cons, List.length_nil]; omega)]
  rfl
theorem sum_l0 (s0 s1 : ByteArray) (h0 : s0.data.toList.all digB = true) (h1 : s1.data.toList.all digB = true) (hl : s0.data.toList.length = s1.data.toList.length) (hn : s0.data.toList.length ≤ 500) :
    ∀ (j : Nat) (E : List UInt8) (c : Nat), j ≤ s0.data.toList.length → E.length = s0.data.toList.length - j → E.all digB = true → c ≤ 1 → nv E + c * 10 ^ E.length = nv (s0.data.toList.drop j) + nv (s1.data.toList.drop j) →
    ∃ F, Ev (fun k => spec_l4Sum.l0 k s0 s1 (toI E) (c : Int) ((j : Int) - 1)) (mkB F) ∧ F.all digB = true ∧ F.length = s0.data.toList.length + 1 ∧ nv F = nv s0.data.toList + nv s1.data.toList := by
  intro j
  have z0 := sz s0
  have z1 := sz s1
  induction j with
  | zero =>
    intro E c hj hE hd hc hv
    refine ⟨dig c :: E, Ev.step (f := fun _ => some (mkB (dig c :: E))) (fun k => ?_) (Ev.now _), all_cons_dig (by omega) hd, by rw [List.length_cons, hE]; omega, ?_⟩
    · conv => lhs; unfold spec_l4Sum.l0
      rw [if_neg (by omega)]
      simp only [Option.bind_some]
      rw [if_pos (by rw [toI_len]; simp only [List.length_cons, List.length_nil]; omega)]
      have e : (wrap64 (48 + (c : Int))) % 256 = ((dig c).toNat : Int) := by rw [dig_nat (by omega), w64 (by omega) (by omega)]; omega
      rw [e]
      have := str_toI (dig c :: E)
      simp only [toI, List.map_cons] at this ⊢
      rw [← this]; rfl
    · rw [nv_cons, (dig_ok (by omega : c < 10)).2]
      rw [List.drop_zero, List.drop_zero] at hv
      omega
  | succ j ih =>
    intro E c hj hE hd hc hv
    have c0 : j < s0.data.toList.length := by omega
    have c1 : j < s1.data.toList.length := by omega
    obtain ⟨b0, l0⟩ := bt_dig s0 j c0 h0
    obtain ⟨b1, l1⟩ := bt_dig s1 j c1 h1
    have e0 : s0.data.toList.drop j = s0.data.toList[j] :: s0.data.toList.drop (j + 1) := List.drop_eq_getElem_cons c0
    have e1 : s1.data.toList.drop j = s1.data.toList[j] :: s1.data.toList.drop (j + 1) := List.drop_eq_getElem_cons c1
    obtain ⟨S, hS⟩ : ∃ S : Nat, S = dv s0.data.toList[j] + dv s1.data.toList[j] + c := ⟨_, rfl⟩
    have hS20 : S < 20 := by omega
    have hd10 : S % 10 < 10 := Nat.mod_lt _ (by omega)
    obtain ⟨F, hF, g⟩ := ih (dig (S % 10) :: E) (S / 10) (by omega) (by rw [List.length_cons, hE]; omega) (all_cons_dig hd10 hd) (by omega) (by
      rw [e0, e1, nv_cons, nv_cons, nv_cons, (dig_ok hd10).2, List.length_cons, Nat.pow_succ]
      have q0 : (s0.data.toList.drop (j + 1)).length = E.length := by rw [List.length_drop, hE]
      have q1 : (s1.data.toList.drop (j + 1)).length = E.length := by rw [List.length_drop, hE, hl]
      rw [q0, q1]
      have key : S % 10 + 10 * (S / 10) = dv s0.data.toList[j] + dv s1.data.toList[j] + c := by rw [← hS]; exact Nat.mod_add_div _ 10
      have key2 := congrArg (· * 10 ^ E.length) key
      simp only [Nat.add_mul] at key2
      have r1 : S / 10 * (10 ^ E.length * 10) = 10 * (S / 10) * 10 ^ E.length := by
        rw [Nat.mul_comm (10 ^ E.length) 10, ← Nat.mul_assoc, Nat.mul_comm _ 10]
      rw [r1]
      omega)
    refine ⟨F, Ev.step (f := fun k => spec_l4Sum.l0 k s0 s1 (toI (dig (S % 10) :: E)) ((S / 10 : Nat) : Int) ((j : Int) - 1)) (fun k => ?_) hF, g⟩
    rw [pred_cast j]
    exact sum_step k s0 s1 E c j S (by rw [z0]; exact c0) (by rw [z1]; exact c1) (by rw [hE]; exact Nat.le_trans (Nat.sub_le _ _) (Nat.le_trans hn (by decide))) (Nat.le_trans (Nat.le_of_lt c0) (Nat.le_trans hn (by decide))) hS20 (by rw [b0, b1]; exact hS ▸ sum4_nat _ _ _ l0 l1 hc)
theorem sum_f (s0 s1 : ByteArray) (h0 : s0.data.toList.all digB = true) (h1 : s1.data.toList.all digB = true) (hl : s0.data.toList.length = s1.data.toList.length) (hn : s0.data.toList.length ≤ 500) :
    ∃ F, Ev (fun k => spec_l4Sum.f k s0 s1) (mkB F) ∧ F.all digB = true ∧ F.length = s0.data.toList.length + 1 ∧ nv F = nv s0.data.toList + nv s1.data.toList := by
  have z0 := sz s0
  have e1 : s0.data.toList.drop s0.data.toList.length = [] := List.drop_length
  have e2 : s1.data.toList.drop s0.data.toList.length = [] := by rw [hl]; exact List.drop_length
  obtain ⟨F, hF, g⟩ := sum_l0 s0 s1 h0 h1 hl hn s0.data.toList.length [] 0 (by omega) (by simp) rfl (by omega) (by rw [e1, e2]; rfl)
  refine ⟨F, Ev.congr (fun k => ?_) hF, g⟩
  unfold spec_l4Sum.f
  have i2 : wrap64 ((s0.size : Int) - 1) = (s0.data.toList.length : Int) - 1 := by rw [w64] <;> omega
  rw [i2]
  rfl

theorem rest4 (a b c : Nat) (ha : a < 10) (hb : b < 10) (hc : c ≤ 1) : (wrap64 ((wrap64 ((wrap64 (48 + (a : Int))) - (wrap64 (48 + (b : Int))))) - (c : Int))) = (a : Int) - b - c := by
  rw [w64 (n := 48 + (a : Int)) (by omega) (by omega), w64 (n := 48 + (b : Int)) (by omega) (by omega), w64 (n := 48 + (a : Int) - (48 + (b : Int))) (by omega) (by omega), w64 (by omega) (by omega)]; omega
theorem less_step (k : Nat) (s0 s1 : ByteArray) (E : List UInt8) (c j r : Nat) (T : Int) (h0 : j < s0.size) (h1 : j < s1.size) (hE : E.length ≤ 1000) (hj : j ≤ 1000)
    (hT : (wrap64 ((wrap64 ((wrap64 (bt s0 (j : Int))) - (wrap64 (bt s1 (j : Int))))) - (c : Int))) = T) (hr : (r : Int) = 10 + T) (hr20 : r < 20) :
    spec_l4Less.l0 (k + 1) s0 s1 (toI E) (c : Int) (j : Int) = spec_l4Less.l0 k s0 s1 (toI (dig (r % 10) :: E)) ((1 - r / 10 : Nat) : Int) ((j : Int) - 1) := by
  have i3 : wrap64 ((j : Int) - 1) = (j : Int) - 1 := w64 (by omega) (by omega)
  have g1 : (j : Int) ≥ 0 := by omega
  have g2 : (j : Int) < (s0.size : Int) := by omega
  have g3 : (j : Int) < (s1.size : Int) := by omega
  conv => lhs; unfold spec_l4Less.l0
  rw [if_pos g1, if_pos g1, if_pos g2, if_pos g3, i3, hT]
  have hlen : ∀ d : Int, ([d] : List Int).length + (toI E).length < 140737488355328 := by intro d; rw [toI_len]; simp only [List.length_cons, List.length_nil]; omega
  simp only [Option.bind_some]
  by_cases c1 : T < 0
  · rw [if_pos c1, if_pos (hlen _)]
    have e : (wrap64 (48 + wrap64 (T + 10))) % 256 = ((dig (r % 10)).toNat : Int) := by
      rw [dig_nat (Nat.mod_lt _ (by omega)), w64 (n := T + 10) (by omega) (by omega), w64 (by omega) (by omega)]; omega
    have e2 : ((1 - r / 10 : Nat) : Int) = 1 := by omega
    rw [e, e2]; rfl
  · rw [if_neg c1, if_pos (hlen _)]
    have e : (wrap64 (48 + T)) % 256 = ((dig (r % 10)).toNat : Int) := by
      rw [dig_nat (Nat.mod_lt _ (by omega)), w64 (by omega) (by omega)]; omega
    have e2 : ((1 - r / 10 : Nat) : Int) = 0 := by omega
    rw [e, e2]; rfl
theorem less_l0 (s0 s1 : ByteArray) (h0 : s0.data.toList.all digB = true) (h1 : s1.data.toList.all digB = true) (hl : s0.data.toList.length = s1.data.toList.length) (hn : s0.data.toList.length ≤ 500) :
    ∀ (j : Nat) (E : List UInt8) (c : Nat), j ≤ s0.data.toList.length → E.length = s0.data.toList.length - j → E.all digB = true → c ≤ 1 → nv E + nv (s1.data.toList.drop j) = nv (s0.data.toList.drop j) + c * 10 ^ E.length →
    ∃ F c', Ev (fun k => spec_l4Less.l0 k s0 s1 (toI E) (c : Int) ((j : Int) - 1)) (mkB F) ∧ F.all digB = true ∧ F.length = s0.data.toList.length ∧ nv F + nv s1.data.toList = nv s0.data.toList + c' * 10 ^ F.length := by
  intro j
  have z0 := sz s0
  have z1 := sz s1
  induction j with
  | zero =>
    intro E c hj hE hd hc hv
    refine ⟨E, c, Ev.step (f := fun _ => some (mkB E)) (fun k => ?_) (Ev.now _), hd, by omega, hv⟩
    conv => lhs; unfold spec_l4Less.l0
    rw [if_neg (by omega)]
    simp only [str_toI]
  | succ j ih =>
    intro E c hj hE hd hc hv
    have c0 : j < s0.data.toList.length := by omega
    have c1 : j < s1.data.toList.length := by omega
    obtain ⟨b0, l0⟩ := bt_dig s0 j c0 h0
    obtain ⟨b1, l1⟩ := bt_dig s1 j c1 h1
    have e0 : s0.data.toList.drop j = s0.data.toList[j] :: s0.data.toList.drop (j + 1) := List.drop_eq_getElem_cons c0
    have e1 : s1.data.toList.drop j = s1.data.toList[j] :: s1.data.toList.drop (j + 1) := List.drop_eq_getElem_cons c1
    obtain ⟨r, hr⟩ : ∃ r : Nat, r = 10 + dv s0.data.toList[j] - dv s1.data.toList[j] - c := ⟨_, rfl⟩
    have hr20 : r < 20 := by omega
    have hd10 : r % 10 < 10 := Nat.mod_lt _ (by omega)
    obtain ⟨F, c', hF, g⟩ := ih (dig (r % 10) :: E) (1 - r / 10) (by omega) (by rw [List.length_cons, hE]; omega) (all_cons_dig hd10 hd) (by omega) (by
      rw [e0, e1, nv_cons, nv_cons, nv_cons, (dig_ok hd10).2, List.length_cons, Nat.pow_succ]
      have q0 : (s0.data.toList.drop (j + 1)).length = E.length := by rw [List.length_drop, hE]
      have q1 : (s1.data.toList.drop (j + 1)).length = E.length := by rw [List.length_drop, hE, hl]
      rw [q0, q1]
      have key : r % 10 + dv s1.data.toList[j] + c = dv s0.data.toList[j] + 10 * (1 - r / 10) := by omega
      have key2 := congrArg (· * 10 ^ E.length) key
      simp only [Nat.add_mul] at key2
      have r1 : (1 - r / 10) * (10 ^ E.length * 10) = 10 * (1 - r / 10) * 10 ^ E.length := by
        rw [Nat.mul_comm (10 ^ E.length) 10, ← Nat.mul_assoc, Nat.mul_comm _ 10]
      rw [r1]
      omega)
    refine ⟨F, c', Ev.step (f := fun k => spec_l4Less.l0 k s0 s1 (toI (dig (r % 10) :: E)) ((1 - r / 10 : Nat) : Int) ((j : Int) - 1)) (fun k => ?_) hF, g⟩
    rw [pred_cast j]
    exact less_step k s0 s1 E c j r ((dv s0.data.toList[j] : Int) - dv s1.data.toList[j] - c) (by rw [z0]; exact c0) (by rw [z1]; exact c1) (by rw [hE]; exact Nat.le_trans (Nat.sub_le _ _) (Nat.le_trans hn (by decide))) (Nat.le_trans (Nat.le_of_lt c0) (Nat.le_trans hn (by decide))) (by rw [b0, b1]; exact rest4 _ _ _ l0 l1 hc) (by omega) hr20
theorem less_f (s0 s1 : ByteArray) (h0 : s0.data.toList.all digB = true) (h1 : s1.data.toList.all digB = true) (hl : s0.data.toList.length = s1.data.toList.length) (hn : s0.data.toList.length ≤ 500) (hv : nv s1.data.toList ≤ nv s0.data.toList) :
    ∃ F, Ev (fun k => spec_l4Less.f k s0 s1) (mkB F) ∧ F.all digB = true ∧ F.length = s0.data.toList.length ∧ nv F + nv s1.data.toList = nv s0.data.toList := by
  have z0 := sz s0
  have e1 : s0.data.toList.drop s0.data.toList.length = [] := List.drop_length
  have e2 : s1.data.toList.drop s0.data.toList.length = [] := by rw [hl]; exact List.drop_length
  obtain ⟨F, c', hF, g1, g2, g3⟩ := less_l0 s0 s1 h0 h1 hl hn s0.data.toList.length [] 0 (by omega) (by simp) rfl (by omega) (by rw [e1, e2]; rfl)
  refine ⟨F, Ev.congr (fun k => ?_) hF, g1, g2, ?_⟩
  · unfold spec_l4Less.f
    have i2 : wrap64 ((s0.size : Int) - 1) = (s0.data.toList.length : Int) - 1 := by rw [w64] <;> omega
    rw [i2]
    rfl
  · have hlt := nv_lt F g1
    rcases Nat.eq_zero_or_pos c' with h | h
    · subst h; omega
    · have := Nat.mul_le_mul_right (10 ^ F.length) h
      omega

theorem add_spec {n0 n1 : Bool} {s0 s1 : ByteArray} {x0 x1 : Int} (h0 : okB n0 s0 x0 = true) (h1 : okB n1 s1 x1 = true) (M : Nat) (hM : (M : Int) = mx x0 x1) :
    ∃ n l, l.all digB = true ∧ sg n * (nv l : Int) = V n0 s0 x0 M + V n1 s1 x1 M ∧ Ev (fun k => spec_AddDec.f k n0 s0 x0 n1 s1 x1) (norm n l M) := by
  obtain ⟨z0, a0, a1⟩ := ok_len h0
  obtain ⟨z1, b0, b1⟩ := ok_len h1
  obtain ⟨M', e1, e2, e3, e4, d0, d1, v0, v1, ht⟩ := V_lx h0 h1
  have : M' = M := by omega
  subst this
  obtain ⟨l0, l1⟩ := l_eq (s0 := s0) (s1 := s1) (x0 := x0) (x1 := x1)
  have start {n : Bool} {l : List UInt8} (h : Ev (fun k => spec_AddDec.j0 k false n0 s0 x0 n1 s1 x1) (norm n l M')) : Ev (fun k => spec_AddDec.f k n0 s0 x0 n1 s1 x1) (norm n l M') := by
    unfold spec_AddDec.f
    have q0 := spec_DecOk_f n0 s0 x0 (by omega)
    have q1 := spec_DecOk_f n1 s1 x1 (by omega)
    rw [h0] at q0; rw [h1] at q1
    refine Ev.bind q0 ?_
    simp only [if_true]
    refine Ev.bind q1 ?_
    exact h
  have less := less_nv (lx s0 x0 s1 x1).data.toList (ly s0 x0 s1 x1).data.toList d0 d1 (by omega)
  have same := l4Same_f n0 s0 x0 n1 s1 x1 z0 z1 a0 a1 b0 b1
  have made (n : Bool) (F : List UInt8) (hF : F.length ≤ 1000) : Ev (fun k => spec_l4Norm.f k n (mkB F) (mx x0 x1)) (norm n F M') := by
    have := l4Norm_f n (mkB F) M' (by omega) (by rw [sz, mkB_list]; omega)
    rw [mkB_list, e1] at this
    exact this
  by_cases c : (n0 == n1) = true
  · have hn : n0 = n1 := by simpa using c
    subst hn
    obtain ⟨F, hF, f1, f2, f3⟩ := sum_f (lx s0 x0 s1 x1) (ly s0 x0 s1 x1) d0 d1 (l0.trans l1.symm) (by rw [l0]; exact Nat.le_trans ht (by decide))
    refine ⟨n0, F, f1, ?_, start ?_⟩
    · rw [nat_add f3, Int.mul_add, v0, v1]
    · refine Ev.step (fun k => by simp only [spec_AddDec.j0, Bool.false_eq_true, if_false]; exact rfl) (Ev.bind same ?_)
      simp only [c, if_true]
      exact Ev.bind hF (Ev.bind (made n0 F (by rw [f2, l0]; exact Nat.le_trans (Nat.succ_le_succ ht) (by decide))) (Ev.now _))
  · have c' : (n0 == n1) = false := by simpa using c
    have hs : sg n0 = - sg n1 := sg_ne c'
    by_cases d : nv (lx s0 x0 s1 x1).data.toList < nv (ly s0 x0 s1 x1).data.toList
    · obtain ⟨F, hF, f1, f2, f3⟩ := less_f (ly s0 x0 s1 x1) (lx s0 x0 s1 x1) d1 d0 (by omega) (by omega) (by omega)
      refine ⟨n1, F, f1, ?_, start ?_⟩
      · rw [v0, v1, hs, Int.neg_mul]
        rw [nat_sub f3, Int.mul_sub, Int.sub_eq_add_neg, Int.add_comm]
      · refine Ev.step (fun k => by simp only [spec_AddDec.j0, Bool.false_eq_true, if_false]; exact rfl) (Ev.bind same ?_)
        simp only [c', Bool.false_eq_true, if_false, Lib.toList_data, less, d, decide_true, if_true]
        exact Ev.bind hF (Ev.bind (made n1 F (by omega)) (Ev.now _))
    · obtain ⟨F, hF, f1, f2, f3⟩ := less_f (lx s0 x0 s1 x1) (ly s0 x0 s1 x1) d0 d1 (by omega) (by omega) (by omega)
      refine ⟨n0, F, f1, ?_, start ?_⟩
      · have hs' : sg n1 = - sg n0 := by rw [hs, Int.neg_neg]
        rw [v0, v1, hs', Int.neg_mul]
        rw [nat_sub f3, Int.mul_sub, Int.sub_eq_add_neg]
      · refine Ev.step (fun k => by simp only [spec_AddDec.j0, Bool.false_eq_true, if_false]; exact rfl) (Ev.bind same ?_)
        simp only [c', Bool.false_eq_true, if_false, Lib.toList_data, less, d, decide_false]
        exact Ev.bind hF (Ev.bind (made n0 F (by omega)) (Ev.now _))
theorem cmpB_nv {X Y : ByteArray} (hX : X.data.toList.all digB = true) (hY : Y.data.toList.all digB = true) (hl : X.data.toList.length = Y.data.toList.length) :
    cmpB X Y = if nv X.data.toList < nv Y.data.toList then -1 else if nv Y.data.toList < nv X.data.toList then 1 else 0 := by
  unfold cmpB lessB
  rw [less_nv _ _ hX hY hl, less_nv _ _ hY hX hl.symm]
  simp only [decide_eq_true_eq]
def sgn3 (a b : Int) : Int := if a < b then -1 else if b < a then 1 else 0
theorem sgn3_range (a b : Int) : -1 ≤ sgn3 a b ∧ sgn3 a b ≤ 1 := by unfold sgn3; (repeat' split) <;> omega
theorem cmp_pos (a b : Nat) : (if a < b then (-1 : Int) else if b < a then 1 else 0) = sgn3 (1 * (a : Int)) (1 * (b : Int)) := by unfold sgn3; (repeat' split) <;> omega
theorem cmp_neg (a b : Nat) : -(if a < b then (-1 : Int) else if b < a then 1 else 0) = sgn3 ((-1) * (a : Int)) ((-1) * (b : Int)) := by unfold sgn3; (repeat' split) <;> omega
theorem neg_pos (a b : Nat) (h : (-1) * (a : Int) < 0) : (-1 : Int) = sgn3 ((-1) * (a : Int)) (1 * (b : Int)) := by unfold sgn3; (repeat' split) <;> omega
theorem pos_neg (a b : Nat) (h : (-1) * (b : Int) < 0) : (1 : Int) = sgn3 (1 * (a : Int)) ((-1) * (b : Int)) := by unfold sgn3; (repeat' split) <;> omega
theorem cmpD_V {n0 n1 : Bool} {s0 s1 : ByteArray} {x0 x1 : Int} (h0 : okB n0 s0 x0 = true) (h1 : okB n1 s1 x1 = true) (M : Nat) (hM : (M : Int) = mx x0 x1) :
    cmpD n0 s0 x0 n1 s1 x1 = sgn3 (V n0 s0 x0 M) (V n1 s1 x1 M) := by
  obtain ⟨M', e1, e2, e3, e4, d0, d1, v0, v1, ht⟩ := V_lx h0 h1
  have hMM : M' = M := by omega
  subst hMM
  obtain ⟨l0, l1⟩ := l_eq (s0 := s0) (s1 := s1) (x0 := x0) (x1 := x1)
  have hc := cmpB_nv d0 d1 (l0.trans l1.symm)
  have k0 := V_neg h0 M'
  have k1 := V_neg h1 M'
  unfold cmpD
  rw [hc, v0, v1]
  rw [v0] at k0
  rw [v1] at k1
  cases n0 with
  | true =>
    cases n1 with
    | true => exact cmp_neg _ _
    | false => exact neg_pos _ _ (k0.1.1 rfl)
  | false =>
    cases n1 with
    | true => exact pos_neg _ _ (k1.1.1 rfl)
    | false => exact cmp_pos _ _

def negN (n : Bool) (s : ByteArray) : Bool := if s.data.toList = [] then false else !n
theorem neg_ok {n : Bool} {s : ByteArray} {x : Int} (h : okB n s x = true) (M : Nat) : okB (negN n s) s x = true ∧ V (negN n s) s x M = - V n s x M := by
  unfold negN
  rcases ok_canon h with ⟨h1, h2, h3⟩ | ⟨y, rfl, h1, h2, h3⟩
  · rw [if_pos h1, V_nil h1, V_nil h1]
    subst h2
    exact ⟨h, rfl⟩
  · have hne : s.data.toList ≠ [] := by obtain ⟨b, t, e, _⟩ := h3; rw [e]; simp
    rw [if_neg hne]
    refine ⟨canon_ok h3 h2 h1, ?_⟩
    unfold V
    cases n with
    | true => show (1 : Int) * _ = -((-1) * _); rw [Int.neg_mul, Int.neg_neg]
    | false => show (-1 : Int) * _ = -(1 * _); rw [Int.neg_mul]

theorem mx_comm (a b : Int) : mx a b = mx b a := by unfold mx; split <;> split <;> omega
theorem V_up (n : Bool) (s : ByteArray) {x : Int} {M : Nat} (h0 : 0 ≤ x) (h : x ≤ M) (d : Nat) : V n s x (M + d) = V n s x M * ((10 ^ d : Nat) : Int) := by
  unfold V
  have e : M + d - x.toNat = (M - x.toNat) + d := by omega
  rw [e, Nat.pow_add, ← Nat.mul_assoc, Int.natCast_mul, Int.mul_assoc]
theorem pow_posI (d : Nat) : (0 : Int) < ((10 ^ d : Nat) : Int) := by have : 0 < 10 ^ d := Nat.pow_pos (by omega); omega
theorem sgn3_mul (a b : Int) {p : Int} (hp : 0 < p) : sgn3 (a * p) (b * p) = sgn3 a b := by
  unfold sgn3
  rcases Int.lt_trichotomy a b with h | h | h
  · have := Int.mul_lt_mul_of_pos_right h hp
    rw [if_pos this, if_pos h]
  · subst h; simp
  · have := Int.mul_lt_mul_of_pos_right h hp
    rw [if_neg (by omega), if_pos this, if_neg (by omega), if_pos h]
theorem cmpD_any {n0 n1 : Bool} {s0 s1 : ByteArray} {x0 x1 : Int} (h0 : okB n0 s0 x0 = true) (h1 : okB n1 s1 x1 = true) (M : Nat) (g0 : x0 ≤ M) (g1 : x1 ≤ M) :
    cmpD n0 s0 x0 n1 s1 x1 = sgn3 (V n0 s0 x0 M) (V n1 s1 x1 M) := by
  obtain ⟨_, a0, a1⟩ := ok_len h0
  obtain ⟨_, b0, b1⟩ := ok_len h1
  obtain ⟨k0, k1, k2⟩ := mx_le x0 x1
  obtain ⟨m, hm⟩ : ∃ m : Nat, (m : Int) = mx x0 x1 := ⟨(mx x0 x1).toNat, by omega⟩
  obtain ⟨d, rfl⟩ : ∃ d, M = m + d := ⟨M - m, by omega⟩
  rw [V_up n0 s0 a0 (by omega) d, V_up n1 s1 b0 (by omega) d, sgn3_mul _ _ (pow_posI d)]
  exact cmpD_V h0 h1 m hm
theorem V_cut {n : Bool} {s : ByteArray} {x : Int} (h : okB n s x = true) {M d : Nat} {K : Int} (hx : x ≤ ((M + d : Nat) : Int)) (hv : V n s x (M + d) = K * ((10 ^ d : Nat) : Int)) : x ≤ M := by
  rcases ok_canon h with ⟨h1, h2, h3⟩ | ⟨y, rfl, h1, h2, hc⟩
  · omega
  · rcases Nat.lt_or_ge M y with hlt | hge
    · exfalso
      obtain ⟨b, t, e, hd, hb, hlast⟩ := hc
      obtain ⟨f, rfl⟩ : ∃ f, y = M + (f + 1) := ⟨y - M - 1, by omega⟩
      obtain ⟨g, rfl⟩ : ∃ g, d = (f + 1) + g := ⟨d - (f + 1), by omega⟩
      have e1 : (M + (f + 1 + g)) - ((M + (f + 1) : Nat) : Int).toNat = g := by omega
      unfold V at hv
      rw [e1, Nat.pow_add, Int.natCast_mul, Int.natCast_mul, ← Int.mul_assoc, ← Int.mul_assoc] at hv
      have hv2 := Int.eq_of_mul_eq_mul_right (by have := pow_posI g; omega) hv
      rw [Nat.pow_succ, Int.natCast_mul, ← Int.mul_assoc] at hv2
      rcases hlast with h0 | ⟨u, c, e3, hc⟩
      · omega
      · rw [e3, nv_snoc] at hv2
        have hcd : digB c = true := List.all_eq_true.1 hd c (by rw [← e, e3]; simp)
        have h1 := dv_lt hcd
        have h2 : dv c ≠ 0 := by
          simp only [digB, Bool.and_eq_true, decide_eq_true_eq] at hcd
          have : c.toNat ≠ 48 := fun e => hc ((b48n c).1 e)
          unfold dv; omega
        generalize K * ((10 ^ f : Nat) : Int) = Q at hv2
        rcases sg_cases n with e | e <;> rw [e] at hv2 <;> omega
    · omega
theorem V_back {n0 n1 ns : Bool} {s0 s1 ss : ByteArray} {x0 x1 xs : Int} (h0 : okB n0 s0 x0 = true) (hs : okB ns ss xs = true) (h1 : okB n1 s1 x1 = true) {M Mb : Nat} (hM : (M : Int) = mx x0 x1) (hMb : (Mb : Int) = mx xs x1)
    (hx : xs ≤ M) (hv : V ns ss xs M = V n0 s0 x0 M + V n1 s1 x1 M) : x0 ≤ Mb ∧ V n0 s0 x0 Mb = V ns ss xs Mb - V n1 s1 x1 Mb := by
  obtain ⟨_, a0, a1⟩ := ok_len h0
  obtain ⟨_, b0, b1⟩ := ok_len h1
  obtain ⟨_, c0, c1⟩ := ok_len hs
  obtain ⟨k0, k1, k2⟩ := mx_le x0 x1
  obtain ⟨j0, j1, j2⟩ := mx_le xs x1
  obtain ⟨d, rfl⟩ : ∃ d, M = Mb + d := ⟨M - Mb, by omega⟩
  have e1 := V_up ns ss c0 (by omega : xs ≤ (Mb : Int)) d
  have e2 := V_up n1 s1 b0 (by omega : x1 ≤ (Mb : Int)) d
  have e3 : V n0 s0 x0 (Mb + d) = (V ns ss xs Mb - V n1 s1 x1 Mb) * ((10 ^ d : Nat) : Int) := by rw [Int.sub_mul, ← e1, ← e2, hv]; omega
  have hle : x0 ≤ Mb := V_cut h0 (by omega) e3
  refine ⟨hle, ?_⟩
  rw [V_up n0 s0 a0 hle d] at e3
  exact Int.eq_of_mul_eq_mul_right (by have := pow_posI d; omega) e3
theorem added_j0 {n0 n1 : Bool} {s0 s1 : ByteArray} {x0 x1 : Int} (h0 : okB n0 s0 x0 = true) (h1 : okB n1 s1 x1 = true) {n : Bool} {l : List UInt8} {M : Nat} (hM : (M : Int) = mx x0 x1)
    (hd : l.all digB = true) (hv : sg n * (nv l : Int) = V n0 s0 x0 M + V n1 s1 x1 M) (hok : (norm n l M).2.2.2 = true) (z : Bool × ByteArray × Int) :
    Ev (fun k => laws_FnAdded.j0 k true true false n0 s0 x0 n1 s1 x1 (norm n l M).1 (norm n l M).2.1 (norm n l M).2.2.1 z.1 z.2.1 z.2.2) true := by
  obtain ⟨z0, a0, a1⟩ := ok_len h0
  obtain ⟨z1, b0, b1⟩ := ok_len h1
  obtain ⟨g0, g1, g2⟩ := mx_le x0 x1
  have hM' : (M : Int) = mx x1 x0 := by rw [mx_comm]; exact hM
  obtain ⟨q1, q2, q3⟩ := norm_good n l M hd hok
  -- the sum the other way round
  obtain ⟨n2, l2, hd2, hv2, add2⟩ := add_impl h1 h0 M hM'
  have e2 : norm n2 l2 M = norm n l M := norm_eq hd2 hd (by rw [hv2, hv, Int.add_comm])
  rw [e2] at add2
  obtain ⟨ns, ss, xs, ok, hN⟩ : ∃ a b c d, norm n l M = (a, b, c, d) := ⟨_, _, _, _, rfl⟩
  rw [hN] at q1 q2 q3 add2 hok ⊢
  simp only at q1 q2 q3 hok ⊢
  subst hok
  obtain ⟨zs, c0, c1⟩ := ok_len q1
  -- what is added is taken away again
  obtain ⟨Mb, hMb⟩ : ∃ Mb : Nat, (Mb : Int) = mx xs x1 := ⟨(mx xs x1).toNat, by have := mx_le xs x1; omega⟩
  obtain ⟨p1, p2⟩ := neg_ok h1 Mb
  obtain ⟨n3, l3, hd3, hv3, add3⟩ := add_impl q1 p1 Mb hMb
  rw [p2] at hv3
  have hback : x0 ≤ Mb ∧ V n0 s0 x0 Mb = V ns ss xs Mb - V n1 s1 x1 Mb := V_back h0 q1 h1 hM hMb q2 (by rw [q3, hv])
  have e3 : norm n3 l3 Mb = (n0, s0, x0, true) := norm_is n3 l3 Mb hd3 h0 hback.1 (by rw [hback.2, hv3, Int.sub_eq_add_neg])
  rw [e3] at add3
  -- the order
  have hcs := impl_CompareDec_f ns ss xs n0 s0 x0 (by omega) (by omega)
  have hcz := impl_CompareDec_f false (⟨#[]⟩ : ByteArray) 0 n1 s1 x1 (by decide) (by omega)
  have ans : answer ns ss xs n0 s0 x0 = cmpD ns ss xs n0 s0 x0 := by unfold answer; rw [q1, h0]; rfl
  have az : answer false (⟨#[]⟩ : ByteArray) 0 n1 s1 x1 = cmpD false (⟨#[]⟩ : ByteArray) 0 n1 s1 x1 := by unfold answer; rw [nil_ok, h1]; rfl
  rw [ans, cmpD_any q1 h0 M q2 (by omega), q3, hv] at hcs
  rw [az, cmpD_any nil_ok h1 M (by omega) (by omega), V_zero] at hcz
  have hr := sgn3_range 0 (V n1 s1 x1 M)
  have hw : wrap64 (- sgn3 0 (V n1 s1 x1 M)) = - sgn3 0 (V n1 s1 x1 M) := w64 (by omega) (by omega)
  have hc : sgn3 (V n0 s0 x0 M + V n1 s1 x1 M) (V n0 s0 x0 M) = - sgn3 0 (V n1 s1 x1 M) := by
    unfold sgn3; (repeat' split) <;> omega
  have body : Ev (fun k => (impl_AddDec.f k n1 s1 x1 n0 s0 x0).bind fun bt488 => ((impl_AddDec.f k ns ss xs (negN n1 s1) s1 x1).bind fun bt498 => (if bt488.2.2.2 = true then (if (bt488.1 == ns && (bt488.2.1.data.toList == ss.data.toList && (bt488.2.2.1 == xs))) = true then (if bt498.2.2.2 = true then (if (bt498.1 == n0 && (bt498.2.1.data.toList == s0.data.toList && (bt498.2.2.1 == x0))) = true then ((impl_CompareDec.f k ns ss xs n0 s0 x0).bind fun t505 => ((impl_CompareDec.f k false (⟨#[]⟩ : ByteArray) 0 n1 s1 x1).bind fun t506 => (some (t505 == (wrap64 (-t506)))))) else (none)) else (none)) else (none)) else (none)))) true := by
    refine Ev.bind add2 (Ev.bind add3 ?_)
    simp only [if_true, beq_self_eq_true, Bool.and_self]
    refine Ev.bind hcs (Ev.bind hcz ?_)
    rw [hw, hc, beq_self_eq_true]
    exact Ev.now _
  refine Ev.step (fun k => ?_) body
  simp only [laws_FnAdded.j0, Bool.false_eq_true, if_false, Lib.toList_data]
  by_cases c : s1.data.toList = []
  · have : negN n1 s1 = false := by unfold negN; rw [if_pos c]
    rw [this]; simp only [if_pos c]
  · have : negN n1 s1 = !n1 := by unfold negN; rw [if_neg c]
    rw [this]; simp only [if_neg c]
theorem add_no {n0 n1 : Bool} {s0 s1 : ByteArray} {x0 x1 : Int} (hs0 : s0.size ≤ 1000) (hs1 : s1.size ≤ 1000) (h : (okB n0 s0 x0 && okB n1 s1 x1) = false) :
    Ev (fun k => impl_AddDec.f k n0 s0 x0 n1 s1 x1) (false, ⟨#[]⟩, 0, false) ∧ Ev (fun k => spec_AddDec.f k n0 s0 x0 n1 s1 x1) (false, ⟨#[]⟩, 0, false) := by
  have q0 := spec_DecOk_f n0 s0 x0 (by omega)
  have q1 := spec_DecOk_f n1 s1 x1 (by omega)
  constructor
  · unfold impl_AddDec.f
    rw [impl_DecOk_f n0 s0 x0 (by omega), impl_DecOk_f n1 s1 x1 (by omega)]
    simp only [Option.bind_some]
    cases e0 : okB n0 s0 x0 with
    | true =>
      have e1 : okB n1 s1 x1 = false := by rw [e0] at h; exact h
      rw [e1]
      simp only [if_true, Bool.not_false]
      exact Ev.step (f := fun _ => some (false, (⟨#[]⟩ : ByteArray), (0 : Int), false)) (fun k => by simp only [impl_AddDec.j0, if_true]) (Ev.now _)
    | false =>
      simp only [Bool.false_eq_true, if_false]
      exact Ev.step (f := fun _ => some (false, (⟨#[]⟩ : ByteArray), (0 : Int), false)) (fun k => by simp only [impl_AddDec.j0, if_true]) (Ev.now _)
  · unfold spec_AddDec.f
    refine Ev.bind q0 ?_
    cases e0 : okB n0 s0 x0 with
    | true =>
      have e1 : okB n1 s1 x1 = false := by rw [e0] at h; exact h
      simp only [if_true]
      refine Ev.bind q1 ?_
      rw [e1]
      simp only [Bool.not_false]
      exact Ev.step (f := fun _ => some (false, (⟨#[]⟩ : ByteArray), (0 : Int), false)) (fun k => by simp only [spec_AddDec.j0, if_true]) (Ev.now _)
    | false =>
      simp only [Bool.false_eq_true, if_false]
      exact Ev.step (f := fun _ => some (false, (⟨#[]⟩ : ByteArray), (0 : Int), false)) (fun k => by simp only [spec_AddDec.j0, if_true]) (Ev.now _)
theorem add_both (n0 n1 : Bool) (s0 s1 : ByteArray) (x0 x1 : Int) (hs0 : s0.size ≤ 1000) (hs1 : s1.size ≤ 1000) :
    ∃ r, Ev (fun k => impl_AddDec.f k n0 s0 x0 n1 s1 x1) r ∧ Ev (fun k => spec_AddDec.f k n0 s0 x0 n1 s1 x1) r ∧ (r.2.2.2 = true → okB n0 s0 x0 = true ∧ okB n1 s1 x1 = true ∧
      ∃ (n : Bool) (l : List UInt8) (M : Nat), (M : Int) = mx x0 x1 ∧ l.all digB = true ∧ sg n * (nv l : Int) = V n0 s0 x0 M + V n1 s1 x1 M ∧ r = norm n l M) := by
  cases h : (okB n0 s0 x0 && okB n1 s1 x1) with
  | false => exact ⟨_, (add_no hs0 hs1 h).1, (add_no hs0 hs1 h).2, fun e => by cases e⟩
  | true =>
    rw [Bool.and_eq_true] at h
    obtain ⟨_, a0, a1⟩ := ok_len h.1
    obtain ⟨M, hM⟩ : ∃ M : Nat, (M : Int) = mx x0 x1 := ⟨(mx x0 x1).toNat, by have := mx_le x0 x1; omega⟩
    obtain ⟨n, l, hl, hv, ha⟩ := add_impl h.1 h.2 M hM
    obtain ⟨n2, l2, hl2, hv2, ha2⟩ := add_spec h.1 h.2 M hM
    have e : norm n2 l2 M = norm n l M := norm_eq hl2 hl (by rw [hv2, hv])
    rw [e] at ha2
    exact ⟨_, ha, ha2, fun _ => ⟨h.1, h.2, n, l, M, hM, hl, hv, rfl⟩⟩
theorem FnAdded : laws_FnAdded.Pure := by
  intro l _ h1 h2
  have h := code_of h1 h2
  refine Ev.rounds ?_
  unfold laws_FnAdded.f laws_big.f
  simp only [Option.bind_some]
  by_cases c : (decide ((l.length : Int) > 1048576)) = true
  · simp only [c, if_true]; exact Ev.now _
  · simp only [c]
    obtain ⟨n, s, x, m, t, y, hd, hs, ht⟩ := drawCompare h
    have hd' : Ev (fun k => spec_DrawAddDec.f k l) (n, s, x, m, t, y) := by
      unfold spec_DrawAddDec.f
      exact Ev.bind hd (Ev.now _)
    refine Ev.bind hd' ?_
    obtain ⟨⟨rn, rs, rx, ro⟩, ha, hb, hr⟩ := add_both n m s t x y hs ht
    refine Ev.bind ha (Ev.bind hb ?_)
    simp only [Lib.toList_data, beq_self_eq_true, Bool.not_true, Bool.or_self, Bool.false_eq_true, if_false, bne_self_eq_false]
    cases ro with
    | false =>
      refine Ev.step (f := fun _ => some true) (fun k => ?_) (Ev.now _)
      simp only [laws_FnAdded.j0, Bool.not_false, if_true, beq_self_eq_true, Bool.and_self]
    | true =>
      obtain ⟨k0, k1, n', l', M, hM, hl, hv, he⟩ := hr rfl
      have := added_j0 k0 k1 hM hl hv (by rw [← he]) (rn, rs, rx)
      rw [← he] at this
      exact this
end Go.Proofs.YtilmhfkbpnejeaaDoor.Pure
