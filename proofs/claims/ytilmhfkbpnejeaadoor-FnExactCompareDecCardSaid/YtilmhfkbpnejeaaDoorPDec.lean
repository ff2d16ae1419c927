/- What the printed functions on decimal numbers compute, in plain Lean: right numbers, digits on one scale, and their order. -/
import Derived.Test.YtilmhfkbpnejeaaDoorL22
import Derived.Test.YtilmhfkbpnejeaaDoorL9
import Derived.Sort.Walk0
namespace Go.Proofs.YtilmhfkbpnejeaaDoor.Pure
open Go.RowKit Go.Proofs.YtilmhfkbpnejeaaDoor.L Go.Proofs.YtilmhfkbpnejeaaDoorW.PrintWords Go.Proofs.YtilmhfkbpnejeaaDoorW.PrintLast Go.Proofs.YtilmhfkbpnejeaaDoorW.PrintMore
set_option linter.unusedVariables false
set_option linter.unusedSimpArgs false

theorem ba_ext {a b : ByteArray} (h : a.data.toList = b.data.toList) : a = b := by
  cases a; cases b; simp only [ByteArray.mk.injEq]; exact Array.toList_inj.mp h
theorem ba_app (a b : ByteArray) : (a ++ b).data.toList = a.data.toList ++ b.data.toList := by
  rw [ByteArray.data_append, Array.toList_append]
theorem sz (a : ByteArray) : a.size = a.data.toList.length := (data_length a).symm
theorem w64 {n : Int} (h : -9223372036854775808 ≤ n) (h' : n ≤ 9223372036854775807) : wrap64 n = n := by unfold wrap64; omega
theorem bt_nat (s : ByteArray) (i : Nat) (h : i < s.data.toList.length) : bt s (i : Int) = ((s.data.toList[i]).toNat : Int) := by
  have h' : i < s.size := by rw [sz]; exact h
  unfold bt
  rw [dif_pos (by simpa using h')]
  simp only [Int.toNat_natCast]
  rfl
theorem i64_of {n : Int} (h : (Lit.int .i64 n).wf = true) : -9223372036854775808 ≤ n ∧ n ≤ 9223372036854775807 := by
  simpa [Lit.wf, IntKind.min, IntKind.max, IntKind.signed, IntKind.bits] using h

def digB (b : UInt8) : Bool := decide (48 ≤ b.toNat) && decide (b.toNat ≤ 57)
theorem digit_f (b : UInt8) : spec_l1Digit.f (b.toNat : Int) = some (digB b) := by
  unfold spec_l1Digit.f digB
  by_cases h : (b.toNat : Int) ≥ 48
  · have h' : 48 ≤ b.toNat := by omega
    simp only [if_pos h, h', decide_true, Bool.true_and]
    congr 1
    simp only [decide_eq_decide]; omega
  · have h' : ¬ 48 ≤ b.toNat := by omega
    simp only [if_neg h, h', decide_false, Bool.false_and]

theorem l4Digits_l0 (s : ByteArray) (hs : s.data.toList.length ≤ 9223372036854775806) : ∀ (n i : Nat), i + n = s.data.toList.length →
    Ev (fun k => spec_l4Digits.l0 k s (i : Int)) ((s.data.toList.drop i).all digB) := by
  intro n
  induction n with
  | zero =>
    intro i hi
    refine Ev.step (f := fun _ => some true) (fun k => ?_) ?_
    · unfold spec_l4Digits.l0
      rw [if_neg (by rw [sz]; omega)]
    · rw [List.drop_of_length_le (by omega)]; exact Ev.now _
  | succ n ih =>
    intro i hi
    have hlt : i < s.data.toList.length := by omega
    have e : spec_l1Digit.f (bt s (i : Int)) = some (digB (s.data.toList[i])) := by rw [bt_nat s i hlt]; exact digit_f _
    have hd : s.data.toList.drop i = s.data.toList[i] :: s.data.toList.drop (i + 1) := List.drop_eq_getElem_cons hlt
    have w : wrap64 ((i : Int) + 1) = ((i + 1 : Nat) : Int) := by rw [w64] <;> omega
    by_cases c : digB (s.data.toList[i]) = true
    · refine Ev.step (f := fun k => spec_l4Digits.l0 k s ((i + 1 : Nat) : Int)) (fun k => ?_) ?_
      · conv => lhs; unfold spec_l4Digits.l0
        rw [if_pos (by rw [sz]; omega), if_pos (by omega), e]
        simp only [Option.bind_some, if_pos c, w]
      · rw [hd, List.all_cons, c, Bool.true_and]; exact ih (i + 1) (by omega)
    · refine Ev.step (f := fun _ => some false) (fun k => ?_) ?_
      · conv => lhs; unfold spec_l4Digits.l0
        rw [if_pos (by rw [sz]; omega), if_pos (by omega), e]
        simp only [Option.bind_some, if_neg c]
      · rw [hd, List.all_cons]
        rw [Bool.not_eq_true] at c
        rw [c, Bool.false_and]; exact Ev.now _
theorem l4Digits (s : ByteArray) (hs : s.data.toList.length ≤ 9223372036854775806) : Ev (fun k => spec_l4Digits.f k s) (s.data.toList.all digB) := by
  have := l4Digits_l0 s hs s.data.toList.length 0 (by omega)
  simpa [spec_l4Digits.f] using this

def inB (x : Int) : Bool := decide (0 ≤ x) && decide (x ≤ 60)
theorem l1In_f (x : Int) : spec_l1In.f x 0 60 = some (inB x) := by
  unfold spec_l1In.f inB
  by_cases h : x ≥ 0
  · have h' : 0 ≤ x := h
    simp [if_pos h, h']
  · have h' : ¬ 0 ≤ x := h
    simp [if_neg h, h']
theorem impl_in_f (x : Int) : impl_in.f x 0 60 = some (inB x) := by
  unfold impl_in.f inB
  by_cases h : 0 ≤ x
  · simp [if_pos h, h]
  · simp [if_neg h, h]

/-- A right number. -/
def okL (n : Bool) (x : Int) : List UInt8 → Bool
  | [] => !n && (x == 0)
  | b :: l => decide ((b :: l).length ≤ 60) && ((b :: l).all digB && (b.toNat != 48 && (inB x && (x == 0 || ((b :: l).getLast (by simp)).toNat != 48))))

def okB (n : Bool) (s : ByteArray) (x : Int) : Bool := okL n x s.data.toList

theorem dropWhile_nil {α : Type} (p : α → Bool) : ∀ l : List α, l.dropWhile p = [] ↔ ∀ x ∈ l, p x = true
  | [] => by simp
  | a :: l => by
    by_cases c : p a = true
    · rw [List.dropWhile_cons_of_pos c, dropWhile_nil p l]; simp [c]
    · rw [List.dropWhile_cons_of_neg c]; simp [c]
theorem trim_nil (l cs : List UInt8) : (Lib.trimS l cs = []) ↔ (l.all (cs.contains ·) = true) := by
  unfold Lib.trimS Lib.trimLeftS Lib.trimRightS
  constructor
  · intro h
    rw [dropWhile_nil] at h
    rw [List.all_eq_true]
    intro x hx
    have hx' : x ∈ l.reverse := by simpa using hx
    rw [← List.takeWhile_append_dropWhile (p := (cs.contains ·)) (l := l.reverse)] at hx'
    rcases List.mem_append.1 hx' with h1 | h1
    · exact (List.all_eq_true.1 (List.all_takeWhile (p := (cs.contains ·)) (l := l.reverse))) x h1
    · exact h x (by simpa using h1)
  · intro h
    rw [List.all_eq_true] at h
    rw [dropWhile_nil]
    intro x hx
    have : x ∈ l.reverse := (List.dropWhile_sublist _).subset (by simpa using hx)
    exact h x (by simpa using this)
set_option maxRecDepth 100000 in
theorem digs_contains (b : UInt8) : ([48, 49, 50, 51, 52, 53, 54, 55, 56, 57] : List UInt8).contains b = digB b := by
  revert b
  have : ∀ n : Fin 256, ([48, 49, 50, 51, 52, 53, 54, 55, 56, 57] : List UInt8).contains (UInt8.ofNat n.val) = digB (UInt8.ofNat n.val) := by decide +kernel
  intro b
  have h := this ⟨b.toNat, b.toNat_lt⟩
  simpa using h
theorem isDigits_f (s : ByteArray) (hs : s.size ≤ 9223372036854775807) : impl_isDigits.f s = some (s.data.toList.all digB) := by
  unfold impl_isDigits.f strings_Trim.f
  rw [if_pos ⟨hs, by decide, by decide⟩]
  simp only [Option.bind_some, Lib.toList_data]
  congr 1
  have h := trim_nil s.data.toList ([48, 49, 50, 51, 52, 53, 54, 55, 56, 57] : List UInt8)
  simp only [digs_contains] at h
  rw [Bool.eq_iff_iff, beq_iff_eq]
  exact h

theorem last_bt (s : ByteArray) (b : UInt8) (l : List UInt8) (h : s.data.toList = b :: l) : bt s ((s.size : Int) - 1) = (((b :: l).getLast (by simp)).toNat : Int) := by
  have e : ((s.size : Int) - 1) = ((l.length : Nat) : Int) := by rw [sz, h]; simp
  rw [e, bt_nat s l.length (by rw [h]; simp)]
  congr 2
  rw [List.getLast_eq_getElem]
  simp [h]
theorem first_bt (s : ByteArray) (b : UInt8) (l : List UInt8) (h : s.data.toList = b :: l) : bt s 0 = (b.toNat : Int) := by
  have := bt_nat s 0 (by rw [h]; simp)
  simp only [h, Int.ofNat_zero, List.getElem_cons_zero] at this
  simpa using this

theorem impl_DecOk_f (n : Bool) (s : ByteArray) (x : Int) (hs : s.size ≤ 9223372036854775807) : impl_DecOk.f n s x = some (okB n s x) := by
  unfold impl_DecOk.f
  rw [Lib.toList_data]
  unfold okB
  rcases h : s.data.toList with _ | ⟨b, l⟩
  · simp [okL]
  · unfold okL
    have hl : (s.size : Int) = ((b :: l).length : Int) := by rw [sz, h]
    have hl0 : s.size ≤ 60 ↔ (b :: l).length ≤ 60 := by rw [sz, h]
    rw [if_neg (by simp)]
    by_cases c : (b :: l).length ≤ 60
    · have c' := hl0.2 c
      have hw : wrap64 ((s.size : Int) - 1) = (s.size : Int) - 1 := by rw [w64] <;> omega
      have hpos : 0 < (s.size : Int) := by rw [hl]; simp
      rw [if_pos (by omega), isDigits_f s hs, h]
      simp only [Option.bind_some, impl_in_f, hw, last_bt s b l h, first_bt s b l h, if_pos hpos]
      simp only [c, decide_true, Bool.true_and]
      rw [if_pos (by omega : (0 : Int) ≤ (s.size : Int) - 1), if_pos (by omega : (s.size : Int) - 1 < s.size)]
      cases h1 : (b :: l).all digB with
      | false => simp
      | true =>
        simp only [if_true, Bool.true_and]
        by_cases h2 : b.toNat = 48
        · simp [h2]
        · have h2' : ¬ ((b.toNat : Int) = 48) := by omega
          simp only [if_neg h2', h2, bne_iff_ne, ne_eq, not_false_eq_true]
          have h3 : (b.toNat != 48) = true := by simpa using h2
          rw [h3, Bool.true_and]
          cases h4 : inB x with
          | false => simp
          | true =>
            simp only [if_true, Bool.true_and]
            by_cases h5 : x = 0
            · simp [h5]
            · simp only [if_neg h5]
              congr 1
              have h6 : (x == 0) = false := by simpa using h5
              rw [h6, Bool.false_or]
              rw [Bool.eq_iff_iff]
              simp only [bne_iff_ne, ne_eq]
              omega
    · have c' : ¬ s.size ≤ 60 := fun z => c (hl0.1 z)
      rw [if_neg (by omega)]
      simp only [c, decide_false, Bool.false_and]

theorem spec_DecOk_f (n : Bool) (s : ByteArray) (x : Int) (hs : s.size ≤ 9223372036854775806) : Ev (fun k => spec_DecOk.f k n s x) (okB n s x) := by
  have hs' : s.data.toList.length ≤ 9223372036854775806 := by rw [← sz]; exact hs
  have jt : ∀ (z : Int), Ev (fun k => spec_DecOk.j0 k z true n s x) false := fun z =>
    Ev.step (f := fun _ => some false) (fun k => by unfold spec_DecOk.j0; rfl) (Ev.now _)
  unfold okB
  rcases h : s.data.toList with _ | ⟨b, l⟩
  · have hz : (s.size : Int) = 0 := by rw [sz, h]; rfl
    unfold okL
    refine Ev.congr (f := fun k => (spec_l4Digits.f k s).bind fun t104 => (if t104 = true then ((spec_l1In.f x 0 60).bind fun t105 => (spec_DecOk.j0 k (s.size : Int) (!t105) n s x)) else (spec_DecOk.j0 k (s.size : Int) true n s x))) (fun k => ?_) ?_
    · unfold spec_DecOk.f; rw [if_neg (by omega)]
    · have hd := l4Digits s hs'
      rw [h] at hd
      refine Ev.bind hd ?_
      simp only [List.all_nil, if_true, l1In_f, Option.bind_some, hz]
      refine Ev.step (f := fun _ => some (!n && (x == 0))) (fun k => ?_) (Ev.now _)
      simp only [spec_DecOk.j0, if_true]
      by_cases c : inB x = true
      · rw [c]; cases n <;> simp
      · have hx : x ≠ 0 := fun e => c (by rw [e]; decide)
        rw [Bool.not_eq_true] at c
        rw [c]
        simp [hx]
  · have hl : (s.size : Int) = ((b :: l).length : Int) := by rw [sz, h]
    unfold okL
    by_cases c : (b :: l).length ≤ 60
    · refine Ev.congr (f := fun k => (spec_l4Digits.f k s).bind fun t104 => (if t104 = true then ((spec_l1In.f x 0 60).bind fun t105 => (spec_DecOk.j0 k (s.size : Int) (!t105) n s x)) else (spec_DecOk.j0 k (s.size : Int) true n s x))) (fun k => ?_) ?_
      · unfold spec_DecOk.f; rw [if_neg (by omega)]
      · have hd := l4Digits s hs'
        rw [h] at hd
        refine Ev.bind hd ?_
        simp only [c, decide_true, Bool.true_and, l1In_f, Option.bind_some]
        cases h1 : (b :: l).all digB with
        | false => simp only [Bool.false_eq_true, if_false, Bool.false_and]; exact jt _
        | true =>
          simp only [if_true, Bool.true_and]
          cases h4 : inB x with
          | false => simp only [Bool.not_false, Bool.false_and, Bool.and_false]; exact jt _
          | true =>
            simp only [Bool.not_true, Bool.true_and]
            have hw : wrap64 ((s.size : Int) - 1) = (s.size : Int) - 1 := by rw [w64] <;> omega
            have hpos : 0 < (s.size : Int) := by rw [hl]; simp
            refine Ev.step (f := fun _ => some (b.toNat != 48 && (x == 0 || ((b :: l).getLast (by simp)).toNat != 48))) (fun k => ?_) (Ev.now _)
            simp only [spec_DecOk.j0, Bool.false_eq_true, if_false]
            rw [if_neg (by omega), if_pos hpos, first_bt s b l h, hw, last_bt s b l h]
            rw [if_pos (by omega : (0 : Int) ≤ (s.size : Int) - 1), if_pos (by omega : (s.size : Int) - 1 < s.size)]
            by_cases h2 : b.toNat = 48
            · simp [h2]
            · have h2' : ¬ ((b.toNat : Int) = 48) := by omega
              have h3 : (b.toNat != 48) = true := by simpa using h2
              rw [if_neg h2', h3, Bool.true_and]
              by_cases h5 : x = 0
              · simp [h5]
              · rw [if_neg h5]
                congr 1
                have h6 : (x == 0) = false := by simpa using h5
                rw [h6, Bool.false_or, Bool.eq_iff_iff]
                simp only [bne_iff_ne, ne_eq]
                omega
    · refine Ev.congr (f := fun k => spec_DecOk.j0 k (s.size : Int) true n s x) (fun k => ?_) ?_
      · unfold spec_DecOk.f; rw [if_pos (by omega)]
      · simp only [c, decide_false, Bool.false_and]; exact jt _

/-- What a right number gives. -/
theorem ok_len {n : Bool} {s : ByteArray} {x : Int} (h : okB n s x = true) : s.size ≤ 60 ∧ 0 ≤ x ∧ x ≤ 60 := by
  unfold okB at h
  rcases e : s.data.toList with _ | ⟨b, l⟩
  · rw [e] at h
    simp only [okL, Bool.and_eq_true, beq_iff_eq] at h
    rw [sz, e]
    simp [h.2]
  · rw [e] at h
    simp only [okL, Bool.and_eq_true, decide_eq_true_eq, inB] at h
    rw [sz, e]
    exact ⟨h.1, h.2.2.2.1.1, h.2.2.2.1.2⟩

/-! ### two numbers on one scale -/
def Z (n : Nat) : ByteArray := ⟨(List.replicate n 48).toArray⟩
theorem Z_list (n : Nat) : (Z n).data.toList = List.replicate n 48 := by simp [Z]
theorem Z_size (n : Nat) : (Z n).size = n := by rw [sz, Z_list]; simp
theorem zero_list : ((⟨#[48]⟩ : ByteArray).data.toList) = [48] := rfl
theorem Z_right (s : ByteArray) (n : Nat) : (s ++ Z n) ++ (⟨#[48]⟩ : ByteArray) = s ++ Z (n + 1) := by
  apply ba_ext
  simp only [ba_app, Z_list, zero_list, List.append_assoc]
  rw [List.replicate_succ']
theorem Z_left (s : ByteArray) (n : Nat) : (⟨#[48]⟩ : ByteArray) ++ (Z n ++ s) = Z (n + 1) ++ s := by
  apply ba_ext
  simp only [ba_app, Z_list, zero_list]
  rw [List.replicate_succ]; rfl
theorem Z_none_r (s : ByteArray) : s ++ Z 0 = s := by apply ba_ext; simp [ba_app, Z_list]
theorem Z_none_l (s : ByteArray) : Z 0 ++ s = s := by apply ba_ext; simp [ba_app, Z_list]
theorem app_size (a b : ByteArray) : (a ++ b).size = a.size + b.size := by simp only [sz, ba_app, List.length_append]
theorem repeat_f (n : Int) (h : 0 ≤ n) (h' : n ≤ 140737488355328) : strings_Repeat.f (⟨#[48]⟩ : ByteArray) n = some (Z n.toNat) := by
  unfold strings_Repeat.f
  have e1 : (⟨#[48]⟩ : ByteArray).size = 1 := rfl
  rw [if_pos ⟨h, by omega, by rw [e1]; omega⟩]
  congr 1
  apply ba_ext
  rw [Z_list]
  have : ∀ m, Lib.repeatL [48] m = List.replicate m (48 : UInt8) := fun m => by
    induction m with
    | zero => rfl
    | succ m ih => rw [Lib.repeatL, ih, List.replicate_succ]; rfl
  simpa using this n.toNat

def lv (m : Int) (s : ByteArray) (x : Int) : ByteArray := s ++ Z (m - x).toNat
def pad (n : Nat) (s : ByteArray) : ByteArray := Z (n - s.size) ++ s
def top (s0 : ByteArray) (x0 : Int) (s1 : ByteArray) (x1 : Int) : Nat := max (lv (mx x0 x1) s0 x0).size (lv (mx x0 x1) s1 x1).size
def lx (s0 : ByteArray) (x0 : Int) (s1 : ByteArray) (x1 : Int) : ByteArray := pad (top s0 x0 s1 x1) (lv (mx x0 x1) s0 x0)
def ly (s0 : ByteArray) (x0 : Int) (s1 : ByteArray) (x1 : Int) : ByteArray := pad (top s0 x0 s1 x1) (lv (mx x0 x1) s1 x1)

theorem same_l3 (X Y : ByteArray) (m : Int) (hX : X.size ≤ 1000) : ∀ n : Nat, n + Y.size = X.size ∨ (n = 0 ∧ X.size ≤ Y.size) → Ev (fun k => spec_l4Same.l3 k X Y m) (X, Z n ++ Y, m) := by
  intro n
  induction n generalizing Y with
  | zero =>
    intro h
    rw [Z_none_l]
    refine Ev.step (f := fun _ => some (X, Y, m)) (fun k => ?_) (Ev.now _)
    unfold spec_l4Same.l3
    rw [if_neg (by omega)]
  | succ n ih =>
    intro h
    have h' : n + 1 + Y.size = X.size := by omega
    refine Ev.step (f := fun k => spec_l4Same.l3 k X ((⟨#[48]⟩ : ByteArray) ++ Y) m) (fun k => ?_) ?_
    · conv => lhs; unfold spec_l4Same.l3
      rw [if_pos (by omega), if_pos (by omega)]
    · have := ih ((⟨#[48]⟩ : ByteArray) ++ Y) (.inl (by rw [app_size]; have : (⟨#[48]⟩ : ByteArray).size = 1 := rfl; omega))
      have e : Z n ++ ((⟨#[48]⟩ : ByteArray) ++ Y) = Z (n + 1) ++ Y := by
        apply ba_ext
        simp only [ba_app, Z_list, zero_list]
        rw [← List.append_assoc, List.replicate_succ']
      rw [e] at this
      exact this
theorem same_l2 (Y : ByteArray) (m : Int) (hY : Y.size ≤ 1000) : ∀ (n : Nat) (X : ByteArray), X.size ≤ 1000 → n + X.size = Y.size ∨ (n = 0 ∧ Y.size ≤ X.size) →
    Ev (fun k => spec_l4Same.l2 k X Y m) (Z n ++ X, Z (X.size - Y.size) ++ Y, m) := by
  intro n
  induction n with
  | zero =>
    intro X hX h
    rw [Z_none_l]
    refine Ev.step (f := fun k => spec_l4Same.l3 k X Y m) (fun k => ?_) (same_l3 X Y m hX _ ?_)
    · conv => lhs; unfold spec_l4Same.l2
      rw [if_neg (by omega)]
    · omega
  | succ n ih =>
    intro X hX h
    have h' : n + 1 + X.size = Y.size := by omega
    have e1 : (⟨#[48]⟩ : ByteArray).size = 1 := rfl
    refine Ev.step (f := fun k => spec_l4Same.l2 k ((⟨#[48]⟩ : ByteArray) ++ X) Y m) (fun k => ?_) ?_
    · conv => lhs; unfold spec_l4Same.l2
      rw [if_pos (by omega), if_pos (by omega)]
    · have := ih ((⟨#[48]⟩ : ByteArray) ++ X) (by rw [app_size]; omega) (.inl (by rw [app_size]; omega))
      have e : Z n ++ ((⟨#[48]⟩ : ByteArray) ++ X) = Z (n + 1) ++ X := by
        apply ba_ext
        simp only [ba_app, Z_list, zero_list]
        rw [← List.append_assoc, List.replicate_succ']
      rw [e, app_size, e1] at this
      have e2 : 1 + X.size - Y.size = X.size - Y.size := by omega
      rw [e2] at this
      exact this
theorem same_l1 (X : ByteArray) (m : Int) (hX : X.size ≤ 500) (h0 : 0 ≤ m) (h1 : m ≤ 60) : ∀ (n : Nat) (Y : ByteArray) (x : Int), 0 ≤ x → x ≤ m → (n : Int) = m - x → Y.size + n ≤ 500 →
    Ev (fun k => spec_l4Same.l1 k X Y m x) (Z (Y.size + n - X.size) ++ X, Z (X.size - (Y.size + n)) ++ (Y ++ Z n), m) := by
  intro n
  induction n with
  | zero =>
    intro Y x hx0 hx1 hn hY
    rw [Z_none_r, Nat.add_zero]
    refine Ev.step (f := fun k => spec_l4Same.l2 k X Y m) (fun k => ?_) ?_
    · conv => lhs; unfold spec_l4Same.l1
      rw [if_neg (by omega)]
    · exact same_l2 Y m (by omega) (Y.size - X.size) X (by omega) (by omega)
  | succ n ih =>
    intro Y x hx0 hx1 hn hY
    have e1 : (⟨#[48]⟩ : ByteArray).size = 1 := rfl
    refine Ev.step (f := fun k => spec_l4Same.l1 k X (Y ++ (⟨#[48]⟩ : ByteArray)) m (x + 1)) (fun k => ?_) ?_
    · conv => lhs; unfold spec_l4Same.l1
      rw [if_pos (by omega), if_pos (by omega), w64 (by omega) (by omega)]
    · have := ih (Y ++ (⟨#[48]⟩ : ByteArray)) (x + 1) (by omega) (by omega) (by omega) (by rw [app_size]; omega)
      rw [app_size, e1] at this
      have e : (Y ++ (⟨#[48]⟩ : ByteArray)) ++ Z n = Y ++ Z (n + 1) := by
        apply ba_ext
        simp only [ba_app, Z_list, zero_list, List.append_assoc]
        rw [List.replicate_succ]; rfl
      have e2 : Y.size + 1 + n = Y.size + (n + 1) := by omega
      rw [e, e2] at this
      exact this
theorem same_l0 (Y : ByteArray) (y : Int) (b : Bool) (t : ByteArray) (m : Int) (hY : Y.size ≤ 200) (h0 : 0 ≤ m) (h1 : m ≤ 60) (hy0 : 0 ≤ y) (hy1 : y ≤ m) : ∀ (n : Nat) (X : ByteArray) (x : Int), 0 ≤ x → x ≤ m → (n : Int) = m - x → X.size + n ≤ 500 →
    Ev (fun k => spec_l4Same.l0 k X Y m x b t y) (Z (Y.size + (m - y).toNat - (X.size + n)) ++ (X ++ Z n), Z (X.size + n - (Y.size + (m - y).toNat)) ++ (Y ++ Z (m - y).toNat), m) := by
  intro n
  induction n with
  | zero =>
    intro X x hx0 hx1 hn hX
    rw [Z_none_r, Nat.add_zero]
    refine Ev.step (f := fun k => spec_l4Same.l1 k X Y m y) (fun k => ?_) ?_
    · conv => lhs; unfold spec_l4Same.l0
      rw [if_neg (by omega)]
    · exact same_l1 X m (by omega) h0 h1 (m - y).toNat Y y hy0 hy1 (by omega) (by omega)
  | succ n ih =>
    intro X x hx0 hx1 hn hX
    have e1 : (⟨#[48]⟩ : ByteArray).size = 1 := rfl
    refine Ev.step (f := fun k => spec_l4Same.l0 k (X ++ (⟨#[48]⟩ : ByteArray)) Y m (x + 1) b t y) (fun k => ?_) ?_
    · conv => lhs; unfold spec_l4Same.l0
      rw [if_pos (by omega), if_pos (by omega), w64 (by omega) (by omega)]
    · have := ih (X ++ (⟨#[48]⟩ : ByteArray)) (x + 1) (by omega) (by omega) (by omega) (by rw [app_size]; omega)
      rw [app_size, e1] at this
      have e : (X ++ (⟨#[48]⟩ : ByteArray)) ++ Z n = X ++ Z (n + 1) := by
        apply ba_ext
        simp only [ba_app, Z_list, zero_list, List.append_assoc]
        rw [List.replicate_succ]; rfl
      have e2 : X.size + 1 + n = X.size + (n + 1) := by omega
      rw [e, e2] at this
      exact this
theorem mx_le (a b : Int) : a ≤ mx a b ∧ b ≤ mx a b ∧ (mx a b = a ∨ mx a b = b) := by unfold mx; split <;> omega
theorem l4Same_f (n0 : Bool) (s0 : ByteArray) (x0 : Int) (n1 : Bool) (s1 : ByteArray) (x1 : Int) (h0 : s0.size ≤ 60) (h1 : s1.size ≤ 60) (a0 : 0 ≤ x0) (a1 : x0 ≤ 60) (b0 : 0 ≤ x1) (b1 : x1 ≤ 60) :
    Ev (fun k => spec_l4Same.f k n0 s0 x0 n1 s1 x1) (lx s0 x0 s1 x1, ly s0 x0 s1 x1, mx x0 x1) := by
  obtain ⟨g0, g1, g2⟩ := mx_le x0 x1
  have := same_l0 s1 x1 n1 s1 (mx x0 x1) (by omega) (by omega) (by omega) b0 g1 (mx x0 x1 - x0).toNat s0 x0 a0 g0 (by omega) (by omega)
  unfold spec_l4Same.f lx ly pad top
  have e0 : (lv (mx x0 x1) s0 x0).size = s0.size + (mx x0 x1 - x0).toNat := by rw [lv, app_size, Z_size]
  have e1 : (lv (mx x0 x1) s1 x1).size = s1.size + (mx x0 x1 - x1).toNat := by rw [lv, app_size, Z_size]
  rw [e0, e1]
  have e2 : max (s0.size + (mx x0 x1 - x0).toNat) (s1.size + (mx x0 x1 - x1).toNat) - (s0.size + (mx x0 x1 - x0).toNat) = s1.size + (mx x0 x1 - x1).toNat - (s0.size + (mx x0 x1 - x0).toNat) := by omega
  have e3 : max (s0.size + (mx x0 x1 - x0).toNat) (s1.size + (mx x0 x1 - x1).toNat) - (s1.size + (mx x0 x1 - x1).toNat) = s0.size + (mx x0 x1 - x0).toNat - (s1.size + (mx x0 x1 - x1).toNat) := by omega
  rw [e2, e3]
  exact this
theorem level_f (n0 : Bool) (s0 : ByteArray) (x0 : Int) (n1 : Bool) (s1 : ByteArray) (x1 : Int) (h0 : s0.size ≤ 60) (h1 : s1.size ≤ 60) (a0 : 0 ≤ x0) (a1 : x0 ≤ 60) (b0 : 0 ≤ x1) (b1 : x1 ≤ 60) :
    impl_level.f n0 s0 x0 n1 s1 x1 = some (lx s0 x0 s1 x1, ly s0 x0 s1 x1, mx x0 x1) := by
  obtain ⟨g0, g1, g2⟩ := mx_le x0 x1
  have e0 : (lv (mx x0 x1) s0 x0).size = s0.size + (mx x0 x1 - x0).toNat := by rw [lv, app_size, Z_size]
  have e1 : (lv (mx x0 x1) s1 x1).size = s1.size + (mx x0 x1 - x1).toNat := by rw [lv, app_size, Z_size]
  unfold impl_level.f
  rw [w64 (n := mx x0 x1 - x0) (by omega) (by omega), w64 (n := mx x0 x1 - x1) (by omega) (by omega), repeat_f (mx x0 x1 - x0) (by omega) (by omega), repeat_f (mx x0 x1 - x1) (by omega) (by omega)]
  simp only [Option.bind_some, Z_size]
  rw [if_pos (by omega), if_pos (by omega)]
  have f0 : s0 ++ Z (mx x0 x1 - x0).toNat = lv (mx x0 x1) s0 x0 := rfl
  have f1 : s1 ++ Z (mx x0 x1 - x1).toNat = lv (mx x0 x1) s1 x1 := rfl
  rw [f0, f1]
  have e4 : mx ((lv (mx x0 x1) s0 x0).size : Int) ((lv (mx x0 x1) s1 x1).size : Int) = ((top s0 x0 s1 x1 : Nat) : Int) := by rw [mx]; unfold top; split <;> omega
  have t0 : (lv (mx x0 x1) s0 x0).size ≤ top s0 x0 s1 x1 := by unfold top; omega
  have t1 : (lv (mx x0 x1) s1 x1).size ≤ top s0 x0 s1 x1 := by unfold top; omega
  have t2 : top s0 x0 s1 x1 ≤ 200 := by unfold top; omega
  rw [e4, w64 (by omega) (by omega), w64 (by omega) (by omega), repeat_f _ (by omega) (by omega), repeat_f _ (by omega) (by omega)]
  simp only [Option.bind_some, Z_size]
  rw [if_pos (by omega), if_pos (by omega)]
  have k0 : ((top s0 x0 s1 x1 : Int) - ((lv (mx x0 x1) s0 x0).size : Int)).toNat = top s0 x0 s1 x1 - (lv (mx x0 x1) s0 x0).size := by omega
  have k1 : ((top s0 x0 s1 x1 : Int) - ((lv (mx x0 x1) s1 x1).size : Int)).toNat = top s0 x0 s1 x1 - (lv (mx x0 x1) s1 x1).size := by omega
  rw [k0, k1]
  rfl
--MORE
end Go.Proofs.YtilmhfkbpnejeaaDoor.Pure
