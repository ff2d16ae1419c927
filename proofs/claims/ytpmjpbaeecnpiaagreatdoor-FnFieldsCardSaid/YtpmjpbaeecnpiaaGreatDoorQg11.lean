/- Words and contracts for the row RowFnFields: what the Go functions answer that it calls; printed by programs of the kit and of this session, and merged. -/
import Derived.Test.YtpmjpbaeecnpiaaGreatDoorQg10
namespace Go.Proofs.YtpmjpbaeecnpiaaGreatDoor.Pure
open Go.RowKit Go.Proofs.YtpmjpbaeecnpiaaGreatDoor.L Go.Proofs.YtpmjpbaeecnpiaaGreatDoorW.PrintWords Go.Proofs.YtpmjpbaeecnpiaaGreatDoorW.PrintLast Go.Proofs.YtpmjpbaeecnpiaaGreatDoorW.PrintMore
open DT MT
set_option linter.unusedVariables false
set_option linter.unusedSimpArgs false

def atV (l : List It) (j : Nat) : List At := match l[j]? with | some x => x.f3 | none => []
theorem atV_at {l : List It} {j : Nat} (h : j < l.length) : atV l j = l[j].f3 := by
  unfold atV; rw [List.getElem?_eq_getElem h]
/-- What an attribute of this name says. -/
def hitV (nm : ByteArray) (L : List At) : List ByteArray := (L.filter fun a => decide (a.f0.toList = nm.toList)).map (·.f1)
/-- What the elements say. -/
def saysV (l : List It) (nm : ByteArray) (K : List Nat) : List ByteArray := K.flatMap fun (j : Nat) => if nm.toList = ([] : List UInt8) then [mkB (txtV l (j : Int))] else hitV nm (atV l j)
def lastD (A : List ByteArray) : ByteArray := A.getLast?.getD ⟨#[]⟩
theorem lastD_snoc (A : List ByteArray) (x : ByteArray) : lastD (A ++ [x]) = x := by unfold lastD; simp
def outV (A : List ByteArray) : ByteArray × Int := if A.length = 1 then (whiteV (lastD A), 1) else (⟨#[]⟩, (A.length : Int))
def okA (A : List ByteArray) : Prop := ∀ x ∈ A, x.data.toList.length ≤ 1048576
theorem okA_last {A : List ByteArray} (h : okA A) : (lastD A).data.toList.length ≤ 1048576 := by
  unfold lastD
  cases hx : A.getLast? with
  | none => simp
  | some x => exact h x (List.mem_of_getLast? hx)
theorem okA_snoc {A : List ByteArray} {x : ByteArray} (h : okA A) (hx : x.data.toList.length ≤ 1048576) : okA (A ++ [x]) := by
  intro y hy
  rcases List.mem_append.1 hy with h1 | h1
  · exact h y h1
  · rw [List.mem_singleton] at h1
    rw [h1]; exact hx
theorem hit_drop (nm : ByteArray) (L : List At) {q : Nat} (h : q < L.length) : hitV nm (L.drop q) = (if L[q].f0.toList = nm.toList then [L[q].f1] else []) ++ hitV nm (L.drop (q + 1)) := by
  unfold hitV
  rw [List.drop_eq_getElem_cons h, List.filter_cons]
  by_cases c : L[q].f0.toList = nm.toList
  · rw [if_pos (by simpa using c), if_pos c]
    rfl
  · rw [if_neg (by simpa using c), if_neg c]
    rfl
theorem says_drop (l : List It) (nm : ByteArray) (K : List Nat) {i : Nat} (h : i < K.length) : saysV l nm (K.drop i) = (if nm.toList = ([] : List UInt8) then [mkB (txtV l (K[i] : Int))] else hitV nm (atV l K[i])) ++ saysV l nm (K.drop (i + 1)) := by
  unfold saysV
  rw [List.drop_eq_getElem_cons h, List.flatMap_cons]
def whD (A : List ByteArray) : ByteArray := if A = [] then ⟨#[]⟩ else whiteV (lastD A)
theorem whD_snoc (A : List ByteArray) (x : ByteArray) : whD (A ++ [x]) = whiteV x := by
  unfold whD
  rw [if_neg (by simp), lastD_snoc]
section
variable (l : List It) (hsm : smallD l) (nm : ByteArray)
include hsm
theorem ifv_l1 (K : List Nat) (i j : Nat) (hj : j < l.length) (R : ByteArray × Int) : ∀ (n q : Nat) (A : List ByteArray), q + n = l[j].f3.length → A.length ≤ 1048577 * i + q → i ≤ 200 → okA A →
    (∀ A' : List ByteArray, A' = A ++ hitV nm (l[j].f3.drop q) → okA A' → A'.length ≤ 1048577 * (i + 1) → Ev (fun k => impl_fieldOf.l0 k l nm (lastD A') (A'.length : Int) (ints K) (K.length : Int) (wrap64 ((i : Int) + 1))) R) →
    Ev (fun k => impl_fieldOf.l1 k l nm (lastD A) (A.length : Int) (ints K) (K.length : Int) (i : Int) l[j].f3 (l[j].f3.length : Int) (q : Int)) R := by
  have hs3 := (hsm _ (List.getElem_mem hj)).2.2
  intro n
  induction n with
  | zero =>
    intro q A hq hA hi ok h
    have h1 := h A (by rw [List.drop_eq_nil_of_le (by omega)]; simp [hitV]) ok (by have := hs3.1; omega)
    refine Ev.step (fun k => ?_) h1
    conv => lhs; unfold impl_fieldOf.l1
    rw [if_neg (by omega)]
  | succ n ih =>
    intro q A hq hA hi ok h
    have hlt : q < l[j].f3.length := by omega
    have hsa := hs3.2 _ (List.getElem_mem hlt)
    have hw : wrap64 ((q : Int) + 1) = ((q + 1 : Nat) : Int) := by rw [w64] <;> (have := hs3.1; omega)
    have hd1 := hit_drop nm l[j].f3 hlt
    by_cases c : l[j].f3[q].f0.toList = nm.toList
    · rw [if_pos c] at hd1
      have hwA : wrap64 ((A.length : Int) + 1) = ((A ++ [l[j].f3[q].f1]).length : Int) := by rw [List.length_append, List.length_cons, List.length_nil, w64] <;> (have := hs3.1; omega)
      have he := ih (q + 1) (A ++ [l[j].f3[q].f1]) (by omega) (by rw [List.length_append, List.length_cons, List.length_nil]; omega) hi (okA_snoc ok (by rw [← sz]; exact hsa.2)) (fun A' e o b => h A' (by rw [e, hd1, List.append_assoc]) o b)
      rw [lastD_snoc] at he
      refine Ev.step (fun k => ?_) he
      conv => lhs; unfold impl_fieldOf.l1
      rw [if_pos (by omega), if_pos (by omega), if_pos (by omega), rdAt _ _ hlt, if_pos c, hwA, hw]
    · rw [if_neg c, List.nil_append] at hd1
      have he := ih (q + 1) A (by omega) (by omega) hi ok (fun A' e o b => h A' (by rw [e, hd1]) o b)
      refine Ev.step (fun k => ?_) he
      conv => lhs; unfold impl_fieldOf.l1
      rw [if_pos (by omega), if_pos (by omega), if_pos (by omega), rdAt _ _ hlt, if_neg c, hw]
theorem ifv_l0 (hd : docV l = true) (K : List Nat) (hK : ∀ j ∈ K, j < l.length) (hKl : K.length ≤ 200) : ∀ (n i : Nat) (A : List ByteArray), i + n = K.length → A.length ≤ 1048577 * i → okA A →
    Ev (fun k => impl_fieldOf.l0 k l nm (lastD A) (A.length : Int) (ints K) (K.length : Int) (i : Int)) (outV (A ++ saysV l nm (K.drop i))) := by
  obtain ⟨_, h2, V⟩ := doc_val hd
  intro n
  induction n with
  | zero =>
    intro i A hi hA ok
    rw [List.drop_eq_nil_of_le (by omega)]
    have e : A ++ saysV l nm [] = A := by simp [saysV]
    rw [e]
    unfold outV
    by_cases c : A.length = 1
    · rw [if_pos c]
      refine Ev.step (f := fun k => (impl_White.f (lastD A) 2).bind fun t444 => (some (t444, (A.length : Int)))) (fun k => ?_) ?_
      · conv => lhs; unfold impl_fieldOf.l0
        rw [if_neg (by omega), if_pos (by omega)]
      · rw [impl_white (lastD A) (okA_last ok), c]
        exact Ev.now _
    · rw [if_neg c]
      refine Ev.step (f := fun _ => some ((⟨#[]⟩ : ByteArray), (A.length : Int))) (fun k => ?_) (Ev.now _)
      conv => lhs; unfold impl_fieldOf.l0
      rw [if_neg (by omega), if_neg (by omega)]
  | succ n ih =>
    intro i A hi hA ok
    have hlt : i < K.length := by omega
    have hj := hK _ (List.getElem_mem hlt)
    have hw : wrap64 ((i : Int) + 1) = ((i + 1 : Nat) : Int) := by rw [w64] <;> omega
    rw [says_drop l nm K hlt, ← List.append_assoc]
    by_cases c : nm.toList = ([] : List UInt8)
    · rw [if_pos c]
      have hwA : wrap64 ((A.length : Int) + 1) = ((A ++ [mkB (txtV l (K[i] : Int))]).length : Int) := by rw [List.length_append, List.length_cons, List.length_nil, w64] <;> omega
      have he := ih (i + 1) (A ++ [mkB (txtV l (K[i] : Int))]) (by omega) (by rw [List.length_append, List.length_cons, List.length_nil]; omega) (okA_snoc ok (by rw [mkB_list]; have := txtV_doc hd hsm (K[i] : Int); omega))
      rw [lastD_snoc] at he
      refine Ev.step (fun k => ?_) he
      conv => lhs; unfold impl_fieldOf.l0
      rw [if_pos (by omega), if_pos (by omega), if_pos (by rw [ints_len]; omega), if_pos c, rdI K i hlt, impl_txt hd hsm, Option.bind_some, hwA, hw]
    · rw [if_neg c, atV_at hj]
      have he := ifv_l1 l hsm nm K i K[i] hj (outV (A ++ hitV nm l[K[i]].f3 ++ saysV l nm (K.drop (i + 1)))) l[K[i]].f3.length 0 A (by omega) (by omega) (by omega) ok (fun A' e o b => by
        rw [List.drop_zero] at e
        rw [hw, ← e]
        exact ih (i + 1) A' (by omega) b o)
      refine Ev.step (fun k => ?_) he
      conv => lhs; unfold impl_fieldOf.l0
      rw [if_pos (by omega), if_pos (by omega), if_pos (by rw [ints_len]; omega), if_neg c, rdI K i hlt, if_pos (by omega), if_pos (by omega), rdIt l K[i] hj]
      rfl
theorem sfv_l1 (K : List Nat) (i : Nat) (hi2 : i < K.length) (hj : K[i] < l.length) (R : ByteArray × Int) : ∀ (n q : Nat) (A : List ByteArray), q + n = l[K[i]].f3.length → A.length ≤ 1048577 * i + q → i ≤ 200 → okA A →
    (∀ A' : List ByteArray, A' = A ++ hitV nm (l[K[i]].f3.drop q) → okA A' → A'.length ≤ 1048577 * (i + 1) → Ev (fun k => spec_l11Value.l0 k l nm (ints K) (whD A') (A'.length : Int) (wrap64 ((i : Int) + 1))) R) →
    Ev (fun k => spec_l11Value.l1 k l nm (ints K) (whD A) (A.length : Int) (i : Int) (q : Int)) R := by
  have hs3 := (hsm _ (List.getElem_mem hj)).2.2
  intro n
  induction n with
  | zero =>
    intro q A hq hA hi ok h
    have h1 := h A (by rw [List.drop_eq_nil_of_le (by omega)]; simp [hitV]) ok (by have := hs3.1; omega)
    refine Ev.step (fun k => ?_) h1
    conv => lhs; unfold spec_l11Value.l1
    rw [if_pos (by omega), if_pos (by rw [ints_len]; omega), rdI K i hi2, if_pos (by omega), if_pos (by omega), rdIt l K[i] hj, if_neg (by omega)]
  | succ n ih =>
    intro q A hq hA hi ok h
    have hlt : q < l[K[i]].f3.length := by omega
    have hsa := hs3.2 _ (List.getElem_mem hlt)
    have hw : wrap64 ((q : Int) + 1) = ((q + 1 : Nat) : Int) := by rw [w64] <;> (have := hs3.1; omega)
    have hd1 := hit_drop nm l[K[i]].f3 hlt
    by_cases c : l[K[i]].f3[q].f0.toList = nm.toList
    · rw [if_pos c] at hd1
      have hwA : wrap64 ((A.length : Int) + 1) = ((A ++ [l[K[i]].f3[q].f1]).length : Int) := by rw [List.length_append, List.length_cons, List.length_nil, w64] <;> (have := hs3.1; omega)
      have he := ih (q + 1) (A ++ [l[K[i]].f3[q].f1]) (by omega) (by rw [List.length_append, List.length_cons, List.length_nil]; omega) hi (okA_snoc ok (by rw [← sz]; exact hsa.2)) (fun A' e o b => h A' (by rw [e, hd1, List.append_assoc]) o b)
      rw [whD_snoc] at he
      have hwh := spec_white l[K[i]].f3[q].f1 (by rw [← sz]; exact hsa.2)
      refine Ev.step (f := fun k => (spec_White.f k l[K[i]].f3[q].f1 2).bind fun t297 => (spec_l11Value.l1 k l nm (ints K) t297 ((A ++ [l[K[i]].f3[q].f1]).length : Int) (i : Int) ((q + 1 : Nat) : Int))) (fun k => ?_) (Ev.bind hwh he)
      conv => lhs; unfold spec_l11Value.l1
      rw [if_pos (by omega), if_pos (by rw [ints_len]; omega), rdI K i hi2, if_pos (by omega), if_pos (by omega), rdIt l K[i] hj, if_pos (by omega), if_pos (by omega), rdAt _ _ hlt, if_pos c, hwA, hw]
    · rw [if_neg c, List.nil_append] at hd1
      have he := ih (q + 1) A (by omega) (by omega) hi ok (fun A' e o b => h A' (by rw [e, hd1]) o b)
      refine Ev.step (fun k => ?_) he
      conv => lhs; unfold spec_l11Value.l1
      rw [if_pos (by omega), if_pos (by rw [ints_len]; omega), rdI K i hi2, if_pos (by omega), if_pos (by omega), rdIt l K[i] hj, if_pos (by omega), if_pos (by omega), rdAt _ _ hlt, if_neg c, hw]
theorem sfv_l0 (hd : docV l = true) (K : List Nat) (hK : ∀ j ∈ K, j < l.length) (hKl : K.length ≤ 200) : ∀ (n i : Nat) (A : List ByteArray), i + n = K.length → A.length ≤ 1048577 * i → okA A →
    Ev (fun k => spec_l11Value.l0 k l nm (ints K) (whD A) (A.length : Int) (i : Int)) (outV (A ++ saysV l nm (K.drop i))) := by
  obtain ⟨_, h2, V⟩ := doc_val hd
  intro n
  induction n with
  | zero =>
    intro i A hi hA ok
    rw [List.drop_eq_nil_of_le (by omega)]
    have e : A ++ saysV l nm [] = A := by simp [saysV]
    rw [e]
    unfold outV
    by_cases c : A.length = 1
    · rw [if_pos c]
      have hne : A ≠ [] := by rintro rfl; cases c
      have e2 : whD A = whiteV (lastD A) := by unfold whD; rw [if_neg hne]
      rw [e2]
      refine Ev.step (f := fun _ => some (whiteV (lastD A), (1 : Int))) (fun k => ?_) (Ev.now _)
      conv => lhs; unfold spec_l11Value.l0
      rw [if_neg (by rw [ints_len]; omega), if_pos (by omega)]
    · rw [if_neg c]
      refine Ev.step (f := fun _ => some ((⟨#[]⟩ : ByteArray), (A.length : Int))) (fun k => ?_) (Ev.now _)
      conv => lhs; unfold spec_l11Value.l0
      rw [if_neg (by rw [ints_len]; omega), if_neg (by omega)]
  | succ n ih =>
    intro i A hi hA ok
    have hlt : i < K.length := by omega
    have hj := hK _ (List.getElem_mem hlt)
    have hw : wrap64 ((i : Int) + 1) = ((i + 1 : Nat) : Int) := by rw [w64] <;> omega
    rw [says_drop l nm K hlt, ← List.append_assoc]
    by_cases c : nm.toList = ([] : List UInt8)
    · rw [if_pos c]
      have hwA : wrap64 ((A.length : Int) + 1) = ((A ++ [mkB (txtV l (K[i] : Int))]).length : Int) := by rw [List.length_append, List.length_cons, List.length_nil, w64] <;> omega
      have htl : (mkB (txtV l (K[i] : Int))).data.toList.length ≤ 1048576 := by rw [mkB_list]; have := txtV_doc hd hsm (K[i] : Int); omega
      have he := ih (i + 1) (A ++ [mkB (txtV l (K[i] : Int))]) (by omega) (by rw [List.length_append, List.length_cons, List.length_nil]; omega) (okA_snoc ok htl)
      rw [whD_snoc] at he
      have ht := spec_txt hd hsm hj
      have hwh := spec_white _ htl
      refine Ev.step (f := fun k => (spec_l2Text.f k l (K[i] : Int)).bind fun t287 => ((spec_White.f k t287 2).bind fun t288 => (spec_l11Value.l0 k l nm (ints K) t288 ((A ++ [mkB (txtV l (K[i] : Int))]).length : Int) ((i + 1 : Nat) : Int)))) (fun k => ?_) (Ev.bind ht (Ev.bind hwh he))
      conv => lhs; unfold spec_l11Value.l0
      rw [if_pos (by rw [ints_len]; omega), if_pos c, if_pos (by omega), rdI K i hlt, hwA, hw]
    · rw [if_neg c, atV_at hj]
      have he := sfv_l1 l hsm nm K i hlt hj (outV (A ++ hitV nm l[K[i]].f3 ++ saysV l nm (K.drop (i + 1)))) l[K[i]].f3.length 0 A (by omega) (by omega) (by omega) ok (fun A' e o b => by
        rw [List.drop_zero] at e
        rw [hw, ← e]
        exact ih (i + 1) A' (by omega) b o)
      refine Ev.step (fun k => ?_) he
      conv => lhs; unfold spec_l11Value.l0
      rw [if_pos (by rw [ints_len]; omega), if_neg c]
      rfl
end
/-- Whom a field without a path names. -/
theorem only_self (t m : Nat) (h : t < m) : (List.range m).filter (fun i => decide (i = t)) = [t] := by
  induction m with
  | zero => omega
  | succ m ih =>
    rw [filt_succ]
    by_cases c : m = t
    · subst c
      have : (List.range m).filter (fun i => decide (i = m)) = [] := by
        rw [List.filter_eq_nil_iff]
        intro a ha
        rw [List.mem_range] at ha
        simp
        omega
      rw [this]
      simp
    · rw [ih (by omega)]
      simp [c]
theorem start_one (l : List It) (t : Nat) : startB l t false = fun i => decide (i = t) := by
  funext i
  unfold startB
  simp
/-- The two answer alike. -/
theorem field_alike (l : List It) (n : Int) (s : ByteArray) (hl : l.length ≤ 1048576) (hsm : smallD l) (hs : s.data.toList.length ≤ 1048576) : ∃ r, Ev (fun k => impl_FieldOf.f k l n s) r ∧ Ev (fun k => spec_FieldOf.f k l n s) r ∧ (r = ((⟨#[]⟩ : ByteArray), (-1)) ∨ ∃ up nm K, docV l = true ∧ 0 ≤ n ∧ n < l.length ∧ elV l n.toNat = true ∧ FieldIs s.data.toList up nm ∧ (up = ⟨#[]⟩ → K = [n.toNat]) ∧ r = outV (saysV l nm K)) := by
  obtain ⟨ri, hi, vi, fi⟩ := impl_fieldF s hs
  obtain ⟨rs, hr, vs, fs⟩ := spec_fieldF s hs
  have hel := impl_elem l n hsm hl
  have hdoc := spec_doc l hsm hl
  obtain ⟨names, nmi, oki⟩ := ri
  obtain ⟨up, nm, oks⟩ := rs
  simp only at vi vs fi fs
  have hI : ∀ r, Ev (fun k => (if oki = true then ((impl_isElement.f k l n).bind fun t455 => (if t455 = true then ((impl_fieldOf.f k l n names nmi).bind fun bt456 => (some (bt456.1, bt456.2))) else (some ((⟨#[]⟩ : ByteArray), (-1))))) else (some ((⟨#[]⟩ : ByteArray), (-1))))) r → Ev (fun k => impl_FieldOf.f k l n s) r := fun r h => Ev.congr (f := fun k => (impl_fieldParts.f k s).bind fun bt450 => (if bt450.2.2 = true then ((impl_isElement.f k l n).bind fun t455 => (if t455 = true then ((impl_fieldOf.f k l n bt450.1 bt450.2.1).bind fun bt456 => (some (bt456.1, bt456.2))) else (some ((⟨#[]⟩ : ByteArray), (-1))))) else (some ((⟨#[]⟩ : ByteArray), (-1))))) (fun k => rfl) (Ev.bind hi h)
  have hS : ∀ r, Ev (fun k => ((spec_DocOk.f k l).bind fun t301 => (if t301 = true then ((spec_l1In.f n 0 (wrap64 ((l.length : Int) - 1))).bind fun t302 => (if t302 = true then (if 0 ≤ n then (if n < (l.length : Int) then (if ((rd_T65 l n).f1).toList = ([] : List UInt8) then (some ((⟨#[]⟩ : ByteArray), (-1))) else (if oks = true then (if (s.size : Int) > 20000 then (some ((⟨#[]⟩ : ByteArray), (-1))) else ((spec_l11Value.f k l n s).bind fun bt304 => (some (bt304.1, bt304.2)))) else (some ((⟨#[]⟩ : ByteArray), (-1))))) else (none)) else (none)) else (some ((⟨#[]⟩ : ByteArray), (-1))))) else (some ((⟨#[]⟩ : ByteArray), (-1)))))) r → Ev (fun k => spec_FieldOf.f k l n s) r := fun r h => Ev.congr (f := fun k => (spec_l11Field.f k s).bind fun bt298 => ((spec_DocOk.f k l).bind fun t301 => (if t301 = true then ((spec_l1In.f n 0 (wrap64 ((l.length : Int) - 1))).bind fun t302 => (if t302 = true then (if 0 ≤ n then (if n < (l.length : Int) then (if ((rd_T65 l n).f1).toList = ([] : List UInt8) then (some ((⟨#[]⟩ : ByteArray), (-1))) else (if bt298.2.2 = true then (if (s.size : Int) > 20000 then (some ((⟨#[]⟩ : ByteArray), (-1))) else ((spec_l11Value.f k l n s).bind fun bt304 => (some (bt304.1, bt304.2)))) else (some ((⟨#[]⟩ : ByteArray), (-1))))) else (none)) else (none)) else (some ((⟨#[]⟩ : ByteArray), (-1))))) else (some ((⟨#[]⟩ : ByteArray), (-1)))))) (fun k => rfl) (Ev.bind hr h)
  by_cases cE : docV l = true ∧ 0 ≤ n ∧ n < l.length ∧ elV l n.toNat = true
  · obtain ⟨hd, h0, h1, he⟩ := cE
    obtain ⟨t, rfl⟩ : ∃ t : Nat, n = (t : Int) := ⟨n.toNat, by omega⟩
    have htl : t < l.length := by omega
    rw [Int.toNat_natCast] at he
    have hhas : hasV l (t : Int) = true := decide_eq_true ⟨hd, h0, h1⟩
    have hS2 : ∀ r, Ev (fun k => (if oks = true then (if (s.size : Int) > 20000 then (some ((⟨#[]⟩ : ByteArray), (-1))) else ((spec_l11Value.f k l (t : Int) s).bind fun bt304 => (some (bt304.1, bt304.2)))) else (some ((⟨#[]⟩ : ByteArray), (-1))))) r → Ev (fun k => spec_FieldOf.f k l (t : Int) s) r := fun r h => by
      refine hS r ?_
      refine Ev.bind hdoc ?_
      rw [hd]
      simp only [if_true, spec_in', Option.bind_some, in_doc hd, hhas, if_pos h0, if_pos h1, rdIt l t htl, if_neg ((el_yes htl).1 he)]
      exact h
    rw [decide_eq_true (show docV l = true ∧ 0 ≤ (t : Int) ∧ (t : Int) < l.length ∧ elV l (t : Int).toNat = true from ⟨hd, h0, h1, he⟩)] at hel
    by_cases cB : fieldB s.data.toList = true
    · have hlen : s.data.toList.length ≤ 20000 := by
        unfold fieldB at cB
        simp only [Bool.and_eq_true, decide_eq_true_eq] at cB
        exact cB.1
      have cS : fieldS s.data.toList = true := by
        unfold fieldB at cB
        simp only [Bool.and_eq_true] at cB
        exact cB.2
      obtain ⟨e1, hup⟩ := field_same (fs (by rw [vs, cS])) (fi (by rw [vi, cB]))
      obtain ⟨_, h2, V⟩ := doc_val hd
      -- the elements
      obtain ⟨K, hKs, hKl, hKi, hKled, hKv⟩ : ∃ K : List Nat, (∀ j ∈ K, j < l.length) ∧ K.length ≤ 200 ∧ (up = ⟨#[]⟩ → K = [t]) ∧ Ev (fun k => impl_led.f k l (t : Int) names false) (ints K) ∧ (∀ r, Ev (fun k => spec_l11Value.j0 k l nm (ints K)) r → Ev (fun k => spec_l11Value.f k l (t : Int) s) r) := by
        have hvf : ∀ r, Ev (fun k => (if up.toList = ([] : List UInt8) then (spec_l11Value.j0 k l nm (([(t : Int)] : List Int))) else ((spec_l11Select.f k l (t : Int) up).bind fun t283 => (spec_l11Value.j0 k l nm t283)))) r → Ev (fun k => spec_l11Value.f k l (t : Int) s) r := fun r h => Ev.congr (f := fun k => (spec_l11Field.f k s).bind fun bt277 => (if bt277.1.toList = ([] : List UInt8) then (spec_l11Value.j0 k l bt277.2.1 (([(t : Int)] : List Int))) else ((spec_l11Select.f k l (t : Int) bt277.1).bind fun t283 => (spec_l11Value.j0 k l bt277.2.1 t283)))) (fun k => rfl) (Ev.bind hr h)
        rcases hup with ⟨u1, u2⟩ | ⟨u1, u2, u3⟩
        · refine ⟨[t], by simpa using htl, by simp, fun _ => rfl, ?_, fun r h => hvf r ?_⟩
          · have := impl_led_is l V h2 t names (by rw [u2]; simp) false
            rw [u2] at this ⊢
            have e : (List.range l.length).filter (finB l (startB l t false) []) = [t] := by
              show (List.range l.length).filter (startB l t false) = [t]
              rw [start_one]
              exact only_self t l.length htl
            rw [e] at this
            exact this
          · rw [u1]
            simp only [if_pos (show (⟨#[]⟩ : ByteArray).toList = ([] : List UInt8) from toList_nil.2 rfl)]
            exact h
        · have hne : ¬ up.toList = ([] : List UInt8) := by rw [Lib.toList_data]; exact u1
          have hul : up.data.toList.length ≤ 20000 := by
            rcases fs (by rw [vs, cS]) with ⟨a1, a2, a3⟩ | ⟨u, v, e, hv, hn, hb, hu⟩ | ⟨a1, a2, a3, a4, a5⟩
            · rw [a2] at u1; exact absurd rfl u1
            · rcases hu with ⟨c1, c2⟩ | ⟨c1, c2, c3, c4⟩
              · rw [c2] at u1; exact absurd rfl u1
              · rw [c3, List.length_dropLast]
                have := congrArg List.length e
                rw [List.length_append, List.length_cons] at this
                omega
            · rw [a3]; exact hlen
          have hfew := steps_few up.data.toList (by omega)
          have hdeep : (specSteps up.data.toList).2.1 = false := by
            unfold okS at u3
            simp only [Bool.and_eq_true, Bool.not_eq_true'] at u3
            exact u3.2
          have hsp := spec_led l h2 V t htl up (by omega) hfew
          rw [hdeep] at hsp
          have him := impl_led_is l V h2 t names (by rw [u2]; exact hfew) false
          rw [u2] at him
          refine ⟨(List.range l.length).filter (finB l (startB l t false) (specSteps up.data.toList).1), fun j hj => ?_, ?_, fun e => absurd (by rw [e]) u1, ?_, fun r h => hvf r ?_⟩
          · rw [List.mem_filter, List.mem_range] at hj
            exact hj.1
          · have := List.length_filter_le (finB l (startB l t false) (specSteps up.data.toList).1) (List.range l.length)
            rw [List.length_range] at this
            omega
          · rw [u2]
            exact him
          · simp only [if_neg hne]
            exact Ev.bind hsp h
      subst e1
      have okn : okA [] := fun x hx => by cases hx
      have hiv := ifv_l0 l hsm nm hd K hKs hKl K.length 0 [] (by omega) (by simp) okn
      have hsv := sfv_l0 l hsm nm hd K hKs hKl K.length 0 [] (by omega) (by simp) okn
      rw [List.drop_zero, List.nil_append] at hiv hsv
      refine ⟨outV (saysV l nm K), hI _ ?_, hS2 _ ?_, .inr ⟨up, nm, K, hd, h0, h1, by rw [Int.toNat_natCast]; exact he, fs (by rw [vs, cS]), fun e => by rw [Int.toNat_natCast]; exact hKi e, rfl⟩⟩
      · rw [vi, cB]
        simp only [if_true]
        refine Ev.bind hel ?_
        simp only [if_true]
        refine Ev.bind (g := fun k => impl_fieldOf.f k l (t : Int) names nm) (a := outV (saysV l nm K)) ?_ (Ev.now _)
        refine Ev.congr (f := fun k => (impl_led.f k l (t : Int) names false).bind fun t441 => (impl_fieldOf.l0 k l nm (⟨#[]⟩ : ByteArray) 0 t441 (t441.length : Int) 0)) (fun k => rfl) (Ev.bind hKled ?_)
        simp only [ints_len]
        exact hiv
      · rw [vs, cS]
        have hns : ¬ ((s.size : Int) > 20000) := by rw [sz]; omega
        simp only [if_true, if_neg hns]
        refine Ev.bind (g := fun k => spec_l11Value.f k l (t : Int) s) (a := outV (saysV l nm K)) (hKv _ ?_) (Ev.now _)
        refine Ev.step (fun k => ?_) hsv
        rfl
    · rw [Bool.not_eq_true] at cB
      refine ⟨((⟨#[]⟩ : ByteArray), (-1)), hI _ ?_, hS2 _ ?_, .inl rfl⟩
      · rw [vi, cB]
        simp only [Bool.false_eq_true, if_false]
        exact Ev.now _
      · rw [vs]
        by_cases hbig : (s.size : Int) > 20000
        · simp only [if_pos hbig, ite_self]
          exact Ev.now _
        · have cS : fieldS s.data.toList = false := by
            unfold fieldB at cB
            rw [decide_eq_true (show s.data.toList.length ≤ 20000 by rw [← sz]; omega), Bool.true_and] at cB
            exact cB
          rw [cS]
          simp only [Bool.false_eq_true, if_false]
          exact Ev.now _
  · rw [decide_eq_false cE] at hel
    refine ⟨((⟨#[]⟩ : ByteArray), (-1)), hI _ ?_, hS _ ?_, .inl rfl⟩
    · cases oki with
      | false => simp only [Bool.false_eq_true, if_false]; exact Ev.now _
      | true =>
        simp only [if_true]
        refine Ev.bind hel ?_
        simp only [Bool.false_eq_true, if_false]
        exact Ev.now _
    · refine Ev.bind hdoc ?_
      cases hd : docV l with
      | false => simp only [Bool.false_eq_true, if_false]; exact Ev.now _
      | true =>
        simp only [if_true, spec_in', Option.bind_some, in_doc hd]
        by_cases c : 0 ≤ n ∧ n < l.length
        · have hhas : hasV l n = true := decide_eq_true ⟨hd, c.1, c.2⟩
          obtain ⟨t, rfl⟩ : ∃ t : Nat, n = (t : Int) := ⟨n.toNat, by omega⟩
          have htl : t < l.length := by omega
          have he : elV l t = false := by
            rw [Bool.eq_false_iff]
            exact fun h => cE ⟨hd, c.1, c.2, by rw [Int.toNat_natCast]; exact h⟩
          simp only [hhas, if_true, if_pos c.1, if_pos c.2, rdIt l t htl, if_pos ((el_no htl).1 he)]
          exact Ev.now _
        · have hhas : hasV l n = false := decide_eq_false (fun h => c ⟨h.2.1, h.2.2⟩)
          simp only [hhas, Bool.false_eq_true, if_false]
          exact Ev.now _
theorem good_of {l : List It} (hd : docV l = true) {j : Nat} (hj : j < l.length) : goodV l[j] = true := by
  unfold docV at hd
  simp only [Bool.and_eq_true, decide_eq_true_eq] at hd
  obtain ⟨_, h3, _⟩ := hd
  rw [allN_iff] at h3
  have := h3 j (by omega) (by omega)
  unfold stepV at this
  simp only [Bool.and_eq_true] at this
  rw [← good_at hj]
  exact this.2.2.2
theorem attrs_apart {L : List At} (h : attrsV L = true) : L.Pairwise fun a b => a.f0.toList ≠ b.f0.toList := by
  unfold attrsV at h
  simp only [Bool.and_eq_true] at h
  have h2 := h.2
  rw [allN_iff] at h2
  rw [List.pairwise_iff_getElem]
  intro p q hp hq hpq e
  have h3 := h2 q (by omega) (by omega)
  rw [attrV_at hq] at h3
  simp only [Bool.and_eq_true, Bool.not_eq_true', List.any_eq_false, decide_eq_true_eq] at h3
  exact h3.2 L[p] (by rw [List.mem_take_iff_getElem]; exact ⟨p, by omega, rfl⟩) e
theorem apart_at {l : List It} (hd : docV l = true) {j : Nat} (hj : j < l.length) : (l[j].f3).Pairwise fun a b => a.f0.toList ≠ b.f0.toList := by
  have h := good_of hd hj
  unfold goodV at h
  by_cases c1 : l[j].f1.toList = ([] : List UInt8)
  · rw [if_pos c1] at h
    by_cases c2 : l[j].f2.toList = ([] : List UInt8)
    · rw [if_pos c2] at h; cases h
    · rw [if_neg c2] at h
      simp only [Bool.and_eq_true, decide_eq_true_eq] at h
      rw [List.length_eq_zero_iff.1 h.2]
      exact List.Pairwise.nil
  · rw [if_neg c1] at h
    simp only [Bool.and_eq_true] at h
    by_cases c2 : l[j].f2.toList = ([] : List UInt8)
    · have h2 := h.2
      rw [if_pos c2] at h2
      exact attrs_apart h2
    · have h2 := h.2
      rw [if_neg c2] at h2
      cases h2
theorem hit_once (nm : ByteArray) : ∀ {L : List At}, L.Pairwise (fun a b => a.f0.toList ≠ b.f0.toList) → (hitV nm L).length ≤ 1
  | [], _ => by simp [hitV]
  | a :: L, h => by
    rw [List.pairwise_cons] at h
    have ih := hit_once nm h.2
    unfold hitV at ih ⊢
    rw [List.filter_cons]
    by_cases c : a.f0.toList = nm.toList
    · rw [if_pos (by simpa using c)]
      have : L.filter (fun b => decide (b.f0.toList = nm.toList)) = [] := by
        rw [List.filter_eq_nil_iff]
        intro b hb
        simp only [decide_eq_true_eq]
        intro e
        exact h.1 b hb (by rw [c, e])
      rw [this]
      simp
    · rw [if_neg (by simpa using c)]
      exact ih
end Go.Proofs.YtpmjpbaeecnpiaaGreatDoor.Pure

namespace Go.Proofs.YtpmjpbaeecnpiaaGreatDoor.Pure
open Go.RowKit Go.Proofs.YtpmjpbaeecnpiaaGreatDoor.L Go.Proofs.YtpmjpbaeecnpiaaGreatDoorW.PrintWords Go.Proofs.YtpmjpbaeecnpiaaGreatDoorW.PrintLast Go.Proofs.YtpmjpbaeecnpiaaGreatDoorW.PrintMore
set_option linter.unusedVariables false
set_option linter.unusedSimpArgs false

def Code (l : List Int) : Prop := l.length ≤ 140737488351232 ∧ ∀ x ∈ l, 0 ≤ x ∧ x ≤ 255
def St (l : List Int) (p : Int) : Prop := 0 ≤ p ∧ p ≤ l.length
theorem code_of {l : List Int} (h1 : l.length * 1 ≤ 140737488351232) (h2 : ∀ x ∈ l, (Lit.int .u8 x).wf = true) : Code l :=
  ⟨by omega, fun x hx => by
    have := h2 x hx
    simpa [Lit.wf, IntKind.min, IntKind.max, IntKind.signed, IntKind.bits] using this⟩
theorem rd_byte {l : List Int} (h : Code l) (i : Int) : 0 ≤ rd l i ∧ rd l i ≤ 255 := by
  unfold rd
  rw [List.getD_eq_getElem?_getD]
  rcases e : l[i.toNat]? with _ | x
  · simp
  · exact h.2 x (List.mem_of_getElem? e)
theorem next_f {l : List Int} {p : Int} (h : Code l) (hp : St l p) : ∃ v q, spec_l1Rd_next.f l p = some (v, q) ∧ 0 ≤ v ∧ v ≤ 255 ∧ St l q := by
  have hl := h.1
  obtain ⟨p0, p1⟩ := hp
  unfold spec_l1Rd_next.f
  by_cases c : p ≥ (l.length : Int)
  · rw [if_pos c]; exact ⟨0, p, rfl, by omega, by omega, p0, p1⟩
  · have w1 : wrap64 (p + 1) = p + 1 := by rw [w64] <;> omega
    have w2 : wrap64 (p + 1 - 1) = p := by rw [w64] <;> omega
    have hb := rd_byte h p
    have w3 : wrap64 (rd l p) = rd l p := by rw [w64] <;> omega
    rw [if_neg c, w1, w2, if_pos (by omega), if_pos (by omega), w3]
    exact ⟨_, _, rfl, hb.1, hb.2, by omega, by omega⟩
theorem below_f {l : List Int} {p : Int} (h : Code l) (hp : St l p) (n : Int) (h1 : 1 ≤ n) (h2 : n ≤ 256) : ∃ v q, spec_l1Rd_below.f l p n = some (v, q) ∧ 0 ≤ v ∧ v < n ∧ St l q := by
  unfold spec_l1Rd_below.f
  by_cases c : n ≤ 1
  · rw [if_pos c]; exact ⟨0, p, rfl, by omega, by omega, hp⟩
  · obtain ⟨v, q, e, v0, v1, hq⟩ := next_f h hp
    rw [if_neg c, if_pos h2, e]
    simp only [Option.bind_some]
    rw [if_neg (by omega), Int.tmod_eq_emod_of_nonneg v0]
    exact ⟨_, _, rfl, Int.emod_nonneg _ (by omega), Int.emod_lt_of_pos _ (by omega), hq⟩
theorem once_f {l : List Int} {p : Int} (h : Code l) (hp : St l p) (n : Int) (h1 : 1 ≤ n) (h2 : n ≤ 256) : ∃ v q, spec_l1Rd_once.f l p n = some (v, q) ∧ St l q := by
  obtain ⟨v, q, e, _, _, hq⟩ := below_f h hp n h1 h2
  unfold spec_l1Rd_once.f
  rw [e]
  exact ⟨_, _, rfl, hq⟩
theorem rdOf_size (y : List ByteArray) (i : Int) (n : Nat) (h : ∀ s ∈ y, s.size ≤ n) : (rdOf ByteArray.empty y i).size ≤ n := by
  unfold rdOf
  rw [List.getD_eq_getElem?_getD]
  rcases e : y[i.toNat]? with _ | x
  · simp only [Option.getD_none]; exact Nat.zero_le _
  · exact h x (List.mem_of_getElem? e)

theorem word_l0 {l : List Int} (h : Code l) : ∀ (n : Nat) (x i p : Int), St l p → 0 ≤ i → i + n = 8 → ∃ v q, Ev (fun k => spec_l1Rd_word.l0 k x i l p) (v, q) ∧ St l q := by
  intro n
  induction n with
  | zero =>
    intro x i p hp hi hn
    refine ⟨x, p, Ev.step (f := fun _ => some (x, p)) (fun k => ?_) (Ev.now _), hp⟩
    conv => lhs; unfold spec_l1Rd_word.l0
    rw [if_neg (by omega)]
  | succ n ih =>
    intro x i p hp hi hn
    obtain ⟨v, q, e, _, _, hq⟩ := next_f h hp
    obtain ⟨v2, q2, he, hq2⟩ := ih (Go.bits .or .u64 (IntKind.u64.wrap (x * 256)) (IntKind.u64.wrap v)) (i + 1) q hq (by omega) (by omega)
    refine ⟨v2, q2, Ev.step (fun k => ?_) he, hq2⟩
    conv => lhs; unfold spec_l1Rd_word.l0
    rw [if_pos (by omega), e, Option.bind_some, w64 (by omega) (by omega)]
theorem word_f {l : List Int} {p : Int} (h : Code l) (hp : St l p) : ∃ v q, Ev (fun k => spec_l1Rd_word.f k l p) (v, q) ∧ St l q := word_l0 h 8 0 0 p hp (by omega) (by omega)
theorem near_f {l : List Int} {p : Int} (h : Code l) (hp : St l p) (a b : Int) (ha : -1 ≤ a) (hb : b ≤ 1048576) (ha2 : a ≤ 1048576) : ∃ v q, Ev (fun k => spec_l1Rd_near.f k l p a b) (v, q) ∧ St l q := by
  obtain ⟨v, q, e, v0, v1, hq⟩ := below_f h hp 8 (by omega) (by omega)
  have hf : ∀ k, spec_l1Rd_near.f k l p a b = if v = 0 then (some (a, q)) else (if v = 1 then (some (b, q)) else (if b < a then (some (a, q)) else ((spec_l1Rd_word.f k l q).bind fun bt425 => (if (IntKind.u64.wrap (wrap64 ((wrap64 (b - a)) + 1))) = 0 then (none) else (some (wrap64 (a + (wrap64 (Int.tmod (bt425.1 / 2) (IntKind.u64.wrap (wrap64 ((wrap64 (b - a)) + 1)))))), bt425.2)))))) := by
    intro k
    unfold spec_l1Rd_near.f
    rw [e, Option.bind_some]
  by_cases c1 : v = 0
  · exact ⟨a, q, Ev.congr (f := fun _ => some (a, q)) (fun k => by rw [hf, if_pos c1]) (Ev.now _), hq⟩
  · by_cases c2 : v = 1
    · exact ⟨b, q, Ev.congr (f := fun _ => some (b, q)) (fun k => by rw [hf, if_neg c1, if_pos c2]) (Ev.now _), hq⟩
    · by_cases c3 : b < a
      · exact ⟨a, q, Ev.congr (f := fun _ => some (a, q)) (fun k => by rw [hf, if_neg c1, if_neg c2, if_pos c3]) (Ev.now _), hq⟩
      · obtain ⟨x, r, hx, hr⟩ := word_f h hq
        have e1 : wrap64 (wrap64 (b - a) + 1) = b - a + 1 := by rw [w64 (n := b - a) (by omega) (by omega), w64] <;> omega
        have e2 : IntKind.u64.wrap (b - a + 1) = b - a + 1 := by
          simp only [IntKind.wrap, IntKind.signed, IntKind.bits]
          simp
          omega
        refine ⟨wrap64 (a + (wrap64 (Int.tmod (x / 2) (b - a + 1)))), r, Ev.congr (fun k => by rw [hf, if_neg c1, if_neg c2, if_neg c3]) (Ev.bind hx ?_), hr⟩
        simp only [e1, e2, if_neg (show ¬ (b - a + 1 = 0) by omega)]
        exact Ev.now _
theorem off_f {l : List Int} {p : Int} (h : Code l) (hp : St l p) (a b : Int) (ha : -1 ≤ a) (hb : b ≤ 1048576) (ha2 : a ≤ 1048576) : ∃ v q, Ev (fun k => spec_l1Rd_off.f k l p a b) (v, q) ∧ St l q := by
  obtain ⟨c, q, e, hq⟩ := once_f h hp 24 (by omega) (by omega)
  have hf : ∀ k, spec_l1Rd_off.f k l p a b = if c = true then ((some (([wrap64 (a - 1), wrap64 (b + 1), (-9223372036854775808), 9223372036854775807] : List Int) : List Int)).bind fun y429 => ((spec_l1Rd_below.f l q 4).bind fun bt432 => (if 0 ≤ bt432.1 then (if bt432.1 < (y429.length : Int) then (some (rd y429 bt432.1, bt432.2)) else (none)) else (none)))) else ((spec_l1Rd_near.f k l q a b).bind fun bt435 => (some (bt435.1, bt435.2))) := by
    intro k
    unfold spec_l1Rd_off.f
    rw [e, Option.bind_some]
  cases c with
  | true =>
    obtain ⟨v, r, e2, v0, v1, hr⟩ := below_f h hq 4 (by omega) (by omega)
    refine ⟨rd [wrap64 (a - 1), wrap64 (b + 1), (-9223372036854775808), 9223372036854775807] v, r, Ev.congr (f := fun _ => some (rd [wrap64 (a - 1), wrap64 (b + 1), (-9223372036854775808), 9223372036854775807] v, r)) (fun k => ?_) (Ev.now _), hr⟩
    rw [hf, if_pos rfl, Option.bind_some, e2, Option.bind_some, if_pos v0, if_pos (by simpa using v1)]
  | false =>
    obtain ⟨v, r, hv, hr⟩ := near_f h hq a b ha hb ha2
    refine ⟨v, r, Ev.congr (fun k => by rw [hf, if_neg (by decide)]) (Ev.bind hv (Ev.now _)), hr⟩
def tiny (x : It) : Prop := x.f1.size ≤ 64 ∧ x.f2.size ≤ 64 ∧ x.f3.length ≤ 8 ∧ ∀ a ∈ x.f3, a.f0.size ≤ 64 ∧ a.f1.size ≤ 64
theorem tiny_small {x : It} (h : tiny x) : smallI x := by
  obtain ⟨h1, h2, h3, h4⟩ := h
  exact ⟨by omega, by omega, by omega, fun a ha => ⟨by have := (h4 a ha).1; omega, by have := (h4 a ha).2; omega⟩⟩
def tinies (l : List It) : Prop := ∀ x ∈ l, tiny x
def G (l : List Int) (B : Nat) (r : List It) (q : Int) : Prop := tinies r ∧ 1 ≤ r.length ∧ r.length ≤ B ∧ St l q
def mk (u : Int) (nm tx : ByteArray) (ats : List At) : It := ⟨u, nm, tx, ats⟩
theorem tinies_app {l : List It} {x : It} (h : tinies l) (hx : tiny x) : tinies (l ++ [x]) := by
  intro y hy
  rcases List.mem_append.1 hy with h1 | h1
  · exact h y h1
  · rw [List.mem_singleton] at h1
    rw [h1]
    exact hx
theorem tinies_set {l : List It} {x : It} (i : Nat) (h : tinies l) (hx : tiny x) : tinies (l.set i x) := by
  intro y hy
  rcases List.mem_or_eq_of_mem_set hy with h1 | h1
  · exact h y h1
  · rw [h1]; exact hx
theorem rdOf_ne (y : List ByteArray) (i : Int) (h0 : 0 ≤ i) (h1 : i < y.length) (h : ∀ s ∈ y, s.toList ≠ ([] : List UInt8)) : (rdOf ByteArray.empty y i).toList ≠ ([] : List UInt8) := by
  have hlt : i.toNat < y.length := by omega
  have e : rdOf ByteArray.empty y i = y[i.toNat] := by
    unfold rdOf
    simp [hlt]
  rw [e]
  exact h _ (List.getElem_mem hlt)
/-- A text stands below an element that stands there. -/
def FlatOk (ls : List It) : Prop := ∀ x ∈ ls, x.f1.toList = ([] : List UInt8) → ∃ (j : Nat) (y : It), ls[j]? = some y ∧ x.f0 = (j : Int) ∧ y.f1.toList ≠ ([] : List UInt8)
theorem FlatOk.app {ls : List It} {x : It} (h : FlatOk ls) (hx : x.f1.toList = ([] : List UInt8) → ∃ (j : Nat) (y : It), (ls ++ [x])[j]? = some y ∧ x.f0 = (j : Int) ∧ y.f1.toList ≠ ([] : List UInt8)) : FlatOk (ls ++ [x]) := by
  intro z hz hn
  rcases List.mem_append.1 hz with h1 | h1
  · obtain ⟨j, y, hy, hu, hne⟩ := h z h1 hn
    have hlt := (List.getElem?_eq_some_iff.1 hy).1
    exact ⟨j, y, by rw [List.getElem?_append_left hlt]; exact hy, hu, hne⟩
  · rw [List.mem_singleton] at h1
    subst h1
    exact hx hn
theorem flat_l0 {l : List Int} (h : Code l) : ∀ (c : Nat) (ls : List It) (p : Int), c ≤ 7 → tinies ls → FlatOk ls → 1 ≤ ls.length → ls.length + 2 * c ≤ 64 → St l p → ∃ r q, Ev (fun k => spec_l1Rd_flat.l0 k ls (c : Int) l p) (r, q) ∧ G l 64 r q := by
  intro c
  induction c with
  | zero =>
    intro ls p hc ht hf h1 hb hp
    obtain ⟨b, q, e, hq⟩ := once_f h hp 24 (by omega) (by omega)
    have h0 : 0 < ls.length := by omega
    have er : rd_T65 ls 0 = ls[0] := rdIt ls 0 h0
    cases b with
    | false =>
      refine ⟨ls, q, Ev.step (f := fun _ => some (ls, q)) (fun k => ?_) (Ev.now _), ht, h1, by omega, hq⟩
      conv => lhs; unfold spec_l1Rd_flat.l0
      rw [if_neg (by omega), e, Option.bind_some, if_neg (by simp)]
    | true =>
      obtain ⟨t1, t2, t3, t4⟩ := ht _ (List.getElem_mem h0)
      refine ⟨ls.set 0 ⟨ls[0].f0, (⟨#[]⟩ : ByteArray), ls[0].f2, ls[0].f3⟩, q, Ev.step (f := fun _ => some (ls.set 0 ⟨ls[0].f0, (⟨#[]⟩ : ByteArray), ls[0].f2, ls[0].f3⟩, q)) (fun k => ?_) (Ev.now _), tinies_set _ ht ⟨Nat.zero_le 64, t2, t3, t4⟩, by rw [List.length_set]; exact h1, by rw [List.length_set]; omega, hq⟩
      conv => lhs; unfold spec_l1Rd_flat.l0
      rw [if_neg (by omega), e, Option.bind_some, if_pos rfl, if_pos (by omega), er]
      rfl
  | succ c ih =>
    intro ls p hc ht hf h1 hb hp
    have ew : wrap64 (((c + 1 : Nat) : Int) - 1) = (c : Int) := by rw [w64] <;> omega
    have el : wrap64 ((ls.length : Int) - 1) = ((ls.length - 1 : Nat) : Int) := by rw [w64] <;> omega
    have J3 : ∀ (q u : Int) (nm : ByteArray) (ats : List At), St l q → nm.size ≤ 5 → nm.toList ≠ ([] : List UInt8) → ats.length ≤ 3 → (∀ a ∈ ats, a.f0.size ≤ 64 ∧ a.f1.size ≤ 64) → ∃ r z, Ev (fun k => spec_l1Rd_flat.j3 k ls ((c + 1 : Nat) : Int) l q u nm (⟨#[]⟩ : ByteArray) ats) (r, z) ∧ G l 64 r z := by
      intro q u nm ats hq hnm hne ha1 ha2
      have hx : tiny (⟨u, nm, (⟨#[]⟩ : ByteArray), ats⟩ : It) := ⟨by show nm.size ≤ 64; omega, Nat.zero_le 64, by show ats.length ≤ 8; omega, ha2⟩
      have hT := tinies_app ht hx
      have hF := hf.app (x := (⟨u, nm, (⟨#[]⟩ : ByteArray), ats⟩ : It)) (fun h => absurd h hne)
      have hlen : (ls ++ [(⟨u, nm, (⟨#[]⟩ : ByteArray), ats⟩ : It)]).length = ls.length + 1 := by simp
      obtain ⟨b, q2, e2, hq2⟩ := once_f h hq 3 (by omega) (by omega)
      cases b with
      | false =>
        obtain ⟨r, z, he, hg⟩ := ih _ q2 (by omega) hT hF (by omega) (by omega) hq2
        refine ⟨r, z, Ev.step (fun k => ?_) he, hg⟩
        conv => lhs; unfold spec_l1Rd_flat.j3
        rw [if_pos (by omega), Option.bind_some, e2, Option.bind_some, if_neg (by simp), ew]
      | true =>
        obtain ⟨v, q3, e3, v0, v1, hq3⟩ := below_f h hq2 3 (by omega) (by omega)
        have hsz := rdOf_size [(⟨#[117]⟩ : ByteArray), (⟨#[118]⟩ : ByteArray), (⟨#[32, 117, 32]⟩ : ByteArray)] v 3 (by decide)
        generalize hS : rdOf ByteArray.empty [(⟨#[117]⟩ : ByteArray), (⟨#[118]⟩ : ByteArray), (⟨#[32, 117, 32]⟩ : ByteArray)] v = S at *
        have hx2 : tiny (⟨(ls.length : Int), (⟨#[]⟩ : ByteArray), S, ([] : List At)⟩ : It) := ⟨Nat.zero_le 64, by show S.size ≤ 64; omega, by simp, by simp⟩
        have hF2 := hF.app (x := (⟨(ls.length : Int), (⟨#[]⟩ : ByteArray), S, ([] : List At)⟩ : It)) (fun _ => ⟨ls.length, (⟨u, nm, (⟨#[]⟩ : ByteArray), ats⟩ : It), by simp, rfl, hne⟩)
        obtain ⟨r, z, he, hg⟩ := ih _ q3 (by omega) (tinies_app hT hx2) hF2 (by simp) (by simp <;> omega) hq3
        refine ⟨r, z, Ev.step (fun k => ?_) he, hg⟩
        conv => lhs; unfold spec_l1Rd_flat.j3
        rw [if_pos (by omega), Option.bind_some, e2, Option.bind_some, if_pos rfl, Option.bind_some, e3, Option.bind_some, if_pos v0, if_pos (by simpa using v1), hS, if_pos (by omega), ew]
    have J2 : ∀ (q u : Int), St l q → ∃ r z, Ev (fun k => spec_l1Rd_flat.j2 k ls ((c + 1 : Nat) : Int) u l q) (r, z) ∧ G l 64 r z := by
      intro q u hq
      obtain ⟨v, q2, e2, v0, v1, hq2⟩ := below_f h hq 2 (by omega) (by omega)
      obtain ⟨b, q3, e3, hq3⟩ := once_f h hq2 3 (by omega) (by omega)
      have hsz := rdOf_size [(⟨#[97]⟩ : ByteArray), (⟨#[98]⟩ : ByteArray)] v 5 (by decide)
      have hne := rdOf_ne [(⟨#[97]⟩ : ByteArray), (⟨#[98]⟩ : ByteArray)] v v0 (by simpa using v1) (by
        intro s hs
        simp only [List.mem_cons, List.not_mem_nil, or_false] at hs
        rw [Lib.toList_data]
        rcases hs with rfl | rfl <;> decide)
      generalize hN : rdOf ByteArray.empty [(⟨#[97]⟩ : ByteArray), (⟨#[98]⟩ : ByteArray)] v = nm at *
      cases b with
      | true =>
        obtain ⟨r, z, he, hg⟩ := J3 q3 u nm [] hq3 hsz hne (by simp) (by simp)
        refine ⟨r, z, Ev.step (fun k => ?_) he, hg⟩
        conv => lhs; unfold spec_l1Rd_flat.j2
        rw [Option.bind_some, e2, Option.bind_some, if_pos v0, if_pos (by simpa using v1), e3, Option.bind_some, if_pos rfl, hN]
      | false =>
        obtain ⟨w, q4, e4, w0, w1, hq4⟩ := below_f h hq3 4 (by omega) (by omega)
        have hsz2 := rdOf_size [(⟨#[49]⟩ : ByteArray), (⟨#[50]⟩ : ByteArray), (⟨#[32, 49]⟩ : ByteArray), (⟨#[51]⟩ : ByteArray)] w 5 (by decide)
        generalize hV : rdOf ByteArray.empty [(⟨#[49]⟩ : ByteArray), (⟨#[50]⟩ : ByteArray), (⟨#[32, 49]⟩ : ByteArray), (⟨#[51]⟩ : ByteArray)] w = vv at *
        obtain ⟨r, z, he, hg⟩ := J3 q4 u nm (([] : List At) ++ [(⟨(⟨#[97]⟩ : ByteArray), vv⟩ : At)]) hq4 hsz hne (by simp) (by
          intro a ha
          simp only [List.nil_append, List.mem_singleton] at ha
          subst ha
          exact ⟨by show (1 : Nat) ≤ 64; omega, by show vv.size ≤ 64; omega⟩)
        refine ⟨r, z, Ev.step (fun k => ?_) he, hg⟩
        conv => lhs; unfold spec_l1Rd_flat.j2
        rw [Option.bind_some, e2, Option.bind_some, if_pos v0, if_pos (by simpa using v1), e3, Option.bind_some, if_neg (by simp), Option.bind_some, e4, Option.bind_some, if_pos w0, if_pos (by simpa using w1), if_pos (by simp), hN, hV]
    obtain ⟨b, q, e, hq⟩ := once_f h hp 3 (by omega) (by omega)
    cases b with
    | false =>
      obtain ⟨r, z, he, hg⟩ := J2 q 0 hq
      refine ⟨r, z, Ev.step (fun k => ?_) he, hg⟩
      conv => lhs; unfold spec_l1Rd_flat.l0
      rw [if_pos (by omega), e, Option.bind_some, if_neg (by simp)]
    | true =>
      have hlt : ls.length - 1 < ls.length := by omega
      by_cases cn : ls[ls.length - 1].f1.toList = ([] : List UInt8)
      · obtain ⟨j, y, hy, hu, hne⟩ := hf _ (List.getElem_mem hlt) cn
        obtain ⟨hj, hyj⟩ := List.getElem?_eq_some_iff.1 hy
        obtain ⟨r, z, he, hg⟩ := J2 q (j : Int) hq
        have s2 : Ev (fun k => spec_l1Rd_flat.l1 k ls ((c + 1 : Nat) : Int) (j : Int) l q) (r, z) := by
          refine Ev.step (fun k => ?_) he
          conv => lhs; unfold spec_l1Rd_flat.l1
          rw [if_pos (by omega), if_pos (by omega), rdIt ls j hj, hyj, if_neg hne]
        have s1 : Ev (fun k => spec_l1Rd_flat.l1 k ls ((c + 1 : Nat) : Int) ((ls.length - 1 : Nat) : Int) l q) (r, z) := by
          refine Ev.step (fun k => ?_) s2
          conv => lhs; unfold spec_l1Rd_flat.l1
          rw [if_pos (by omega), if_pos (by omega), rdIt ls _ hlt, if_pos cn, hu]
        refine ⟨r, z, Ev.step (fun k => ?_) s1, hg⟩
        conv => lhs; unfold spec_l1Rd_flat.l0
        rw [if_pos (by omega), e, Option.bind_some, if_pos rfl, el]
      · obtain ⟨r, z, he, hg⟩ := J2 q ((ls.length - 1 : Nat) : Int) hq
        have s1 : Ev (fun k => spec_l1Rd_flat.l1 k ls ((c + 1 : Nat) : Int) ((ls.length - 1 : Nat) : Int) l q) (r, z) := by
          refine Ev.step (fun k => ?_) he
          conv => lhs; unfold spec_l1Rd_flat.l1
          rw [if_pos (by omega), if_pos (by omega), rdIt ls _ hlt, if_neg cn]
        refine ⟨r, z, Ev.step (fun k => ?_) s1, hg⟩
        conv => lhs; unfold spec_l1Rd_flat.l0
        rw [if_pos (by omega), e, Option.bind_some, if_pos rfl, el]
end Go.Proofs.YtpmjpbaeecnpiaaGreatDoor.Pure

namespace Go.Proofs.YtpmjpbaeecnpiaaGreatDoor.Pure
open Go.RowKit Go.Proofs.YtpmjpbaeecnpiaaGreatDoor.L Go.Proofs.YtpmjpbaeecnpiaaGreatDoorW.PrintWords Go.Proofs.YtpmjpbaeecnpiaaGreatDoorW.PrintLast Go.Proofs.YtpmjpbaeecnpiaaGreatDoorW.PrintMore
open DT MT
set_option linter.unusedVariables false
set_option linter.unusedSimpArgs false

theorem flat_ev {l : List Int} (h : Code l) (p : Int) (hp : St l p) : ∃ r q, Ev (fun k => spec_l1Rd_flat.f k l p) (r, q) ∧ G l 64 r q := by
  obtain ⟨c, q, e, c0, c1, hq⟩ := below_f h hp 8 (by omega) (by omega)
  obtain ⟨r, z, he, hg⟩ := flat_l0 h c.toNat [(⟨(-1), (⟨#[97]⟩ : ByteArray), (⟨#[]⟩ : ByteArray), ([] : List At)⟩ : It)] q (by omega) (by
    intro x hx
    rw [List.mem_singleton] at hx
    subst hx
    exact ⟨by show (1 : Nat) ≤ 64; omega, Nat.zero_le 64, by simp, by simp⟩) (by
    intro x hx hn
    rw [List.mem_singleton] at hx
    subst hx
    rw [Lib.toList_data] at hn
    exact absurd hn (by decide)) (by simp) (by simp; omega) hq
  rw [show ((c.toNat : Nat) : Int) = c by omega] at he
  refine ⟨r, z, Ev.congr (fun k => ?_) he, hg⟩
  unfold spec_l1Rd_flat.f
  rw [e, Option.bind_some]
theorem field_f {l : List Int} {p : Int} (h : Code l) (hp : St l p) : ∃ s q, spec_l1Rd_field.f l p = some (s, q) ∧ s.size ≤ 5 ∧ St l q := by
  obtain ⟨v, q, e, v0, v1, hq⟩ := below_f h hp 11 (by omega) (by omega)
  unfold spec_l1Rd_field.f
  simp only [Option.bind_some]
  rw [e]
  simp only [Option.bind_some]
  rw [if_pos v0, if_pos (by simpa using v1)]
  refine ⟨_, q, rfl, rdOf_size _ _ 5 (fun s hs => ?_), hq⟩
  simp only [List.mem_cons, List.mem_nil_iff, or_false] at hs
  rcases hs with rfl | rfl | rfl | rfl | rfl | rfl | rfl | rfl | rfl | rfl | rfl <;> decide
theorem drawField_ev {l : List Int} (h : Code l) : ∃ r n s, Ev (fun k => spec_DrawFieldOf.f k l) (r, n, s) ∧ tinies r ∧ r.length ≤ 64 ∧ s.size ≤ 5 := by
  obtain ⟨r, q, he, g1, g2, g3, g4⟩ := flat_ev h 0 ⟨by omega, by omega⟩
  have ew : wrap64 ((r.length : Int) - 1) = (r.length : Int) - 1 := by rw [w64] <;> omega
  obtain ⟨n, q3, e3, hq3⟩ := off_f h g4 0 ((r.length : Int) - 1) (by omega) (by omega) (by omega)
  obtain ⟨s, q4, e4, hs, hq4⟩ := field_f h hq3
  refine ⟨r, n, s, ?_, g1, g3, hs⟩
  refine Ev.congr (f := fun k => (spec_l1Rd_flat.f k l 0).bind fun bt503 => ((spec_l1Rd_off.f k l bt503.2 0 (wrap64 ((bt503.1.length : Int) - 1))).bind fun bt507 => ((spec_l1Rd_field.f l bt507.2).bind fun bt509 => (some (bt503.1, bt507.1, bt509.1))))) (fun k => rfl) (Ev.bind he ?_)
  simp only [ew]
  refine Ev.bind e3 ?_
  simp only [e4, Option.bind_some]
  exact Ev.now _
theorem white_nil : whiteV ⟨#[]⟩ = ⟨#[]⟩ := by
  apply ba_ext
  have h := white_size ⟨#[]⟩
  have h0 : ((⟨#[]⟩ : ByteArray).data.toList.length) = 0 := rfl
  rw [h0] at h
  rw [List.length_eq_zero_iff.1 (show (whiteV ⟨#[]⟩).data.toList.length = 0 by omega)]
theorem out_white (A : List ByteArray) : whiteV (outV A).1 = (outV A).1 := by
  unfold outV
  by_cases c : A.length = 1
  · rw [if_pos c]
    exact white_white _
  · rw [if_neg c]
    exact white_nil
theorem fields_l0 {r : List It} (hd : docV r = true) (hsm : smallD r) {t : Nat} (ht : t < r.length) (s nm : ByteArray) (hs : 1 ≤ s.size) (hnm : nm.toList = (s.extract 1 s.size).toList) (v : ByteArray) (hv : v = (outV (hitV nm r[t].f3)).1) :
    ∀ (n i : Nat), i + n = r[t].f3.length → Ev (fun k => laws_FnFields.l0 k r (t : Int) s v (((hitV nm r[t].f3).length : Nat) : Int) (((hitV nm (r[t].f3.take i)).length : Nat) : Int) (i : Int)) true := by
  have hs3 := (hsm _ (List.getElem_mem ht)).2.2
  have hone := hit_once nm (apart_at hd ht)
  intro n
  induction n with
  | zero =>
    intro i hi
    rw [List.take_of_length_le (by omega)]
    refine Ev.step (f := fun _ => some true) (fun k => ?_) (Ev.now _)
    conv => lhs; unfold laws_FnFields.l0
    rw [if_pos (by omega), if_pos (by omega), rdIt r t ht, if_neg (by omega)]
    simp
  | succ n ih =>
    intro i hi
    have hlt : i < r[t].f3.length := by omega
    have hw : wrap64 ((i : Int) + 1) = ((i + 1 : Nat) : Int) := by rw [w64] <;> (have := hs3.1; omega)
    have hsa := hs3.2 _ (List.getElem_mem hlt)
    have hn := ih (i + 1) (by omega)
    have htk : hitV nm (r[t].f3.take (i + 1)) = hitV nm (r[t].f3.take i) ++ (if r[t].f3[i].f0.toList = nm.toList then [r[t].f3[i].f1] else []) := by
      unfold hitV
      rw [List.take_succ_eq_append_getElem hlt, List.filter_append, List.map_append]
      congr 1
      by_cases c : r[t].f3[i].f0.toList = nm.toList
      · rw [if_pos c]; simp [c]
      · rw [if_neg c]; simp [c]
    rw [htk] at hn
    by_cases c : r[t].f3[i].f0.toList = nm.toList
    · rw [if_pos c] at hn
      have hmem : r[t].f3[i].f1 ∈ hitV nm r[t].f3 := by
        unfold hitV
        rw [List.mem_map]
        exact ⟨r[t].f3[i], by rw [List.mem_filter]; exact ⟨List.getElem_mem hlt, by simpa using c⟩, rfl⟩
      obtain ⟨x, hx⟩ : ∃ x, hitV nm r[t].f3 = [x] := by
        cases hH : hitV nm r[t].f3 with
        | nil => rw [hH] at hmem; cases hmem
        | cons x L =>
          rw [hH] at hone
          simp at hone
          rw [hone]
          exact ⟨x, rfl⟩
      have hxe : r[t].f3[i].f1 = x := by rw [hx] at hmem; simpa using hmem
      have hve : v = whiteV r[t].f3[i].f1 := by
        rw [hv, hx, hxe]
        rfl
      have hle : (hitV nm (r[t].f3.take i)).length ≤ 1048576 := by
        have : (hitV nm (r[t].f3.take i)).length ≤ (r[t].f3.take i).length := by
          unfold hitV
          rw [List.length_map]
          exact List.length_filter_le _ _
        rw [List.length_take] at this
        have := hs3.1
        omega
      rw [List.length_append, List.length_singleton] at hn
      have hw2 : wrap64 (((hitV nm (r[t].f3.take i)).length : Int) + 1) = (((hitV nm (r[t].f3.take i)).length + 1 : Nat) : Int) := by rw [w64] <;> omega
      refine Ev.step (fun k => ?_) hn
      conv => lhs; unfold laws_FnFields.l0
      rw [if_pos (by omega), if_pos (by omega), rdIt r t ht, if_pos (by omega), if_pos (by omega), if_pos (by omega), rdAt _ _ hlt, if_pos (by rw [c, hnm]), impl_white _ (by rw [← sz]; exact hsa.2), Option.bind_some, ← hve, if_pos rfl, hw, hw2]
    · rw [if_neg c, List.append_nil] at hn
      refine Ev.step (fun k => ?_) hn
      conv => lhs; unfold laws_FnFields.l0
      rw [if_pos (by omega), if_pos (by omega), rdIt r t ht, if_pos (by omega), if_pos (by omega), if_pos (by omega), rdAt _ _ hlt, if_neg (by rw [← hnm]; exact c), hw]
theorem out_size {A : List ByteArray} (h : okA A) : (outV A).1.data.toList.length ≤ 1048576 := by
  unfold outV
  by_cases c : A.length = 1
  · rw [if_pos c]
    exact Nat.le_trans (white_size _) (okA_last h)
  · rw [if_neg c]
    simp
theorem says_ok {r : List It} (hd : docV r = true) (hsm : smallD r) (nm : ByteArray) (K : List Nat) : okA (saysV r nm K) := by
  intro x hx
  unfold saysV at hx
  rw [List.mem_flatMap] at hx
  obtain ⟨j, hj, hx⟩ := hx
  by_cases c : nm.toList = ([] : List UInt8)
  · rw [if_pos c, List.mem_singleton] at hx
    rw [hx, mkB_list]
    have := txtV_doc hd hsm (j : Int)
    omega
  · rw [if_neg c] at hx
    unfold hitV at hx
    rw [List.mem_map] at hx
    obtain ⟨a, ha, rfl⟩ := hx
    rw [List.mem_filter] at ha
    by_cases hjl : j < r.length
    · rw [atV_at hjl] at ha
      have := ((hsm _ (List.getElem_mem hjl)).2.2.2 _ ha.1).2
      rw [← sz]
      exact this
    · unfold atV at ha
      rw [List.getElem?_eq_none (by omega)] at ha
      cases ha.1
theorem impl_textOf {r : List It} (hd : docV r = true) (hsm : smallD r) (hl : r.length ≤ 1048576) {t : Nat} (ht : t < r.length) (he : elV r t = true) : Ev (fun k => impl_TextOf.f k r (t : Int)) (mkB (txtV r (t : Int)), true) := by
  refine Ev.congr (f := fun k => (impl_has.f k r (t : Int)).bind fun t511 => (if t511 = true then (if 0 ≤ (t : Int) then (if (t : Int) < (r.length : Int) then (if ((rd_T65 r (t : Int)).f1).toList = ([] : List UInt8) then (some ((⟨#[]⟩ : ByteArray), false)) else ((impl_textBelow.f r (t : Int)).bind fun t513 => (some (t513, true)))) else (none)) else (none)) else (some ((⟨#[]⟩ : ByteArray), false)))) (fun k => rfl) (Ev.bind (impl_has_ev r (t : Int) hsm hl) ?_)
  have e : hasV r (t : Int) = true := decide_eq_true ⟨hd, by omega, by omega⟩
  have h0 : (0 : Int) ≤ (t : Int) := by omega
  have h1 : (t : Int) < (r.length : Int) := by omega
  simp only [e, if_true, if_pos h0, if_pos h1, rdIt r t ht, if_neg ((el_yes ht).1 he), impl_txt hd hsm, Option.bind_some]
  exact Ev.now _
theorem FnFields : laws_FnFields.Pure := by
  intro code h1 h2 h3
  have hC := code_of h2 h3
  by_cases hbig : (code.length : Int) > 1048576
  · refine ⟨0, ?_⟩
    unfold laws_FnFields.f laws_big.f
    rw [Option.bind_some, if_pos (decide_eq_true hbig)]
  obtain ⟨r, n, s, hdr, ht, g1, hsz⟩ := drawField_ev hC
  have hsm : smallD r := fun x hx => tiny_small (ht x hx)
  obtain ⟨o, him, hsp, ho⟩ := field_alike r n s (by omega) hsm (by rw [← sz]; omega)
  have key : ∀ b : Bool, b = (if o.2 < 0 then true else if o.2 = 1 then false else (o.1.toList != ([] : List UInt8))) → Ev (fun k => laws_FnFields.j0 k r n s o.1 o.2 o.1 o.2 b) true := by
    intro b hb
    rcases ho with rfl | ⟨up, nm, K, hd, hn0, hn1, hel, hF, hK, hoe⟩
    · have : b = true := by rw [hb]; rfl
      subst this
      refine Ev.step (f := fun _ => some true) (fun k => ?_) (Ev.now _)
      simp only [laws_FnFields.j0, if_true]
      rw [show (⟨#[]⟩ : ByteArray).toList = ([] : List UInt8) from toList_nil.2 rfl]
      rfl
    · obtain ⟨t, rfl⟩ : ∃ t : Nat, n = (t : Int) := ⟨n.toNat, by omega⟩
      have htl : t < r.length := by omega
      rw [Int.toNat_natCast] at hel hK
      have hbF : b = false := by
        rw [hb, hoe]
        unfold outV
        by_cases c : (saysV r nm K).length = 1
        · rw [if_pos c]; rfl
        · rw [if_neg c]
          simp only
          rw [if_neg (by omega), if_neg (by omega), show (⟨#[]⟩ : ByteArray).toList = ([] : List UInt8) from toList_nil.2 rfl]
          rfl
      subst hbF
      have hsayok := says_ok hd hsm nm K
      by_cases cd : s.toList = ([46] : List UInt8)
      · -- the element itself
        have cd2 : s.data.toList = [46] := by rw [← Lib.toList_data]; exact cd
        obtain ⟨u1, u2⟩ : up = ⟨#[]⟩ ∧ nm = ⟨#[]⟩ := by
          rcases hF with ⟨a1, a2, a3⟩ | ⟨u, w, e, _⟩ | ⟨a1, a2, _⟩
          · exact ⟨a2, a3⟩
          · rw [cd2] at e
            have : (64 : UInt8) ∈ [46] := by rw [e]; simp
            simp at this
          · exact absurd cd2 a2
        have hA : saysV r nm K = [mkB (txtV r (t : Int))] := by
          rw [hK u1, u2]
          unfold saysV
          simp [toList_nil.2 rfl]
        have ho2 : o = (whiteV (mkB (txtV r (t : Int))), 1) := by rw [hoe, hA]; rfl
        have hx := impl_textOf hd hsm (by omega) htl hel
        have htx : (mkB (txtV r (t : Int))).data.toList.length ≤ 1048576 := by rw [mkB_list]; have := txtV_doc hd hsm (t : Int); omega
        refine Ev.step (f := fun k => (impl_TextOf.f k r (t : Int)).bind fun bt524 => (if o.2 = 1 then (if bt524.2 = true then ((impl_White.f bt524.1 2).bind fun t526 => (some (o.1.toList == t526.toList))) else (some false)) else (some false))) (fun k => ?_) (Ev.bind hx ?_)
        · simp only [laws_FnFields.j0, Bool.false_eq_true, if_false, if_pos cd]
        · rw [ho2]
          simp only [if_true, impl_white _ htx, Option.bind_some, beq_self_eq_true]
          exact Ev.now _
      · have hne : s.data.toList ≠ [] := by
          intro e
          rcases hF with ⟨a1, _⟩ | ⟨u, w, e2, _⟩ | ⟨a1, a2, a3, a4, a5⟩
          · rw [e] at a1; cases a1
          · rw [e] at e2; simp at e2
          · rw [e] at a5; exact absurd rfl (okS_ne a5)
        obtain ⟨b0, rest, hbr⟩ := List.exists_cons_of_ne_nil hne
        have hs0 : 0 < (s.size : Int) := by rw [sz, hbr, List.length_cons]; omega
        by_cases c64 : b0 = 64
        · -- an attribute of the element itself
          have hbt : bt s 0 = 64 := by rw [first_bt s b0 rest hbr, c64]; rfl
          obtain ⟨u1, u2, u3⟩ : up = ⟨#[]⟩ ∧ nm.data.toList = rest ∧ nameB rest = true := by
            rcases hF with ⟨a1, _⟩ | ⟨u, w, e, hw, hnm, hb, hu⟩ | ⟨a1, _⟩
            · rw [hbr, c64] at a1; cases a1
            · rcases hu with ⟨c1, c2⟩ | ⟨c1, c2, c3, c4⟩
              · rw [c1, hbr, List.nil_append] at e
                injection e with e1 e2
                exact ⟨c2, by rw [hnm, e2], by rw [e2]; exact hb⟩
              · exfalso
                cases u with
                | nil => exact c1 rfl
                | cons y u =>
                  rw [hbr, List.cons_append] at e
                  injection e with e1 e2
                  rw [c64] at e1
                  cases u with
                  | nil => simp at c2; rw [← e1] at c2; cases c2
                  | cons z u =>
                    rw [okS_no64 _ (by rw [← e1, List.dropLast_cons_of_ne_nil (by simp)]; simp)] at c4
                    cases c4
            · exact absurd (by rw [hbr, c64]; simp) a1
          have hnmne : ¬ nm.toList = ([] : List UInt8) := by
            rw [Lib.toList_data, u2]
            rintro rfl
            cases u3
          have hA : saysV r nm K = hitV nm r[t].f3 := by
            rw [hK u1]
            unfold saysV
            rw [List.flatMap_cons, if_neg hnmne, atV_at htl]
            simp
          have hone := hit_once nm (apart_at hd htl)
          have hnm2 : nm.toList = (s.extract 1 s.size).toList := by
            rw [Lib.toList_data, Lib.toList_data, Lib.extract_to_end, hbr, u2]
            rfl
          have h2m : o.2 = (((hitV nm r[t].f3).length : Nat) : Int) := by
            rw [hoe, hA]
            unfold outV
            by_cases c : (hitV nm r[t].f3).length = 1
            · rw [if_pos c, c]; rfl
            · rw [if_neg c]
          have hl := fields_l0 hd hsm htl s nm (by omega) hnm2 o.1 (by rw [hoe, hA]) r[t].f3.length 0 (by omega)
          rw [h2m]
          refine Ev.step (fun k => ?_) hl
          simp only [laws_FnFields.j0, Bool.false_eq_true, if_false, if_neg cd, if_pos hs0, if_pos hbt]
          rfl
        · have hbt : ¬ bt s 0 = 64 := by
            rw [first_bt s b0 rest hbr]
            intro e
            exact c64 ((b64 b0).1 e)
          have hos : o.1.data.toList.length ≤ 1048576 := by rw [hoe]; exact out_size hsayok
          refine Ev.step (f := fun _ => some true) (fun k => ?_) (Ev.now _)
          simp only [laws_FnFields.j0, Bool.false_eq_true, if_false, if_neg cd, if_pos hs0, if_neg hbt, impl_white o.1 hos, Option.bind_some]
          rw [show whiteV o.1 = o.1 from by rw [hoe]; exact out_white _]
          simp
  have : Ev (fun k => laws_FnFields.f k code) true := by
    refine Ev.congr (f := fun k => (spec_DrawFieldOf.f k code).bind fun bt515 => ((impl_FieldOf.f k bt515.1 bt515.2.1 bt515.2.2).bind fun bt520 => ((spec_FieldOf.f k bt515.1 bt515.2.1 bt515.2.2).bind fun bt522 => (if bt520.1.toList = bt522.1.toList then (if bt520.2 = bt522.2 then (if bt520.2 < 0 then (laws_FnFields.j0 k bt515.1 bt515.2.1 bt515.2.2 bt520.1 bt520.2 bt522.1 bt522.2 true) else (if bt520.2 = 1 then (laws_FnFields.j0 k bt515.1 bt515.2.1 bt515.2.2 bt520.1 bt520.2 bt522.1 bt522.2 false) else (laws_FnFields.j0 k bt515.1 bt515.2.1 bt515.2.2 bt520.1 bt520.2 bt522.1 bt522.2 (bt520.1.toList != ([] : List UInt8))))) else (laws_FnFields.j0 k bt515.1 bt515.2.1 bt515.2.2 bt520.1 bt520.2 bt522.1 bt522.2 true)) else (laws_FnFields.j0 k bt515.1 bt515.2.1 bt515.2.2 bt520.1 bt520.2 bt522.1 bt522.2 true))))) (fun k => ?_) (Ev.bind hdr (Ev.bind him (Ev.bind hsp ?_)))
    · unfold laws_FnFields.f laws_big.f
      rw [Option.bind_some, if_neg (by simpa using hbig)]
    · simp only [if_true]
      by_cases c1 : o.2 < 0
      · simp only [if_pos c1]
        exact key true (by rw [if_pos c1])
      · by_cases c2 : o.2 = 1
        · simp only [if_neg c1, if_pos c2]
          exact key false (by rw [if_neg c1, if_pos c2])
        · simp only [if_neg c1, if_neg c2]
          exact key _ (by rw [if_neg c1, if_neg c2])
  exact this.rounds
end Go.Proofs.YtpmjpbaeecnpiaaGreatDoor.Pure
