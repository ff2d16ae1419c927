/- Words and contracts for the row RowFnKids: what the Go functions answer that it calls; printed by programs of the kit and of this session, and merged. -/
import Derived.Test.YtpmjpbaeecnpiaaDoorQk8
namespace Go.Proofs.YtpmjpbaeecnpiaaDoor.Pure
open Go.RowKit Go.Proofs.YtpmjpbaeecnpiaaDoor.L Go.Proofs.YtpmjpbaeecnpiaaDoorW.PrintWords Go.Proofs.YtpmjpbaeecnpiaaDoorW.PrintLast Go.Proofs.YtpmjpbaeecnpiaaDoorW.PrintMore
open DT
set_option linter.unusedVariables false
set_option linter.unusedSimpArgs false

def upV (l : List It) (j : Nat) : Int := match l[j]? with | some x => x.f0 | none => -1
def elV (l : List It) (j : Nat) : Bool := match l[j]? with | some x => decide (¬ x.f1.toList = ([] : List UInt8)) | none => false
theorem upV_at {l : List It} {i : Nat} (h : i < l.length) : upV l i = l[i].f0 := by
  unfold upV; rw [List.getElem?_eq_getElem h]
theorem elV_at {l : List It} {i : Nat} (h : i < l.length) : elV l i = decide (¬ l[i].f1.toList = ([] : List UInt8)) := by
  unfold elV; rw [List.getElem?_eq_getElem h]
theorem el_yes {l : List It} {i : Nat} (h : i < l.length) : elV l i = true ↔ ¬ l[i].f1.toList = ([] : List UInt8) := by
  rw [elV_at h, decide_eq_true_eq]
theorem el_no {l : List It} {i : Nat} (h : i < l.length) : elV l i = false ↔ l[i].f1.toList = ([] : List UInt8) := by
  rw [elV_at h, decide_eq_false_iff_not, Classical.not_not]
/-- Item i stands where it may. -/
def PosP (l : List It) (i : Nat) : Prop := (i = 0 → upV l 0 = -1 ∧ elV l 0 = true) ∧ (0 < i → 0 ≤ upV l i ∧ elV l (upV l i).toNat = true ∧ (upV l i).toNat ∈ chain (upV l) (i - 1))
instance (l : List It) (i : Nat) : Decidable (PosP l i) := by unfold PosP; infer_instance
def posV (l : List It) (i : Nat) : Bool := decide (PosP l i)
def depV (l : List It) (i : Nat) : Bool := decide ((chain (upV l) i).length ≤ 20)
def textV (l : List It) (i : Nat) : Bool := elV l i || !(decide (0 < i) && !elV l (i - 1) && decide (upV l (i - 1) = upV l i))
def goodAt (l : List It) (i : Nat) : Bool := match l[i]? with | some x => goodV x | none => false
theorem good_at {l : List It} {i : Nat} (h : i < l.length) : goodAt l i = goodV l[i] := by
  unfold goodAt; rw [List.getElem?_eq_getElem h]
def stepV (l : List It) (i : Nat) : Bool := posV l i && (depV l i && (textV l i && goodAt l i))
def bytesD : List It → Int
  | [] => 0
  | x :: l => bytesV x + bytesD l
def smallD (l : List It) : Prop := ∀ x ∈ l, smallI x
theorem bytesV_bound {x : It} (h : smallI x) : 0 ≤ bytesV x ∧ bytesV x ≤ 4398046511104 := by
  obtain ⟨h1, h2, h3, h4⟩ := h
  have := bytesA_bound x.f3 h4
  unfold bytesV
  constructor <;> omega
theorem bytesD_pos : ∀ {l : List It}, smallD l → 0 ≤ bytesD l
  | [], _ => Int.le_refl _
  | x :: l, h => by
    have h1 := bytesV_bound (h x (by simp))
    have h2 := bytesD_pos (l := l) (fun y hy => h y (by simp [hy]))
    unfold bytesD
    omega
/-- A right document. -/
def docV (l : List It) : Bool := (decide (1 ≤ l.length) && decide (l.length ≤ 200)) && (allN (stepV l) 0 l.length && decide (bytesD l ≤ 2500))
theorem step_pos {l : List It} {i : Nat} (h : stepV l i = true) : PosP l i := by
  unfold stepV at h
  rw [Bool.and_eq_true] at h
  exact of_decide_eq_true h.1
theorem pos_val {l : List It} : ∀ {i : Nat}, (∀ j, j < i → PosP l j) → Val (upV l) (elV l) i := by
  intro i h
  refine ⟨fun h0 => (h 0 h0).1 rfl, fun j hj hji => ?_⟩
  obtain ⟨h1, h2, h3⟩ := (h j hji).2 hj
  have := chain_lt _ _ h3
  exact ⟨h1, by omega, h2⟩
theorem drop_all {α : Type} {p : α → Bool} : ∀ {s : List α}, (∀ x ∈ s, p x = true) → s.dropWhile p = []
  | [], _ => rfl
  | x :: s, h => by
    rw [List.dropWhile_cons_of_pos (h x (by simp))]
    exact drop_all (fun y hy => h y (by simp [hy]))
/-! the stack -/
def revI (s : List Nat) : List Int := (s.map Int.ofNat).reverse
theorem revI_cons (x : Nat) (s : List Nat) : revI (x :: s) = revI s ++ [(x : Int)] := by simp [revI]
theorem revI_len (s : List Nat) : (revI s).length = s.length := by simp [revI]
theorem revI_nil : revI [] = [] := rfl
def stkV (l : List It) (i : Nat) : List Nat := if i = 0 then [] else stk (upV l) (elV l) (i - 1)
theorem chain_len (up : Nat → Int) : ∀ j, (chain up j).length ≤ j + 1 := by
  intro j
  induction j using Nat.strongRecOn with
  | _ j ih =>
  rw [chain_eq]
  split
  · rename_i h
    have := ih _ h.2
    simp only [List.length_cons]
    omega
  · simp
theorem stkV_len (l : List It) (i : Nat) : (stkV l i).length ≤ i := by
  unfold stkV
  split
  · simp
  · unfold stk
    have := chain_len (upV l) (i - 1)
    split
    · omega
    · rw [List.length_tail]; omega
section
variable (l : List It) (hl : smallD l) (hn : l.length ≤ 200)
theorem impl_pop (c : Int) (i : Nat) (p : Int) (nm tx : ByteArray) (ats : List At) (R : Bool) : ∀ s : List Nat, s.length ≤ 200 → Ev (fun k => impl_DocOk.j3 k l c (revI (s.dropWhile (fun x : Nat => (x : Int) != p))) (i : Int) l (l.length : Int) (i : Int) p nm tx ats) R → Ev (fun k => impl_DocOk.l1 k l c (revI s) (i : Int) l (l.length : Int) (i : Int) p nm tx ats) R
  | [], _, h => by
    rw [List.dropWhile_nil, revI_nil] at h
    refine Ev.step (fun k => ?_) h
    conv => lhs; unfold impl_DocOk.l1
    rw [if_neg (by simp [revI])]
    rfl
  | x :: s, hs, h => by
    simp only [List.length_cons] at hs
    have e1 : ((revI (x :: s)).length : Int) = (s.length : Int) + 1 := by rw [revI_len]; simp
    have e2 : wrap64 ((s.length : Int) + 1 - 1) = (s.length : Int) := by rw [w64] <;> omega
    have e3 : rd (revI (x :: s)) (s.length : Int) = (x : Int) := by
      rw [rdZ _ _ (by rw [revI_len]; simp)]
      simp only [revI_cons]
      rw [List.getElem_append_right (by rw [revI_len]; exact Nat.le_refl _)]
      simp
    by_cases c1 : (x : Int) = p
    · rw [List.dropWhile_cons_of_neg (by simp [c1])] at h
      refine Ev.step (fun k => ?_) h
      conv => lhs; unfold impl_DocOk.l1
      rw [e1, e2, e3, if_pos (by omega), if_pos (by omega), if_pos (by omega), if_pos c1]
    · rw [List.dropWhile_cons_of_pos (by simp [c1])] at h
      refine Ev.step (fun k => ?_) (impl_pop c i p nm tx ats R s (by omega) h)
      conv => lhs; unfold impl_DocOk.l1
      rw [e1, e2, e3, if_pos (by omega), if_pos (by omega), if_pos (by omega), if_neg c1, if_pos (by omega)]
      rw [Int.toNat_natCast, revI_cons, List.take_left' (revI_len s)]
include hl hn
theorem impl_doc_l0 (hp0 : PosP l 0) : ∀ (n i : Nat) (c : Int), i + n = l.length → (∀ j, j < i → PosP l j) → 0 ≤ c → c ≤ 4398046511104 * i → Ev (fun k => impl_DocOk.l0 k l c (revI (stkV l i)) l (l.length : Int) (i : Int)) (allN (stepV l) i n && decide (c + bytesD (l.drop i) ≤ 2500)) := by
  intro n
  induction n with
  | zero =>
    intro i c hi hp h0 hc
    rw [List.drop_of_length_le (by omega), allN, Bool.true_and, bytesD, Int.add_zero]
    refine Ev.step (f := fun _ => some (decide (c ≤ 2500))) (fun k => ?_) (Ev.now _)
    conv => lhs; unfold impl_DocOk.l0
    rw [if_neg (by omega)]
  | succ n ih =>
    intro i c hi hp h0 hc
    have hlt : i < l.length := by omega
    have hx : smallI l[i] := hl _ (List.getElem_mem hlt)
    have hb := bytesV_bound hx
    rw [allN]
    refine Ev.step (f := fun k => (impl_Item_isGood.f k l[i].f0 l[i].f1 l[i].f2 l[i].f3).bind fun t349 => (if t349 = true then ((impl_Item_bytes.f k l[i].f0 l[i].f1 l[i].f2 l[i].f3).bind fun t350 => (impl_DocOk.l1 k l (wrap64 (c + t350)) (revI (stkV l i)) (i : Int) l (l.length : Int) (i : Int) l[i].f0 l[i].f1 l[i].f2 l[i].f3)) else (some false))) (fun k => ?_) (Ev.bind (impl_good l[i] hx) ?_)
    · conv => lhs; unfold impl_DocOk.l0
      rw [if_pos (by omega), if_pos (by omega), if_pos (by omega), rdIt l i hlt]
    have hg := good_at hlt
    cases hgv : goodV l[i] with
    | false =>
      have : stepV l i = false := by unfold stepV; rw [hg, hgv]; simp
      rw [this]
      exact Ev.now _
    | true =>
      rw [hgv] at hg
      simp only [if_true]
      refine Ev.bind (impl_bytes l[i] hx) ?_
      have ec : wrap64 (c + bytesV l[i]) = c + bytesV l[i] := by rw [w64] <;> omega
      simp only [ec]
      have hlen := stkV_len l i
      refine impl_pop l _ i _ _ _ _ _ (stkV l i) (by omega) ?_
      have V : Val (upV l) (elV l) i := pos_val hp
      have hup := upV_at hlt
      -- what is left
      have key : (PosP l i ∧ (stkV l i).dropWhile (fun x : Nat => (x : Int) != l[i].f0) = (if i = 0 then [] else chain (upV l) (upV l i).toNat)) ∨ (¬ PosP l i ∧ 0 < i ∧ (stkV l i).dropWhile (fun x : Nat => (x : Int) != l[i].f0) = []) := by
        by_cases e : i = 0
        · subst e
          exact .inl ⟨hp0, by simp [stkV]⟩
        · have es : stkV l i = stk (upV l) (elV l) (i - 1) := by unfold stkV; rw [if_neg e]
          rw [es, if_neg e]
          by_cases hneg : 0 ≤ l[i].f0
          · have ef : (fun x : Nat => (x : Int) != l[i].f0) = (fun x : Nat => x != (upV l i).toNat) := by
              funext x
              rw [Bool.eq_iff_iff, bne_iff_ne, bne_iff_ne, hup]
              omega
            rw [ef]
            by_cases hm : (upV l i).toNat ∈ stk (upV l) (elV l) (i - 1)
            · obtain ⟨h1, h2, h3⟩ := stk_drop V (show i - 1 < i by omega) hm
              exact .inl ⟨⟨fun h => absurd h e, fun _ => ⟨by rw [hup]; exact hneg, h2, h3⟩⟩, h1⟩
            · refine .inr ⟨fun h => hm ?_, by omega, drop_none hm⟩
              obtain ⟨_, h2, h3⟩ := h.2 (by omega)
              exact stk_mem (i := 0) h3 h2
          · refine .inr ⟨fun h => hneg ?_, by omega, ?_⟩
            · have := (h.2 (by omega)).1
              rwa [hup] at this
            · refine drop_all (fun x _ => ?_)
              rw [bne_iff_ne]
              omega
      rcases key with ⟨hP, hD⟩ | ⟨hP, h0i, hD⟩
      · rw [hD]
        have hpv : posV l i = true := decide_eq_true hP
        generalize hS : (if i = 0 then [] else chain (upV l) (upV l i).toNat) = S
        have hC : chain (upV l) i = i :: S := by
          rw [← hS]
          by_cases e : i = 0
          · subst e
            rw [if_pos rfl, chain_zero (hP.1 rfl).1]
          · obtain ⟨h1, h2, h3⟩ := hP.2 (by omega)
            have := chain_lt _ _ h3
            rw [if_neg e, chain_up h1 (by omega)]
        have hSl : S.length ≤ 200 := by
          have := chain_len (upV l) i
          rw [hC] at this
          simp only [List.length_cons] at this
          omega
        have hSn : 0 < i → 0 < S.length := by
          intro h
          rw [← hS, if_neg (by omega), chain_head]
          simp
        have hdep : depV l i = !decide (((revI S).length : Int) ≥ 20) := by
          unfold depV
          rw [hC, revI_len, Bool.eq_iff_iff]
          simp
          omega
        have hpop : ∀ b : Bool, Ev (fun k => impl_DocOk.j4 k l (c + bytesV l[i]) (revI S) (i : Int) l (l.length : Int) (i : Int) b l[i].f0 l[i].f1 l[i].f2 l[i].f3) ((!b && textV l i) && (allN (stepV l) (i + 1) n && decide (c + bytesD (l.drop i) ≤ 2500))) := by
          have hnext := ih (i + 1) (c + bytesV l[i]) (by omega) (fun j hj => by
            by_cases e : j = i
            · rw [e]; exact hP
            · exact hp j (by omega)) (by omega) (by omega)
          have hsum : c + bytesV l[i] + bytesD (l.drop (i + 1)) = c + bytesD (l.drop i) := by
            rw [List.drop_eq_getElem_cons hlt, bytesD]; omega
          rw [hsum] at hnext
          have hstk : stkV l (i + 1) = stk (upV l) (elV l) i := by
            unfold stkV
            rw [if_neg (by omega), Nat.add_sub_cancel]
          intro b
          cases b with
          | true =>
            refine Ev.step (f := fun _ => some false) (fun k => ?_) (Ev.now _)
            conv => lhs; unfold impl_DocOk.j4
            rw [if_pos rfl]
          | false =>
            cases he : elV l i with
            | true =>
              have ht : textV l i = true := by unfold textV; rw [he]; rfl
              have hq : stkV l (i + 1) = i :: S := by rw [hstk]; unfold stk; rw [if_pos he, hC]
              rw [ht]
              simp only [Bool.not_false, Bool.true_and]
              rw [hq] at hnext
              refine Ev.step (fun k => ?_) hnext
              conv => lhs; unfold impl_DocOk.j4
              rw [if_neg (by decide), if_neg ((el_yes hlt).1 he), if_pos (by rw [revI_len]; omega), w1n hlt (by omega), revI_cons]
            | false =>
              have hi0 : 0 < i := by
                rcases Nat.eq_zero_or_pos i with h | h
                · subst h
                  rw [(hP.1 rfl).2] at he
                  cases he
                · exact h
              have hq : stkV l (i + 1) = S := by rw [hstk]; unfold stk; rw [if_neg (by rw [he]; decide), hC, List.tail_cons]
              rw [hq] at hnext
              have ew : wrap64 ((i : Int) - 1) = ((i - 1 : Nat) : Int) := by rw [w64] <;> omega
              have hlt1 : i - 1 < l.length := by omega
              have hnm := (el_no hlt).1 he
              have ht : textV l i = !(!elV l (i - 1) && decide (upV l (i - 1) = upV l i)) := by
                unfold textV
                rw [he, decide_eq_true hi0]
                simp
              rw [ht]
              cases hpe : elV l (i - 1) with
              | true =>
                have h2 := (el_yes hlt1).1 hpe
                simp only [Bool.not_true, Bool.not_false, Bool.false_and, Bool.true_and]
                refine Ev.step (fun k => ?_) hnext
                conv => lhs; unfold impl_DocOk.j4
                rw [if_neg (by decide), if_pos hnm, if_pos (by omega), ew, if_pos (by omega), if_pos (by omega), rdIt l (i - 1) hlt1, if_neg h2, w1n hlt (by omega)]
              | false =>
                have h2 := (el_no hlt1).1 hpe
                by_cases hs : upV l (i - 1) = upV l i
                · rw [decide_eq_true hs]
                  rw [upV_at hlt1, hup] at hs
                  refine Ev.step (f := fun _ => some false) (fun k => ?_) (Ev.now _)
                  conv => lhs; unfold impl_DocOk.j4
                  rw [if_neg (by decide), if_pos hnm, if_pos (by omega), ew, if_pos (by omega), if_pos (by omega), rdIt l (i - 1) hlt1, if_pos h2, if_pos hs]
                · rw [decide_eq_false hs]
                  rw [upV_at hlt1, hup] at hs
                  simp only [Bool.not_true, Bool.not_false, Bool.and_false, Bool.true_and]
                  refine Ev.step (fun k => ?_) hnext
                  conv => lhs; unfold impl_DocOk.j4
                  rw [if_neg (by decide), if_pos hnm, if_pos (by omega), ew, if_pos (by omega), if_pos (by omega), rdIt l (i - 1) hlt1, if_pos h2, if_neg hs, w1n hlt (by omega)]
        have := hpop (decide (((revI S).length : Int) ≥ 20))
        rw [← hdep] at this
        have es : stepV l i = (depV l i && textV l i) := by
          unfold stepV
          rw [hpv, hg, Bool.true_and, Bool.and_true]
        rw [es, Bool.and_assoc]
        refine Ev.step (fun k => ?_) this
        conv => lhs; unfold impl_DocOk.j3
        by_cases h0i : 0 < i
        · have := hSn h0i
          rw [if_pos (by omega), if_neg (by rw [revI_len]; omega)]
        · rw [if_neg (by omega)]
      · rw [hD, revI_nil]
        have : stepV l i = false := by unfold stepV posV; rw [decide_eq_false hP]; rfl
        rw [this]
        refine Ev.step (f := fun k => impl_DocOk.j4 k l (c + bytesV l[i]) [] (i : Int) l (l.length : Int) (i : Int) true l[i].f0 l[i].f1 l[i].f2 l[i].f3) (fun k => ?_) ?_
        · conv => lhs; unfold impl_DocOk.j3
          rw [if_pos (by omega), if_pos (by simp)]
        · refine Ev.step (f := fun _ => some false) (fun k => ?_) (Ev.now _)
          conv => lhs; unfold impl_DocOk.j4
          rw [if_pos rfl]
end
theorem impl_doc (l : List It) (hl : smallD l) (hb : l.length ≤ 1048576) : Ev (fun k => impl_DocOk.f k l) (docV l) := by
  have hj : Ev (fun k => impl_DocOk.j0 k l true) false := by
    exact Ev.step (f := fun _ => some false) (fun k => rfl) (Ev.now _)
  unfold docV
  cases hc : (decide (1 ≤ l.length) && decide (l.length ≤ 200)) with
  | false =>
    refine Ev.congr (fun k => ?_) hj
    have : inZ (l.length : Int) 1 200 = false := by
      rw [← hc]
      unfold inZ
      rw [Bool.eq_iff_iff]
      simp
      omega
    unfold impl_DocOk.f
    rw [impl_in', Option.bind_some, this, if_neg (by decide)]
  | true =>
    rw [Bool.and_eq_true, decide_eq_true_eq, decide_eq_true_eq] at hc
    have h0 : 0 < l.length := by omega
    have hz : inZ (l.length : Int) 1 200 = true := by
      unfold inZ
      simp
      omega
    have es : ∀ k, impl_DocOk.f k l = if (rd_T39 l 0).f0 = (-1) then (impl_DocOk.j0 k l (((rd_T39 l 0).f1).toList == ([] : List UInt8))) else (impl_DocOk.j0 k l true) := by
      intro k
      unfold impl_DocOk.f
      rw [impl_in', Option.bind_some, hz, if_pos rfl, if_pos (by omega)]
    have er : rd_T39 l 0 = l[0] := rdIt l 0 h0
    simp only [Bool.true_and]
    by_cases hP : PosP l 0
    · obtain ⟨h1, h2⟩ := hP.1 rfl
      have hmain := impl_doc_l0 l hl hc.2 hP l.length 0 0 (by omega) (fun j hj => by omega) (by omega) (by omega)
      rw [List.drop_zero, Int.zero_add] at hmain
      rw [upV_at h0] at h1
      have h3 := (el_yes h0).1 h2
      refine Ev.congr (f := fun k => impl_DocOk.j0 k l false) (fun k => ?_) ?_
      · rw [es, er, if_pos h1]
        congr 1
        rw [beq_eq_false_iff_ne]
        exact h3
      · exact Ev.step (fun k => rfl) hmain
    · have : allN (stepV l) 0 l.length = false := by
        rw [Bool.eq_false_iff]
        intro h
        rw [allN_iff] at h
        exact hP (step_pos (h 0 (by omega) (by omega)))
      rw [this, Bool.false_and]
      refine Ev.congr (fun k => ?_) hj
      rw [es, er]
      split
      · rename_i h1
        congr 1
        rw [beq_iff_eq]
        by_cases h2 : l[0].f1.toList = ([] : List UInt8)
        · exact h2
        · exact absurd ⟨fun _ => ⟨by rw [upV_at h0]; exact h1, (el_yes h0).2 h2⟩, fun h => by omega⟩ hP
      · rfl
theorem spec_deep_l0 (l : List It) (hn : l.length ≤ 200) {m : Nat} (V : Val (upV l) (elV l) m) (hm : m ≤ l.length) : ∀ (j : Nat) (d : Int), j < m → 0 ≤ d → d ≤ 300 - j → Ev (fun k => spec_l2Deep.l0 k l (j : Int) d) (d + ((chain (upV l) j).length : Int) - 1) := by
  intro j
  induction j using Nat.strongRecOn with
  | _ j ih =>
  intro d hj h0 hd
  have hlt : j < l.length := by omega
  have hup := upV_at hlt
  by_cases e : j = 0
  · subst e
    have h1 := (V.1 hj).1
    rw [chain_zero h1]
    rw [hup] at h1
    refine Ev.step (f := fun _ => some d) (fun k => ?_) (by simp; exact Ev.now _)
    conv => lhs; unfold spec_l2Deep.l0
    rw [if_pos (by omega), if_pos (by omega), rdIt l 0 hlt, if_neg (by omega)]
  · obtain ⟨h1, h2, h3⟩ := V.2 j (by omega) hj
    rw [chain_up h1 h2, List.length_cons]
    have := ih (upV l j).toNat h2 (d + 1) (by omega) (by omega) (by omega)
    have e1 : wrap64 (d + 1) = d + 1 := by rw [w64] <;> omega
    have e2 : l[j].f0 = (((upV l j).toNat : Nat) : Int) := by rw [← hup]; omega
    rw [show d + (((chain (upV l) (upV l j).toNat).length + 1 : Nat) : Int) - 1 = d + 1 + ((chain (upV l) (upV l j).toNat).length : Int) - 1 by omega]
    refine Ev.step (fun k => ?_) this
    conv => lhs; unfold spec_l2Deep.l0
    rw [if_pos (by omega), if_pos (by omega), rdIt l j hlt, if_pos (by omega), e1, e2]
theorem spec_deep (l : List It) (hn : l.length ≤ 200) {m : Nat} (V : Val (upV l) (elV l) m) (hm : m ≤ l.length) (j : Nat) (hj : j < m) : Ev (fun k => spec_l2Deep.f k l (j : Int)) (((chain (upV l) j).length : Int) - 1) := by
  have := spec_deep_l0 l hn V hm j 0 hj (by omega) (by omega)
  rw [Int.zero_add] at this
  exact this
theorem spec_climb (l : List It) {m : Nat} (V : Val (upV l) (elV l) m) (hm : m ≤ l.length) (c : Int) (i p : Nat) (nm tx : ByteArray) (ats : List At) (R : Bool) : ∀ j, j < m → (p ∈ chain (upV l) j → Ev (fun k => spec_DocOk.j6 k l c (i : Int) (p : Int) nm tx ats) R) → Ev (fun k => spec_DocOk.l2 k l c (i : Int) (j : Int) (p : Int) nm tx ats) (decide (p ∈ chain (upV l) j) && R) := by
  intro j
  induction j using Nat.strongRecOn with
  | _ j ih =>
  intro hj hR
  have hlt : j < l.length := by omega
  have hup := upV_at hlt
  by_cases c1 : j = p
  · have hm : p ∈ chain (upV l) j := by rw [chain_eq, c1]; simp
    rw [decide_eq_true hm, Bool.true_and]
    refine Ev.step (fun k => ?_) (hR hm)
    conv => lhs; unfold spec_DocOk.l2
    rw [if_pos (by omega), if_pos (by omega), if_neg (by omega)]
  · by_cases e : j = 0
    · subst e
      have h1 := (V.1 hj).1
      rw [chain_zero h1]
      rw [hup] at h1
      rw [decide_eq_false (by simp; omega), Bool.false_and]
      refine Ev.step (f := fun k => spec_DocOk.l2 k l c (i : Int) (-1) (p : Int) nm tx ats) (fun k => ?_) (Ev.step (f := fun _ => some false) (fun k => ?_) (Ev.now _))
      · conv => lhs; unfold spec_DocOk.l2
        rw [if_pos (by omega), if_neg (by omega), if_pos (by omega), if_pos (by omega), rdIt l 0 hlt, h1]
      · conv => lhs; unfold spec_DocOk.l2
        rw [if_neg (by omega), if_pos (by omega)]
    · obtain ⟨h1, h2, h3⟩ := V.2 j (by omega) hj
      have e2 : l[j].f0 = (((upV l j).toNat : Nat) : Int) := by rw [← hup]; omega
      have e3 : (p ∈ chain (upV l) j) ↔ (p ∈ chain (upV l) (upV l j).toNat) := by
        rw [chain_up h1 h2, List.mem_cons]
        exact ⟨fun h => h.resolve_left (fun h => c1 h.symm), .inr⟩
      have := ih (upV l j).toNat h2 (by omega) (fun h => hR (e3.2 h))
      rw [decide_eq_decide.2 e3]
      refine Ev.step (fun k => ?_) this
      conv => lhs; unfold spec_DocOk.l2
      rw [if_pos (by omega), if_neg (by omega), if_pos (by omega), if_pos (by omega), rdIt l j hlt, e2]
/-- The bytes that are counted ahead of the rest. -/
def bytesP (x : It) : Int := (x.f1.size : Int) + x.f2.size + bytesA (x.f3.take 20)
theorem bytesP_bound {x : It} (h : smallI x) : 0 ≤ bytesP x ∧ bytesP x ≤ bytesV x := by
  obtain ⟨h1, h2, h3, h4⟩ := h
  have h5 : ∀ (l : List At) (n : Nat), (∀ a ∈ l, smallA a) → bytesA (l.take n) ≤ bytesA l := by
    intro l
    induction l with
    | nil => intro n _; simp
    | cons a l ih =>
      intro n h
      have hb := bytesA_bound l (fun b hb => h b (by simp [hb]))
      cases n with
      | zero => simp only [List.take_zero, bytesA]; omega
      | succ n =>
        have := ih n (fun b hb => h b (by simp [hb]))
        simp only [List.take_succ_cons, bytesA]
        omega
  have h6 := h5 x.f3 20 h4
  have h7 := bytesA_bound (x.f3.take 20) (fun a ha => h4 a (List.mem_of_mem_take ha))
  unfold bytesP bytesV
  constructor <;> omega
theorem spec_sum (l : List It) (i : Nat) (p : Int) (nm tx : ByteArray) (ats : List At) (h : smallAs ats) (R : Bool) (T : Int) (hR : Ev (fun k => spec_DocOk.j3 k l T (i : Int) p nm tx ats) R) : ∀ (n j : Nat) (c : Int), j + n = (ats.take 20).length → 0 ≤ c → c ≤ 1152921504606846976 + 2097152 * j → c + bytesA ((ats.take 20).drop j) = T → Ev (fun k => spec_DocOk.l1 k l c (i : Int) (j : Int) p nm tx ats) R := by
  have hlen : (ats.take 20).length = min 20 ats.length := List.length_take
  intro n
  induction n with
  | zero =>
    intro j c hj h0 hc hT
    rw [List.drop_of_length_le (by omega), bytesA, Int.add_zero] at hT
    rw [← hT] at hR
    refine Ev.step (fun k => ?_) hR
    conv => lhs; unfold spec_DocOk.l1
    by_cases c1 : j < ats.length
    · rw [if_pos (by omega), if_neg (by omega)]
    · rw [if_neg (by omega)]
  | succ n ih =>
    intro j c hj h0 hc hT
    have hlt : j < (ats.take 20).length := by omega
    have hlt2 : j < ats.length := by omega
    rw [List.drop_eq_getElem_cons hlt, bytesA, List.getElem_take] at hT
    have hs := sm ats h j hlt2
    have e1 : wrap64 (c + (ats[j].f0.size : Int)) = c + (ats[j].f0.size : Int) := by rw [w64] <;> omega
    have e2 : wrap64 (c + (ats[j].f0.size : Int) + (ats[j].f1.size : Int)) = c + (ats[j].f0.size : Int) + (ats[j].f1.size : Int) := by rw [w64] <;> omega
    have := ih (j + 1) (c + (ats[j].f0.size : Int) + (ats[j].f1.size : Int)) (by omega) (by omega) (by omega) (by omega)
    refine Ev.step (fun k => ?_) this
    conv => lhs; unfold spec_DocOk.l1
    rw [if_pos (by omega), if_pos (by omega), if_pos (by omega), rdAt ats j hlt2, e1, e2, w1n hlt2 (by have := h.1; omega)]
section
variable (l : List It) (hl : smallD l) (hn : l.length ≤ 200)
include hl hn
theorem spec_content (i : Nat) (hlt : i < l.length) (c : Int) (R : Bool) (hp : ∀ j, j < i + 1 → PosP l j) (hR : Ev (fun k => spec_DocOk.l0 k l c ((i + 1 : Nat) : Int)) R) : Ev (fun k => spec_DocOk.j6 k l c (i : Int) l[i].f0 l[i].f1 l[i].f2 l[i].f3) (depV l i && (textV l i && goodAt l i) && R) := by
  have V : Val (upV l) (elV l) (i + 1) := pos_val hp
  have hx : smallI l[i] := hl _ (List.getElem_mem hlt)
  obtain ⟨hx1, hx2, hx3⟩ := hx
  have hup := upV_at hlt
  have hd := spec_deep l hn V (by omega) i (by omega)
  refine Ev.step (f := fun k => (spec_l2Deep.f k l (i : Int)).bind fun t153 => (if t153 ≥ 20 then (some false) else (if l[i].f1.toList = ([] : List UInt8) then (if l[i].f2.toList = ([] : List UInt8) then (spec_DocOk.j7 k l c (i : Int) true l[i].f0 l[i].f1 l[i].f2 l[i].f3) else (if (l[i].f3.length : Int) > 0 then (spec_DocOk.j7 k l c (i : Int) true l[i].f0 l[i].f1 l[i].f2 l[i].f3) else ((spec_l1Text.f k l[i].f2).bind fun t154 => (spec_DocOk.j7 k l c (i : Int) (!t154) l[i].f0 l[i].f1 l[i].f2 l[i].f3)))) else (if l[i].f2.toList = ([] : List UInt8) then ((spec_l1Qual.f k l[i].f1).bind fun t157 => (if t157 = true then ((spec_l2Attrs.f k l[i].f3).bind fun t158 => (if t158 = true then (spec_DocOk.l0 k l c (wrap64 ((i : Int) + 1))) else (some false))) else (some false))) else (some false))))) (fun k => ?_) (Ev.bind hd ?_)
  · conv => lhs; unfold spec_DocOk.j6
  · by_cases c1 : (chain (upV l) i).length ≤ 20
    · have : depV l i = true := decide_eq_true c1
      rw [this, Bool.true_and]
      rw [good_at hlt]
      unfold goodV
      cases he : elV l i with
      | true =>
        have hnm := (el_yes hlt).1 he
        have ht : textV l i = true := by unfold textV; rw [he]; rfl
        rw [ht, Bool.true_and, if_neg hnm]
        refine Ev.congr (f := fun k => (if l[i].f2.toList = ([] : List UInt8) then ((spec_l1Qual.f k l[i].f1).bind fun t157 => (if t157 = true then ((spec_l2Attrs.f k l[i].f3).bind fun t158 => (if t158 = true then (spec_DocOk.l0 k l c ((i + 1 : Nat) : Int)) else (some false))) else (some false))) else (some false))) (fun k => ?_) ?_
        · rw [if_neg (by omega), if_neg hnm, w1n hlt (by omega)]
        · by_cases c2 : l[i].f2.toList = ([] : List UInt8)
          · simp only [if_pos c2]
            refine Ev.bind (spec_qual l[i].f1 (size_len hx1)) ?_
            cases qualV l[i].f1 with
            | false => exact Ev.now _
            | true =>
              simp only [if_true, Bool.true_and]
              refine Ev.bind (spec_attrs l[i].f3 hx3) ?_
              cases attrsV l[i].f3 with
              | false => exact Ev.now _
              | true => exact hR
          · simp only [if_neg c2, Bool.and_false, Bool.false_and]
            exact Ev.now _
      | false =>
        have hnm := (el_no hlt).1 he
        rw [if_pos hnm]
        have hi0 : 0 < i := by
          rcases Nat.eq_zero_or_pos i with h | h
          · subst h
            rw [((hp 0 (by omega)).1 rfl).2] at he
            cases he
          · exact h
        have ht : textV l i = !(!elV l (i - 1) && decide (upV l (i - 1) = upV l i)) := by
          unfold textV
          rw [he, decide_eq_true hi0]
          simp
        have ew : wrap64 ((i : Int) - 1) = ((i - 1 : Nat) : Int) := by rw [w64] <;> omega
        have hlt1 : i - 1 < l.length := by omega
        have tail : ∀ b : Bool, Ev (fun k => spec_DocOk.j7 k l c (i : Int) b l[i].f0 l[i].f1 l[i].f2 l[i].f3) (textV l i && !b && R) := by
          intro b
          cases b with
          | true =>
            rw [Bool.not_true, Bool.and_false]
            refine Ev.step (f := fun _ => some false) (fun k => ?_) (Ev.now _)
            conv => lhs; unfold spec_DocOk.j7
            rw [if_pos rfl]
          | false =>
            rw [ht, Bool.not_false, Bool.and_true]
            cases hpe : elV l (i - 1) with
            | true =>
              have h2 := (el_yes hlt1).1 hpe
              simp only [Bool.not_true, Bool.not_false, Bool.false_and, Bool.true_and]
              refine Ev.step (fun k => ?_) hR
              conv => lhs; unfold spec_DocOk.j7
              rw [if_neg (by decide), ew, if_pos (by omega), if_pos (by omega), rdIt l (i - 1) hlt1, if_neg h2, w1n hlt (by omega)]
            | false =>
              have h2 := (el_no hlt1).1 hpe
              by_cases hs : upV l (i - 1) = upV l i
              · rw [decide_eq_true hs]
                rw [upV_at hlt1, hup] at hs
                refine Ev.step (f := fun _ => some false) (fun k => ?_) (Ev.now _)
                conv => lhs; unfold spec_DocOk.j7
                rw [if_neg (by decide), ew, if_pos (by omega), if_pos (by omega), rdIt l (i - 1) hlt1, if_pos h2, if_pos hs]
              · rw [decide_eq_false hs]
                rw [upV_at hlt1, hup] at hs
                simp only [Bool.not_true, Bool.not_false, Bool.and_false, Bool.true_and]
                refine Ev.step (fun k => ?_) hR
                conv => lhs; unfold spec_DocOk.j7
                rw [if_neg (by decide), ew, if_pos (by omega), if_pos (by omega), rdIt l (i - 1) hlt1, if_pos h2, if_neg hs, w1n hlt (by omega)]
        by_cases c2 : l[i].f2.toList = ([] : List UInt8)
        · rw [if_pos c2]
          refine Ev.congr (fun k => ?_) (tail true)
          rw [if_neg (by omega), if_pos hnm, if_pos c2]
        · rw [if_neg c2]
          by_cases c3 : l[i].f3.length = 0
          · rw [decide_eq_true c3, Bool.and_true]
            refine Ev.congr (f := fun k => (spec_l1Text.f k l[i].f2).bind fun t154 => (spec_DocOk.j7 k l c (i : Int) (!t154) l[i].f0 l[i].f1 l[i].f2 l[i].f3)) (fun k => ?_) ?_
            · rw [if_neg (by omega), if_pos hnm, if_neg c2, if_neg (by omega)]
            · refine Ev.bind (spec_text l[i].f2 (by omega)) ?_
              have := tail (!plainV l[i].f2)
              rw [Bool.not_not] at this
              exact this
          · rw [decide_eq_false c3, Bool.and_false]
            refine Ev.congr (fun k => ?_) (tail true)
            rw [if_neg (by omega), if_pos hnm, if_neg c2, if_pos (by omega)]
    · have : depV l i = false := decide_eq_false c1
      rw [this]
      refine Ev.congr (f := fun _ => some false) (fun k => ?_) (Ev.now _)
      rw [if_pos (by omega)]
end
theorem good_few {x : It} (h : goodV x = true) : x.f3.length ≤ 20 := by
  unfold goodV attrsV at h
  split at h
  · split at h
    · cases h
    · rw [Bool.and_eq_true, decide_eq_true_eq] at h
      omega
  · rw [Bool.and_eq_true] at h
    have h := h.2
    split at h
    · rw [Bool.and_eq_true, decide_eq_true_eq] at h
      omega
    · cases h
theorem spec_doc_l0 (l : List It) (hl : smallD l) (hn : l.length ≤ 200) : ∀ (n i : Nat) (c : Int), i + n = l.length → (∀ j, j < i → PosP l j) → 0 ≤ c → c ≤ 2500 → Ev (fun k => spec_DocOk.l0 k l c (i : Int)) (allN (stepV l) i n && decide (c + bytesD (l.drop i) ≤ 2500)) := by
  intro n
  induction n with
  | zero =>
    intro i c hi hp h0 hc
    rw [List.drop_of_length_le (by omega), allN, Bool.true_and, bytesD, Int.add_zero, decide_eq_true hc]
    refine Ev.step (f := fun _ => some true) (fun k => ?_) (Ev.now _)
    conv => lhs; unfold spec_DocOk.l0
    rw [if_neg (by omega)]
  | succ n ih =>
    intro i c hi hp h0 hc
    have hlt : i < l.length := by omega
    have hx : smallI l[i] := hl _ (List.getElem_mem hlt)
    have hb := bytesP_bound hx
    have hV := bytesV_bound hx
    have hdrop : bytesD (l.drop i) = bytesV l[i] + bytesD (l.drop (i + 1)) := by rw [List.drop_eq_getElem_cons hlt, bytesD]
    have hrest : 0 ≤ bytesD (l.drop (i + 1)) := bytesD_pos (fun x hx => hl x (List.mem_of_mem_drop hx))
    obtain ⟨hx1, hx2, hx3⟩ := hx
    have hup := upV_at hlt
    have e1 : wrap64 (c + (l[i].f1.size : Int)) = c + (l[i].f1.size : Int) := by rw [w64] <;> omega
    have e2 : wrap64 (c + (l[i].f1.size : Int) + (l[i].f2.size : Int)) = c + (l[i].f1.size : Int) + (l[i].f2.size : Int) := by rw [w64] <;> omega
    have main : Ev (fun k => spec_DocOk.j3 k l (c + bytesP l[i]) (i : Int) l[i].f0 l[i].f1 l[i].f2 l[i].f3) (allN (stepV l) i (n + 1) && decide (c + bytesD (l.drop i) ≤ 2500)) := by
      rw [allN]
      by_cases cb : c + bytesP l[i] > 2500
      · rw [decide_eq_false (show ¬ c + bytesD (l.drop i) ≤ 2500 by omega), Bool.and_false]
        refine Ev.step (f := fun _ => some false) (fun k => ?_) (Ev.now _)
        conv => lhs; unfold spec_DocOk.j3
        rw [if_pos cb]
      · by_cases hP : PosP l i
        · have hpi : ∀ j, j < i + 1 → PosP l j := fun j hj => by
            by_cases e : j = i
            · rw [e]; exact hP
            · exact hp j (by omega)
          have hc2 := spec_content l hl hn i hlt (c + bytesP l[i]) _ hpi (ih (i + 1) (c + bytesP l[i]) (by omega) hpi (by omega) (by omega))
          have hval : ((depV l i && (textV l i && goodAt l i)) && (allN (stepV l) (i + 1) n && decide (c + bytesP l[i] + bytesD (l.drop (i + 1)) ≤ 2500))) = ((stepV l i && allN (stepV l) (i + 1) n) && decide (c + bytesD (l.drop i) ≤ 2500)) := by
            have e : stepV l i = (depV l i && (textV l i && goodAt l i)) := by
              unfold stepV posV
              rw [decide_eq_true hP, Bool.true_and]
            rw [e]
            cases hg : goodAt l i with
            | false => simp
            | true =>
              rw [good_at hlt] at hg
              have hf := good_few hg
              have : bytesP l[i] = bytesV l[i] := by
                unfold bytesP bytesV
                rw [List.take_of_length_le hf]
              rw [this, show c + bytesV l[i] + bytesD (l.drop (i + 1)) = c + bytesD (l.drop i) by omega]
              simp only [Bool.and_assoc]
          rw [hval] at hc2
          by_cases h0i : i = 0
          · have hz := hP.1 h0i
            rw [← h0i] at hz
            have h1 := hz.1
            rw [hup] at h1
            have h2 := (el_yes hlt).1 hz.2
            refine Ev.step2' (fun k => ?_) hc2
            conv => lhs; unfold spec_DocOk.j3
            rw [if_neg cb, if_pos (by omega), if_pos h1, if_neg h2]
            conv => lhs; unfold spec_DocOk.j4
            rw [if_neg (by omega)]
          · obtain ⟨h1, h2, h3⟩ := hP.2 (by omega)
            have h4 := chain_lt _ _ h3
            have V : Val (upV l) (elV l) i := pos_val hp
            have ew : wrap64 ((i : Int) - 1) = ((i - 1 : Nat) : Int) := by rw [w64] <;> omega
            have ep : l[i].f0 = (((upV l i).toNat : Nat) : Int) := by rw [← hup]; omega
            have hin : inZ l[i].f0 0 ((i - 1 : Nat) : Int) = true := by
              unfold inZ
              simp
              omega
            have hlp : (upV l i).toNat < l.length := by omega
            have hq := spec_climb l V (by omega) (c + bytesP l[i]) i (upV l i).toNat l[i].f1 l[i].f2 l[i].f3 _ (i - 1) (by omega) (fun _ => by rw [← ep]; exact hc2)
            rw [decide_eq_true h3, Bool.true_and] at hq
            refine Ev.step2' (fun k => ?_) hq
            conv => lhs; unfold spec_DocOk.j3
            rw [if_neg cb, if_neg (by omega), ew, spec_in', Option.bind_some, hin, if_pos rfl, if_pos (by omega), if_pos (by omega), ep, rdIt l _ hlp, if_neg ((el_yes hlp).1 h2)]
            conv => lhs; unfold spec_DocOk.j4
            rw [if_pos (by omega), ew]
        · have e : stepV l i = false := by unfold stepV posV; rw [decide_eq_false hP]; rfl
          rw [e]
          by_cases h0i : i = 0
          · refine Ev.step (f := fun _ => some false) (fun k => ?_) (Ev.now _)
            conv => lhs; unfold spec_DocOk.j3
            rw [if_neg cb, if_pos (by omega)]
            by_cases h1 : l[i].f0 = -1
            · rw [if_pos h1]
              by_cases h2 : l[i].f1.toList = ([] : List UInt8)
              · rw [if_pos h2]
              · refine absurd ⟨fun _ => ?_, fun h => by omega⟩ hP
                subst h0i
                exact ⟨by rw [hup]; exact h1, (el_yes hlt).2 h2⟩
            · rw [if_neg h1]
          · have V : Val (upV l) (elV l) i := pos_val hp
            have ew : wrap64 ((i : Int) - 1) = ((i - 1 : Nat) : Int) := by rw [w64] <;> omega
            by_cases hin : inZ l[i].f0 0 ((i - 1 : Nat) : Int) = true
            · have hin2 := hin
              unfold inZ at hin2
              simp at hin2
              have ep : l[i].f0 = (((upV l i).toNat : Nat) : Int) := by rw [← hup] at hin2 ⊢; omega
              have hlp : (upV l i).toNat < l.length := by rw [← hup] at hin2; omega
              cases he : elV l (upV l i).toNat with
              | false =>
                refine Ev.step (f := fun _ => some false) (fun k => ?_) (Ev.now _)
                conv => lhs; unfold spec_DocOk.j3
                rw [if_neg cb, if_neg (by omega), ew, spec_in', Option.bind_some, hin, if_pos rfl, if_pos (by omega), if_pos (by omega), ep, rdIt l _ hlp, if_pos ((el_no hlp).1 he)]
              | true =>
                have hnc : ¬ (upV l i).toNat ∈ chain (upV l) (i - 1) := fun h => hP ⟨fun h => absurd h h0i, fun _ => ⟨by rw [hup]; omega, he, h⟩⟩
                have hq := spec_climb l V (by omega) (c + bytesP l[i]) i (upV l i).toNat l[i].f1 l[i].f2 l[i].f3 true (i - 1) (by omega) (fun h => absurd h hnc)
                rw [decide_eq_false hnc, Bool.false_and] at hq
                refine Ev.step2' (fun k => ?_) hq
                conv => lhs; unfold spec_DocOk.j3
                rw [if_neg cb, if_neg (by omega), ew, spec_in', Option.bind_some, hin, if_pos rfl, if_pos (by omega), if_pos (by omega), ep, rdIt l _ hlp, if_neg ((el_yes hlp).1 he)]
                conv => lhs; unfold spec_DocOk.j4
                rw [if_pos (by omega), ew]
            · refine Ev.step (f := fun _ => some false) (fun k => ?_) (Ev.now _)
              conv => lhs; unfold spec_DocOk.j3
              rw [if_neg cb, if_neg (by omega), ew, spec_in', Option.bind_some, if_neg hin]
    have hs := spec_sum l i l[i].f0 l[i].f1 l[i].f2 l[i].f3 hx3 _ (c + bytesP l[i]) main (l[i].f3.take 20).length 0 (c + (l[i].f1.size : Int) + (l[i].f2.size : Int)) (by omega) (by omega) (by omega) (by rw [List.drop_zero]; unfold bytesP; omega)
    refine Ev.step (fun k => ?_) hs
    conv => lhs; unfold spec_DocOk.l0
    rw [if_pos (by omega), if_pos (by omega), rdIt l i hlt, e1, e2]
    rfl
theorem spec_doc (l : List It) (hl : smallD l) (hb : l.length ≤ 1048576) : Ev (fun k => spec_DocOk.f k l) (docV l) := by
  have hj : Ev (fun k => spec_DocOk.j0 k l true) false := Ev.step (f := fun _ => some false) (fun k => rfl) (Ev.now _)
  unfold docV
  by_cases c1 : 1 ≤ l.length
  · by_cases c2 : l.length ≤ 200
    · rw [decide_eq_true c1, decide_eq_true c2]
      have := spec_doc_l0 l hl c2 l.length 0 0 (by omega) (fun j hj => by omega) (by omega) (by omega)
      rw [List.drop_zero, Int.zero_add] at this
      refine Ev.congr (f := fun k => spec_DocOk.j0 k l false) (fun k => ?_) (Ev.step (fun k => rfl) this)
      unfold spec_DocOk.f
      rw [if_neg (by omega), decide_eq_false (by omega)]
    · rw [decide_eq_false c2, Bool.and_false, Bool.false_and]
      refine Ev.congr (fun k => ?_) hj
      unfold spec_DocOk.f
      rw [if_neg (by omega), decide_eq_true (by omega)]
  · rw [decide_eq_false c1]
    refine Ev.congr (fun k => ?_) hj
    unfold spec_DocOk.f
    rw [if_pos (by omega)]
end Go.Proofs.YtpmjpbaeecnpiaaDoor.Pure

namespace Go.Proofs.YtpmjpbaeecnpiaaDoor.Pure
open Go.RowKit Go.Proofs.YtpmjpbaeecnpiaaDoor.L Go.Proofs.YtpmjpbaeecnpiaaDoorW.PrintWords Go.Proofs.YtpmjpbaeecnpiaaDoorW.PrintLast Go.Proofs.YtpmjpbaeecnpiaaDoorW.PrintMore
set_option linter.unusedVariables false
set_option linter.unusedSimpArgs false

theorem w47 (b : UInt8) : ((b.toNat : Int) != 47) = !(decide (b = 47)) := by
  have := byte_is b 47 (by decide)
  by_cases c : b = 47
  · subst c; rfl
  · have h2 : ¬ (b.toNat : Int) = 47 := fun h => c (this.1 h)
    simp [c, h2]
end Go.Proofs.YtpmjpbaeecnpiaaDoor.Pure

namespace Go.Proofs.YtpmjpbaeecnpiaaDoor.Pure
open Go.RowKit Go.Proofs.YtpmjpbaeecnpiaaDoor.L Go.Proofs.YtpmjpbaeecnpiaaDoorW.PrintWords Go.Proofs.YtpmjpbaeecnpiaaDoorW.PrintLast Go.Proofs.YtpmjpbaeecnpiaaDoorW.PrintMore
open DT
set_option linter.unusedVariables false
set_option linter.unusedSimpArgs false

theorem doc_val {l : List It} (h : docV l = true) : 0 < l.length ∧ l.length ≤ 200 ∧ Val (upV l) (elV l) l.length := by
  unfold docV at h
  simp only [Bool.and_eq_true, decide_eq_true_eq] at h
  obtain ⟨⟨h1, h2⟩, h3, h4⟩ := h
  refine ⟨by omega, h2, pos_val (fun j hj => ?_)⟩
  rw [allN_iff] at h3
  exact step_pos (h3 j (by omega) (by omega))
end Go.Proofs.YtpmjpbaeecnpiaaDoor.Pure

namespace Go.Proofs.YtpmjpbaeecnpiaaDoor.Pure
open Go.RowKit Go.Proofs.YtpmjpbaeecnpiaaDoor.L Go.Proofs.YtpmjpbaeecnpiaaDoorW.PrintWords Go.Proofs.YtpmjpbaeecnpiaaDoorW.PrintLast Go.Proofs.YtpmjpbaeecnpiaaDoorW.PrintMore
set_option linter.unusedVariables false
set_option linter.unusedSimpArgs false

def Code (l : List Int) : Prop := l.length ≤ 140737488351232 ∧ ∀ x ∈ l, 0 ≤ x ∧ x ≤ 255
def St (l : List Int) (p : Int) : Prop := 0 ≤ p ∧ p ≤ l.length
theorem code_of {l : List Int} (h1 : l.length * 1 ≤ 140737488351232) (h2 : ∀ x ∈ l, (Lit.int .u8 x).wf = true) : Code l :=
  ⟨by omega, fun x hx => by
    have := h2 x hx
    simpa [Lit.wf, IntKind.min, IntKind.max, IntKind.signed, IntKind.bits] using this⟩
theorem rd_byte {l : List Int} (h : Code l) (i : Int) : 0 ≤ rd l i ∧ rd l i ≤ 255 := by
  unfold rd
  rw [List.getD_eq_getElem?_getD]
  rcases e : l[i.toNat]? with _ | x
  · simp
  · exact h.2 x (List.mem_of_getElem? e)
theorem next_f {l : List Int} {p : Int} (h : Code l) (hp : St l p) : ∃ v q, spec_l1Rd_next.f l p = some (v, q) ∧ 0 ≤ v ∧ v ≤ 255 ∧ St l q := by
  have hl := h.1
  obtain ⟨p0, p1⟩ := hp
  unfold spec_l1Rd_next.f
  by_cases c : p ≥ (l.length : Int)
  · rw [if_pos c]; exact ⟨0, p, rfl, by omega, by omega, p0, p1⟩
  · have w1 : wrap64 (p + 1) = p + 1 := by rw [w64] <;> omega
    have w2 : wrap64 (p + 1 - 1) = p := by rw [w64] <;> omega
    have hb := rd_byte h p
    have w3 : wrap64 (rd l p) = rd l p := by rw [w64] <;> omega
    rw [if_neg c, w1, w2, if_pos (by omega), if_pos (by omega), w3]
    exact ⟨_, _, rfl, hb.1, hb.2, by omega, by omega⟩
theorem below_f {l : List Int} {p : Int} (h : Code l) (hp : St l p) (n : Int) (h1 : 1 ≤ n) (h2 : n ≤ 256) : ∃ v q, spec_l1Rd_below.f l p n = some (v, q) ∧ 0 ≤ v ∧ v < n ∧ St l q := by
  unfold spec_l1Rd_below.f
  by_cases c : n ≤ 1
  · rw [if_pos c]; exact ⟨0, p, rfl, by omega, by omega, hp⟩
  · obtain ⟨v, q, e, v0, v1, hq⟩ := next_f h hp
    rw [if_neg c, if_pos h2, e]
    simp only [Option.bind_some]
    rw [if_neg (by omega), Int.tmod_eq_emod_of_nonneg v0]
    exact ⟨_, _, rfl, Int.emod_nonneg _ (by omega), Int.emod_lt_of_pos _ (by omega), hq⟩
theorem once_f {l : List Int} {p : Int} (h : Code l) (hp : St l p) (n : Int) (h1 : 1 ≤ n) (h2 : n ≤ 256) : ∃ v q, spec_l1Rd_once.f l p n = some (v, q) ∧ St l q := by
  obtain ⟨v, q, e, _, _, hq⟩ := below_f h hp n h1 h2
  unfold spec_l1Rd_once.f
  rw [e]
  exact ⟨_, _, rfl, hq⟩
theorem rdOf_size (y : List ByteArray) (i : Int) (n : Nat) (h : ∀ s ∈ y, s.size ≤ n) : (rdOf ByteArray.empty y i).size ≤ n := by
  unfold rdOf
  rw [List.getD_eq_getElem?_getD]
  rcases e : y[i.toNat]? with _ | x
  · simp only [Option.getD_none]; exact Nat.zero_le _
  · exact h x (List.mem_of_getElem? e)

theorem text_f {l : List Int} {p : Int} (h : Code l) (hp : St l p) : ∃ s q, spec_l1Rd_text.f l p = some (s, q) ∧ s.size ≤ 4 ∧ St l q := by
  obtain ⟨v, q, e, v0, v1, hq⟩ := below_f h hp 14 (by omega) (by omega)
  unfold spec_l1Rd_text.f
  simp only [Option.bind_some]
  rw [e]
  simp only [Option.bind_some]
  rw [if_pos v0, if_pos (by simpa using v1)]
  exact ⟨_, _, rfl, rdOf_size _ _ 4 (by decide), hq⟩
theorem name_f {l : List Int} {p : Int} (h : Code l) (hp : St l p) : ∃ s q, spec_l1Rd_name.f l p = some (s, q) ∧ s.size ≤ 5 ∧ St l q := by
  obtain ⟨v, q, e, v0, v1, hq⟩ := below_f h hp 7 (by omega) (by omega)
  unfold spec_l1Rd_name.f
  simp only [Option.bind_some]
  rw [e]
  simp only [Option.bind_some]
  rw [if_pos v0, if_pos (by simpa using v1)]
  exact ⟨_, _, rfl, rdOf_size _ _ 5 (by decide), hq⟩
theorem word_l0 {l : List Int} (h : Code l) : ∀ (n : Nat) (x i p : Int), St l p → 0 ≤ i → i + n = 8 → ∃ v q, Ev (fun k => spec_l1Rd_word.l0 k x i l p) (v, q) ∧ St l q := by
  intro n
  induction n with
  | zero =>
    intro x i p hp hi hn
    refine ⟨x, p, Ev.step (f := fun _ => some (x, p)) (fun k => ?_) (Ev.now _), hp⟩
    conv => lhs; unfold spec_l1Rd_word.l0
    rw [if_neg (by omega)]
  | succ n ih =>
    intro x i p hp hi hn
    obtain ⟨v, q, e, _, _, hq⟩ := next_f h hp
    obtain ⟨v2, q2, he, hq2⟩ := ih (Go.bits .or .u64 (IntKind.u64.wrap (x * 256)) (IntKind.u64.wrap v)) (i + 1) q hq (by omega) (by omega)
    refine ⟨v2, q2, Ev.step (fun k => ?_) he, hq2⟩
    conv => lhs; unfold spec_l1Rd_word.l0
    rw [if_pos (by omega), e, Option.bind_some, w64 (by omega) (by omega)]
theorem word_f {l : List Int} {p : Int} (h : Code l) (hp : St l p) : ∃ v q, Ev (fun k => spec_l1Rd_word.f k l p) (v, q) ∧ St l q := word_l0 h 8 0 0 p hp (by omega) (by omega)
theorem near_f {l : List Int} {p : Int} (h : Code l) (hp : St l p) (a b : Int) (ha : -1 ≤ a) (hb : b ≤ 1048576) (ha2 : a ≤ 1048576) : ∃ v q, Ev (fun k => spec_l1Rd_near.f k l p a b) (v, q) ∧ St l q := by
  obtain ⟨v, q, e, v0, v1, hq⟩ := below_f h hp 8 (by omega) (by omega)
  have hf : ∀ k, spec_l1Rd_near.f k l p a b = if v = 0 then (some (a, q)) else (if v = 1 then (some (b, q)) else (if b < a then (some (a, q)) else ((spec_l1Rd_word.f k l q).bind fun bt425 => (if (IntKind.u64.wrap (wrap64 ((wrap64 (b - a)) + 1))) = 0 then (none) else (some (wrap64 (a + (wrap64 (Int.tmod (bt425.1 / 2) (IntKind.u64.wrap (wrap64 ((wrap64 (b - a)) + 1)))))), bt425.2)))))) := by
    intro k
    unfold spec_l1Rd_near.f
    rw [e, Option.bind_some]
  by_cases c1 : v = 0
  · exact ⟨a, q, Ev.congr (f := fun _ => some (a, q)) (fun k => by rw [hf, if_pos c1]) (Ev.now _), hq⟩
  · by_cases c2 : v = 1
    · exact ⟨b, q, Ev.congr (f := fun _ => some (b, q)) (fun k => by rw [hf, if_neg c1, if_pos c2]) (Ev.now _), hq⟩
    · by_cases c3 : b < a
      · exact ⟨a, q, Ev.congr (f := fun _ => some (a, q)) (fun k => by rw [hf, if_neg c1, if_neg c2, if_pos c3]) (Ev.now _), hq⟩
      · obtain ⟨x, r, hx, hr⟩ := word_f h hq
        have e1 : wrap64 (wrap64 (b - a) + 1) = b - a + 1 := by rw [w64 (n := b - a) (by omega) (by omega), w64] <;> omega
        have e2 : IntKind.u64.wrap (b - a + 1) = b - a + 1 := by
          simp only [IntKind.wrap, IntKind.signed, IntKind.bits]
          simp
          omega
        refine ⟨wrap64 (a + (wrap64 (Int.tmod (x / 2) (b - a + 1)))), r, Ev.congr (fun k => by rw [hf, if_neg c1, if_neg c2, if_neg c3]) (Ev.bind hx ?_), hr⟩
        simp only [e1, e2, if_neg (show ¬ (b - a + 1 = 0) by omega)]
        exact Ev.now _
theorem off_f {l : List Int} {p : Int} (h : Code l) (hp : St l p) (a b : Int) (ha : -1 ≤ a) (hb : b ≤ 1048576) (ha2 : a ≤ 1048576) : ∃ v q, Ev (fun k => spec_l1Rd_off.f k l p a b) (v, q) ∧ St l q := by
  obtain ⟨c, q, e, hq⟩ := once_f h hp 24 (by omega) (by omega)
  have hf : ∀ k, spec_l1Rd_off.f k l p a b = if c = true then ((some (([wrap64 (a - 1), wrap64 (b + 1), (-9223372036854775808), 9223372036854775807] : List Int) : List Int)).bind fun y429 => ((spec_l1Rd_below.f l q 4).bind fun bt432 => (if 0 ≤ bt432.1 then (if bt432.1 < (y429.length : Int) then (some (rd y429 bt432.1, bt432.2)) else (none)) else (none)))) else ((spec_l1Rd_near.f k l q a b).bind fun bt435 => (some (bt435.1, bt435.2))) := by
    intro k
    unfold spec_l1Rd_off.f
    rw [e, Option.bind_some]
  cases c with
  | true =>
    obtain ⟨v, r, e2, v0, v1, hr⟩ := below_f h hq 4 (by omega) (by omega)
    refine ⟨rd [wrap64 (a - 1), wrap64 (b + 1), (-9223372036854775808), 9223372036854775807] v, r, Ev.congr (f := fun _ => some (rd [wrap64 (a - 1), wrap64 (b + 1), (-9223372036854775808), 9223372036854775807] v, r)) (fun k => ?_) (Ev.now _), hr⟩
    rw [hf, if_pos rfl, Option.bind_some, e2, Option.bind_some, if_pos v0, if_pos (by simpa using v1)]
  | false =>
    obtain ⟨v, r, hv, hr⟩ := near_f h hq a b ha hb ha2
    refine ⟨v, r, Ev.congr (fun k => by rw [hf, if_neg (by decide)]) (Ev.bind hv (Ev.now _)), hr⟩
def tiny (x : It) : Prop := x.f1.size ≤ 64 ∧ x.f2.size ≤ 64 ∧ x.f3.length ≤ 8 ∧ ∀ a ∈ x.f3, a.f0.size ≤ 64 ∧ a.f1.size ≤ 64
theorem tiny_small {x : It} (h : tiny x) : smallI x := by
  obtain ⟨h1, h2, h3, h4⟩ := h
  exact ⟨by omega, by omega, by omega, fun a ha => ⟨by have := (h4 a ha).1; omega, by have := (h4 a ha).2; omega⟩⟩
def tinies (l : List It) : Prop := ∀ x ∈ l, tiny x
def G (l : List Int) (B : Nat) (r : List It) (q : Int) : Prop := tinies r ∧ 1 ≤ r.length ∧ r.length ≤ B ∧ St l q
def mk (u : Int) (nm tx : ByteArray) (ats : List At) : It := ⟨u, nm, tx, ats⟩
theorem tinies_app {l : List It} {x : It} (h : tinies l) (hx : tiny x) : tinies (l ++ [x]) := by
  intro y hy
  rcases List.mem_append.1 hy with h1 | h1
  · exact h y h1
  · rw [List.mem_singleton] at h1
    rw [h1]
    exact hx
theorem grow_l1 {l : List Int} (h : Code l) (x1 : List It) (up deep x9 : Int) (nm : ByteArray) (B : Nat)
    (J : ∀ (p : Int) (ats : List At), St l p → ats.length ≤ 3 → (∀ a ∈ ats, a.f0.size ≤ 64 ∧ a.f1.size ≤ 64) → ∃ r q, Ev (fun k => spec_l1Rd_grow.j3 k x1 up deep x9 l p up nm (⟨#[]⟩ : ByteArray) ats) (r, q) ∧ G l B r q) :
    ∀ (m : Nat) (p : Int) (ats : List At), St l p → ats.length + m ≤ 3 → (∀ a ∈ ats, a.f0.size ≤ 64 ∧ a.f1.size ≤ 64) → ∃ r q, Ev (fun k => spec_l1Rd_grow.l1 k x1 up deep x9 (m : Int) l p up nm (⟨#[]⟩ : ByteArray) ats) (r, q) ∧ G l B r q := by
  intro m
  induction m with
  | zero =>
    intro p ats hp hm ha
    have hsm : smallAs ats := ⟨by omega, fun a h => ⟨by have := (ha a h).1; omega, by have := (ha a h).2; omega⟩⟩
    have hat := spec_attrs ats hsm
    cases hv : attrsV ats with
    | true =>
      rw [hv] at hat
      obtain ⟨r, q, he, hg⟩ := J p ats hp (by omega) ha
      refine ⟨r, q, Ev.step (f := fun k => (spec_l2Attrs.f k ats).bind fun t483 => (if t483 = true then (spec_l1Rd_grow.j3 k x1 up deep x9 l p up nm (⟨#[]⟩ : ByteArray) ats) else (if 1 ≤ (ats.length : Int) then (spec_l1Rd_grow.j3 k x1 up deep x9 l p up nm (⟨#[]⟩ : ByteArray) (ats.take (1 : Int).toNat)) else (none)))) (fun k => ?_) (Ev.bind hat he), hg⟩
      conv => lhs; unfold spec_l1Rd_grow.l1
      rw [if_neg (by omega)]
    | false =>
      rw [hv] at hat
      have h1 : 1 ≤ ats.length := by
        rcases Nat.eq_zero_or_pos ats.length with e | e
        · rw [List.length_eq_zero_iff] at e
          rw [e] at hv
          exact absurd hv (by decide)
        · exact e
      obtain ⟨r, q, he, hg⟩ := J p (ats.take (1 : Int).toNat) hp (by rw [List.length_take]; omega) (fun a h => ha a (List.mem_of_mem_take h))
      refine ⟨r, q, Ev.step (f := fun k => (spec_l2Attrs.f k ats).bind fun t483 => (if t483 = true then (spec_l1Rd_grow.j3 k x1 up deep x9 l p up nm (⟨#[]⟩ : ByteArray) ats) else (if 1 ≤ (ats.length : Int) then (spec_l1Rd_grow.j3 k x1 up deep x9 l p up nm (⟨#[]⟩ : ByteArray) (ats.take (1 : Int).toNat)) else (none)))) (fun k => ?_) (Ev.bind hat ?_), hg⟩
      · conv => lhs; unfold spec_l1Rd_grow.l1
        rw [if_neg (by omega)]
      · simp only [Bool.false_eq_true, if_false, if_pos (show (1 : Int) ≤ (ats.length : Int) by omega)]
        exact he
  | succ m ih =>
    intro p ats hp hm ha
    obtain ⟨n, q, e1, hn, hq⟩ := name_f h hp
    obtain ⟨c, q2, e2, hq2⟩ := once_f h hq 4 (by omega) (by omega)
    obtain ⟨t, q3, e3, ht, hq3⟩ := text_f h hq2
    have ew : wrap64 (((m + 1 : Nat) : Int) - 1) = (m : Int) := by rw [w64] <;> omega
    have hadd : ∀ nn : ByteArray, nn.size ≤ 64 → ∀ a ∈ ats ++ [(⟨nn, t⟩ : At)], a.f0.size ≤ 64 ∧ a.f1.size ≤ 64 := by
      intro nn hnn a hm
      rcases List.mem_append.1 hm with h1 | h1
      · exact ha a h1
      · rw [List.mem_singleton] at h1
        subst h1
        exact ⟨hnn, by show t.size ≤ 64; omega⟩
    cases c with
    | true =>
      have hs : ((⟨#[112, 58]⟩ : ByteArray) ++ n).size ≤ 64 := by rw [ByteArray.size_append]; show 2 + n.size ≤ 64; omega
      obtain ⟨r, z, he, hg⟩ := ih q3 (ats ++ [(⟨(⟨#[112, 58]⟩ : ByteArray) ++ n, t⟩ : At)]) hq3 (by simp; omega) (hadd _ hs)
      refine ⟨r, z, Ev.step (fun k => ?_) he, hg⟩
      conv => lhs; unfold spec_l1Rd_grow.l1
      rw [if_pos (by omega), e1, Option.bind_some, e2, Option.bind_some, if_pos rfl, if_pos (by simp only; omega), e3, Option.bind_some, if_pos (by omega), ew]
    | false =>
      obtain ⟨r, z, he, hg⟩ := ih q3 (ats ++ [(⟨n, t⟩ : At)]) hq3 (by simp; omega) (hadd _ (by omega))
      refine ⟨r, z, Ev.step (fun k => ?_) he, hg⟩
      conv => lhs; unfold spec_l1Rd_grow.l1
      rw [if_pos (by omega), e1, Option.bind_some, e2, Option.bind_some, if_neg (by simp), e3, Option.bind_some, if_pos (by omega), ew]
/-- How many items more. -/
def T : Nat → Nat
  | 0 => 3
  | d + 1 => 3 * (1 + T d)
def T' : Nat → Nat
  | 0 => 0
  | d + 1 => T d
theorem T_eq (d : Nat) : T d = 3 * (1 + T' d) := by cases d <;> rfl
theorem grow_l0 {l : List Int} (h : Code l) (up : Int) (d : Nat) (hd100 : d ≤ 100)
    (IH : ∀ d', d = d' + 1 → ∀ (list : List It) (u p : Int), tinies list → 1 ≤ list.length → list.length + T d' ≤ 256 → St l p → ∃ r q, Ev (fun k => spec_l1Rd_grow.f k l p list u (d' : Int)) (r, q) ∧ G l (list.length + T d') r q) :
    ∀ (c : Nat) (list : List It) (p : Int), tinies list → 1 ≤ list.length → list.length + c * (1 + T' d) ≤ 256 → St l p → ∃ r q, Ev (fun k => spec_l1Rd_grow.l0 k list up (d : Int) (c : Int) l p) (r, q) ∧ G l (list.length + c * (1 + T' d)) r q := by
  intro c
  induction c with
  | zero =>
    intro list p ht h1 hb hp
    refine ⟨list, p, Ev.step (f := fun _ => some (list, p)) (fun k => ?_) (Ev.now _), ht, h1, by omega, hp⟩
    conv => lhs; unfold spec_l1Rd_grow.l0
    rw [if_neg (by omega)]
  | succ c ih =>
    intro list p ht h1 hb hp
    rw [Nat.succ_mul] at hb ⊢
    have hcb : c ≤ c * (1 + T' d) := Nat.le_mul_of_pos_right _ (by omega)
    have ew : wrap64 (((c + 1 : Nat) : Int) - 1) = (c : Int) := by rw [w64] <;> omega
    have el : wrap64 ((list.length : Int) - 1) = ((list.length - 1 : Nat) : Int) := by rw [w64] <;> omega
    have hlt : list.length - 1 < list.length := by omega
    generalize hTT : T' d = TT at *
    -- the rest
    have next : ∀ (ls : List It) (q : Int), tinies ls → 1 ≤ ls.length → ls.length ≤ list.length + (1 + TT) → St l q → ∃ r z, Ev (fun k => spec_l1Rd_grow.l0 k ls up (d : Int) (c : Int) l q) (r, z) ∧ G l (list.length + (c * (1 + TT) + (1 + TT))) r z := by
      intro ls q a1 a2 a3 a4
      obtain ⟨r, z, he, g1, g2, g3, g4⟩ := ih ls q a1 a2 (by omega) a4
      exact ⟨r, z, he, g1, g2, by omega, g4⟩
    have hj3 : ∀ (nm : ByteArray), nm.size ≤ 5 → ∀ (q : Int) (ats : List At), St l q → ats.length ≤ 3 → (∀ a ∈ ats, a.f0.size ≤ 64 ∧ a.f1.size ≤ 64) → ∃ r z, Ev (fun k => spec_l1Rd_grow.j3 k list up (d : Int) ((c + 1 : Nat) : Int) l q up nm (⟨#[]⟩ : ByteArray) ats) (r, z) ∧ G l (list.length + (c * (1 + TT) + (1 + TT))) r z := by
      intro nm hnm q ats hq ha1 ha2
      have hx : tiny (⟨up, nm, (⟨#[]⟩ : ByteArray), ats⟩ : It) := ⟨by show nm.size ≤ 64; omega, Nat.zero_le 64, by show ats.length ≤ 8; omega, ha2⟩
      have hT := tinies_app ht hx
      have hlen : (list ++ [(⟨up, nm, (⟨#[]⟩ : ByteArray), ats⟩ : It)]).length = list.length + 1 := by simp
      by_cases cd : (d : Int) > 0
      · obtain ⟨b, q2, e2, hq2⟩ := once_f h hq 2 (by omega) (by omega)
        cases b with
        | true =>
          obtain ⟨d', hd'⟩ : ∃ d', d = d' + 1 := ⟨d - 1, by omega⟩
          have hTd : TT = T d' := by rw [← hTT, hd']; rfl
          obtain ⟨r1, z1, he1, g1, g2, g3, g4⟩ := IH d' hd' (list ++ [(⟨up, nm, (⟨#[]⟩ : ByteArray), ats⟩ : It)]) (list.length : Int) q2 hT (by omega) (by rw [hlen, ← hTd]; omega) hq2
          obtain ⟨r, z, he, hg⟩ := next r1 z1 g1 g2 (by rw [hlen, ← hTd] at g3; omega) g4
          have ed : wrap64 ((d : Int) - 1) = (d' : Int) := by rw [w64] <;> omega
          refine ⟨r, z, Ev.step (f := fun k => (spec_l1Rd_grow.f k l q2 (list ++ [(⟨up, nm, (⟨#[]⟩ : ByteArray), ats⟩ : It)]) (list.length : Int) (d' : Int)).bind fun bt => (spec_l1Rd_grow.l0 k bt.1 up (d : Int) (c : Int) l bt.2)) (fun k => ?_) (Ev.bind he1 he), hg⟩
          conv => lhs; unfold spec_l1Rd_grow.j3
          rw [if_pos (by omega), Option.bind_some, if_pos cd, e2, Option.bind_some, if_pos rfl, ed, ew]
        | false =>
          obtain ⟨r, z, he, hg⟩ := next _ q2 hT (by omega) (by omega) hq2
          refine ⟨r, z, Ev.step (fun k => ?_) he, hg⟩
          conv => lhs; unfold spec_l1Rd_grow.j3
          rw [if_pos (by omega), Option.bind_some, if_pos cd, e2, Option.bind_some, if_neg (by simp), ew]
      · obtain ⟨r, z, he, hg⟩ := next _ q hT (by omega) (by omega) hq
        refine ⟨r, z, Ev.step (fun k => ?_) he, hg⟩
        conv => lhs; unfold spec_l1Rd_grow.j3
        rw [if_pos (by omega), Option.bind_some, if_neg cd, ew]
    have hj1 : ∀ (b : Bool) (q : Int), St l q → ∃ r z, Ev (fun k => spec_l1Rd_grow.j1 k list up (d : Int) ((c + 1 : Nat) : Int) b l q) (r, z) ∧ G l (list.length + (c * (1 + TT) + (1 + TT))) r z := by
      intro b q hq
      cases b with
      | true =>
        obtain ⟨s, q2, e2, hs, hq2⟩ := text_f h hq
        by_cases cs : s.toList = ([] : List UInt8)
        · obtain ⟨r, z, he, hg⟩ := next list q2 ht h1 (by omega) hq2
          refine ⟨r, z, Ev.step (fun k => ?_) he, hg⟩
          conv => lhs; unfold spec_l1Rd_grow.j1
          rw [if_pos rfl, e2, Option.bind_some, if_pos cs, ew]
        · have hx : tiny (⟨up, (⟨#[]⟩ : ByteArray), s, ([] : List At)⟩ : It) := ⟨Nat.zero_le 64, by show s.size ≤ 64; omega, by simp, by simp⟩
          obtain ⟨r, z, he, hg⟩ := next _ q2 (tinies_app ht hx) (by simp) (by simp <;> omega) hq2
          refine ⟨r, z, Ev.step (fun k => ?_) he, hg⟩
          conv => lhs; unfold spec_l1Rd_grow.j1
          rw [if_pos rfl, e2, Option.bind_some, if_neg cs, if_pos (by omega), ew]
      | false =>
        obtain ⟨n, q2, e2, hn, hq2⟩ := name_f h hq
        obtain ⟨m, q3, e3, m0, m1, hq3⟩ := below_f h hq2 3 (by omega) (by omega)
        obtain ⟨r, z, he, hg⟩ := grow_l1 h list up (d : Int) ((c + 1 : Nat) : Int) n (list.length + (c * (1 + TT) + (1 + TT))) (hj3 n hn) m.toNat q3 [] hq3 (by simp; omega) (by simp)
        rw [show ((m.toNat : Nat) : Int) = m by omega] at he
        refine ⟨r, z, Ev.step (fun k => ?_) he, hg⟩
        conv => lhs; unfold spec_l1Rd_grow.j1
        rw [if_neg (by simp), e2, Option.bind_some, e3, Option.bind_some]
    obtain ⟨b, q, e, hq⟩ := once_f h hp 3 (by omega) (by omega)
    cases b with
    | false =>
      obtain ⟨r, z, he, hg⟩ := hj1 false q hq
      refine ⟨r, z, Ev.step (fun k => ?_) he, hg⟩
      conv => lhs; unfold spec_l1Rd_grow.l0
      rw [if_pos (by omega), el, if_pos (by omega), if_pos (by omega), e, Option.bind_some, if_neg (by simp)]
    | true =>
      by_cases cn : list[list.length - 1].f1.toList = ([] : List UInt8)
      · obtain ⟨r, z, he, hg⟩ := hj1 (!(list[list.length - 1].f0 == up)) q hq
        refine ⟨r, z, Ev.step (fun k => ?_) he, hg⟩
        conv => lhs; unfold spec_l1Rd_grow.l0
        rw [if_pos (by omega), el, if_pos (by omega), if_pos (by omega), e, Option.bind_some, if_pos rfl, rdIt list _ hlt, if_pos cn]
      · obtain ⟨r, z, he, hg⟩ := hj1 (!false) q hq
        refine ⟨r, z, Ev.step (fun k => ?_) he, hg⟩
        conv => lhs; unfold spec_l1Rd_grow.l0
        rw [if_pos (by omega), el, if_pos (by omega), if_pos (by omega), e, Option.bind_some, if_pos rfl, rdIt list _ hlt, if_neg cn]
theorem grow_ev {l : List Int} (h : Code l) : ∀ (d : Nat), d ≤ 100 → ∀ (list : List It) (u p : Int), tinies list → 1 ≤ list.length → list.length + T d ≤ 256 → St l p → ∃ r q, Ev (fun k => spec_l1Rd_grow.f k l p list u (d : Int)) (r, q) ∧ G l (list.length + T d) r q := by
  intro d
  induction d with
  | zero =>
    intro hd100 list u p ht h1 hb hp
    obtain ⟨c, q, e, c0, c1, hq⟩ := below_f h hp 4 (by omega) (by omega)
    have hT := T_eq 0
    obtain ⟨r, z, he, g1, g2, g3, g4⟩ := grow_l0 h u 0 (by omega) (fun d' hd => by omega) c.toNat list q ht h1 (by rw [hT] at hb; have : c.toNat * (1 + T' 0) ≤ 3 * (1 + T' 0) := Nat.mul_le_mul_right _ (by omega); omega) hq
    rw [show ((c.toNat : Nat) : Int) = c by omega] at he
    refine ⟨r, z, Ev.step (fun k => ?_) he, g1, g2, by rw [hT]; have : c.toNat * (1 + T' 0) ≤ 3 * (1 + T' 0) := Nat.mul_le_mul_right _ (by omega); omega, g4⟩
    conv => lhs; unfold spec_l1Rd_grow.f
    rw [e, Option.bind_some]
  | succ d ihd =>
    intro hd100 list u p ht h1 hb hp
    obtain ⟨c, q, e, c0, c1, hq⟩ := below_f h hp 4 (by omega) (by omega)
    have hT := T_eq (d + 1)
    obtain ⟨r, z, he, g1, g2, g3, g4⟩ := grow_l0 h u (d + 1) hd100 (fun d' hd => by obtain rfl : d = d' := (by omega); exact ihd (by omega)) c.toNat list q ht h1 (by rw [hT] at hb; have : c.toNat * (1 + T' (d + 1)) ≤ 3 * (1 + T' (d + 1)) := Nat.mul_le_mul_right _ (by omega); omega) hq
    rw [show ((c.toNat : Nat) : Int) = c by omega] at he
    refine ⟨r, z, Ev.step (fun k => ?_) he, g1, g2, by rw [hT]; have : c.toNat * (1 + T' (d + 1)) ≤ 3 * (1 + T' (d + 1)) := Nat.mul_le_mul_right _ (by omega); omega, g4⟩
    conv => lhs; unfold spec_l1Rd_grow.f
    rw [e, Option.bind_some]
end Go.Proofs.YtpmjpbaeecnpiaaDoor.Pure

namespace Go.Proofs.YtpmjpbaeecnpiaaDoor.Pure
open Go.RowKit Go.Proofs.YtpmjpbaeecnpiaaDoor.L Go.Proofs.YtpmjpbaeecnpiaaDoorW.PrintWords Go.Proofs.YtpmjpbaeecnpiaaDoorW.PrintLast Go.Proofs.YtpmjpbaeecnpiaaDoorW.PrintMore
open DT
set_option linter.unusedVariables false
set_option linter.unusedSimpArgs false

/-! rows of places -/
def upTo (l : List It) (n : Int) (m : Nat) : List Nat := (List.range m).filter fun j => decide (upV l j = n)
def ints (L : List Nat) : List Int := L.map Int.ofNat
theorem filt_succ (p : Nat → Bool) (m : Nat) : (List.range (m + 1)).filter p = (List.range m).filter p ++ (if p m = true then [m] else []) := by
  rw [List.range_succ, List.filter_append]
  congr 1
  by_cases c : p m = true
  · simp [c]
  · simp [c]
theorem upTo_succ (l : List It) (n : Int) (m : Nat) : upTo l n (m + 1) = upTo l n m ++ (if upV l m = n then [m] else []) := by
  unfold upTo
  rw [filt_succ]
  simp only [decide_eq_true_eq]
theorem upTo_len (l : List It) (n : Int) (m : Nat) : (upTo l n m).length ≤ m := by
  have := List.length_filter_le (fun j => decide (upV l j = n)) (List.range m)
  rw [List.length_range] at this
  exact this
theorem upTo_zero {l : List It} (V : Val (upV l) (elV l) l.length) {n : Nat} (hn : n < l.length) : ∀ m, m ≤ n + 1 → upTo l (n : Int) m = []
  | 0, _ => rfl
  | m + 1, h => by
    rw [upTo_succ, upTo_zero V hn m (by omega), if_neg, List.append_nil]
    intro e
    by_cases c : m = 0
    · have := (V.1 (by omega)).1
      rw [c, this] at e
      omega
    · obtain ⟨q1, q2, q3⟩ := V.2 m (by omega) (by omega)
      omega
theorem ints_len (L : List Nat) : (ints L).length = L.length := by unfold ints; rw [List.length_map]
theorem ints_app (A B : List Nat) : ints (A ++ B) = ints A ++ ints B := by unfold ints; rw [List.map_append]
/-- The kids of an item. -/
def kidsV (l : List It) (n : Int) : List Int := if docV l = true ∧ 0 ≤ n ∧ n < l.length then ints (upTo l n l.length) else []

/-! the program's own way -/
def tabK (l : List It) (m : Nat) : List (List Int) := (List.range l.length).map fun (i : Nat) => ints (upTo l (i : Int) m)
theorem tabK_len (l : List It) (m : Nat) : (tabK l m).length = l.length := by unfold tabK; simp
theorem tabK_at (l : List It) (m : Nat) {i : Nat} (h : i < l.length) : rd_L6 (tabK l m) (i : Int) = ints (upTo l (i : Int) m) := by
  unfold rd_L6 tabK
  rw [List.getD_eq_getElem?_getD, Int.toNat_natCast, List.getElem?_map, List.getElem?_range h]
  rfl
theorem tabK_get (l : List It) (m i : Nat) (h : i < (tabK l m).length) : (tabK l m)[i] = ints (upTo l (i : Int) m) := by simp [tabK]
theorem tabK_set {l : List It} {m u : Nat} (hu : u < l.length) (e : upV l m = (u : Int)) : (tabK l m).set u (ints (upTo l (u : Int) m) ++ [(m : Int)]) = tabK l (m + 1) := by
  apply List.ext_getElem
  · rw [List.length_set, tabK_len, tabK_len]
  · intro i h1 h2
    rw [List.length_set, tabK_len] at h1
    rw [List.getElem_set, tabK_get, tabK_get]
    by_cases c : u = i
    · rw [if_pos c, ← c, upTo_succ, if_pos e, ints_app]
      rfl
    · rw [if_neg c, upTo_succ, if_neg (by omega), List.append_nil]
theorem tabK_keep {l : List It} {m : Nat} (e : upV l m < 0) : tabK l (m + 1) = tabK l m := by
  unfold tabK
  apply List.map_congr_left
  intro i _
  rw [upTo_succ, if_neg (by omega), List.append_nil]
theorem impl_below_l0 {l : List It} (V : Val (upV l) (elV l) l.length) (hl : l.length ≤ 200) : ∀ (n m : Nat), m + n = l.length → Ev (fun k => impl_below.l0 k (tabK l m) l (l.length : Int) (m : Int)) (tabK l l.length) := by
  intro n
  induction n with
  | zero =>
    intro m hm
    have e : m = l.length := by omega
    subst e
    refine Ev.step (f := fun _ => some (tabK l l.length)) (fun k => ?_) (Ev.now _)
    conv => lhs; unfold impl_below.l0
    rw [if_neg (by omega)]
  | succ n ih =>
    intro m hm
    have hlt : m < l.length := by omega
    have hu := upV_at hlt
    have hs : wrap64 ((m : Int) + 1) = ((m + 1 : Nat) : Int) := w1n hlt (by omega)
    by_cases c : l[m].f0 ≥ 0
    · have hm0 : 0 < m := by
        rcases Nat.eq_zero_or_pos m with e | e
        · have := (V.1 (by omega)).1
          rw [← e, hu] at this
          omega
        · exact e
      obtain ⟨q1, q2, q3⟩ := V.2 m hm0 hlt
      have e : upV l m = (((upV l m).toNat : Nat) : Int) := by omega
      have hul : (upV l m).toNat < l.length := by omega
      have e0 : l[m].f0 = (((upV l m).toNat : Nat) : Int) := by rw [← hu]; exact e
      have hlen : (ints (upTo l (((upV l m).toNat : Nat) : Int) m)).length < 17592186044416 := by
        rw [ints_len]
        have := upTo_len l (((upV l m).toNat : Nat) : Int) m
        omega
      have hn := ih (m + 1) (by omega)
      rw [← tabK_set hul e] at hn
      refine Ev.step (fun k => ?_) hn
      conv => lhs; unfold impl_below.l0
      rw [if_pos (by omega), if_pos (by omega), if_pos (by omega), rdIt l m hlt, if_pos c, e0, if_pos (by omega), if_pos (by rw [tabK_len]; omega), tabK_at l m hul, if_pos hlen, hs, Int.toNat_natCast]
    · have hn := ih (m + 1) (by omega)
      rw [tabK_keep (by rw [hu]; omega)] at hn
      refine Ev.step (fun k => ?_) hn
      conv => lhs; unfold impl_below.l0
      rw [if_pos (by omega), if_pos (by omega), if_pos (by omega), rdIt l m hlt, if_neg c, hs]
theorem impl_below_ev {l : List It} (V : Val (upV l) (elV l) l.length) (hl : l.length ≤ 200) : Ev (fun k => impl_below.f k l) (tabK l l.length) := by
  have h0 : tabK l 0 = List.replicate ((l.length : Int)).toNat [] := by
    unfold tabK
    rw [Int.toNat_natCast]
    apply List.ext_getElem
    · simp
    · intro i h1 h2
      simp [upTo, ints]
  have := impl_below_l0 V hl l.length 0 (by omega)
  rw [h0] at this
  refine Ev.congr (fun k => ?_) this
  unfold impl_below.f
  rw [if_pos (by omega), if_pos (by omega)]
  rfl
def hasV (l : List It) (n : Int) : Bool := decide (docV l = true ∧ 0 ≤ n ∧ n < l.length)
theorem in_doc {l : List It} (h : docV l = true) (n : Int) : inZ n 0 (wrap64 ((l.length : Int) - 1)) = hasV l n := by
  have hv := doc_val h
  have ew : wrap64 ((l.length : Int) - 1) = ((l.length - 1 : Nat) : Int) := by rw [w64] <;> omega
  rw [ew, Bool.eq_iff_iff]
  unfold inZ hasV
  simp only [Bool.and_eq_true, decide_eq_true_eq, h, true_and]
  omega
theorem impl_has_ev (l : List It) (n : Int) (hsm : smallD l) (hl : l.length ≤ 1048576) : Ev (fun k => impl_has.f k l n) (hasV l n) := by
  have hdoc := impl_doc l hsm hl
  refine Ev.congr (f := fun k => (impl_DocOk.f k l).bind fun t326 => (if t326 = true then ((impl_in.f n 0 (wrap64 ((l.length : Int) - 1))).bind fun t327 => (some t327)) else (some false))) (fun k => rfl) (Ev.bind hdoc ?_)
  cases hd : docV l with
  | false =>
    have e : hasV l n = false := by unfold hasV; rw [hd]; simp
    simp only [Bool.false_eq_true, if_false, e]
    exact Ev.now _
  | true =>
    simp only [if_true, impl_in', Option.bind_some, in_doc hd]
    exact Ev.now _
theorem impl_kids_ev (l : List It) (n : Int) (hsm : smallD l) (hl : l.length ≤ 1048576) : Ev (fun k => impl_KidsOf.f k l n) (kidsV l n) := by
  refine Ev.congr (f := fun k => (impl_has.f k l n).bind fun t602 => (if t602 = true then ((impl_below.f k l).bind fun t603 => (if 0 ≤ n then (if n < (t603.length : Int) then (if ([] : List Int).length + (rd_L6 t603 n).length < 17592186044416 then (some (([] : List Int) ++ (rd_L6 t603 n))) else (none)) else (none)) else (none))) else (some ([] : List Int)))) (fun k => rfl) (Ev.bind (impl_has_ev l n hsm hl) ?_)
  by_cases c : docV l = true ∧ 0 ≤ n ∧ n < l.length
  · have e : hasV l n = true := decide_eq_true c
    obtain ⟨_, h2, V⟩ := doc_val c.1
    obtain ⟨t, rfl⟩ : ∃ t : Nat, n = (t : Int) := ⟨n.toNat, by omega⟩
    have ht : t < l.length := by omega
    simp only [e, if_true]
    refine Ev.bind (impl_below_ev V h2) ?_
    have hlen := upTo_len l (t : Int) l.length
    have e3 : ([] : List Int).length + (ints (upTo l (t : Int) l.length)).length < 17592186044416 := by rw [ints_len, List.length_nil]; omega
    simp only [if_pos c.2.1, tabK_len, if_pos c.2.2, tabK_at l l.length ht, if_pos e3, List.nil_append]
    unfold kidsV
    rw [if_pos c]
    exact Ev.now _
  · have e : hasV l n = false := decide_eq_false c
    simp only [e, Bool.false_eq_true, if_false]
    unfold kidsV
    rw [if_neg c]
    exact Ev.now _

/-! the reference's way -/
theorem spec_kd_l0 {l : List It} (hl : l.length ≤ 200) (t : Nat) : ∀ (n m : Nat), m + n = l.length → Ev (fun k => spec_l2Kids.l0 k l (t : Int) (ints (upTo l (t : Int) m)) (m : Int)) (ints (upTo l (t : Int) l.length)) := by
  intro n
  induction n with
  | zero =>
    intro m hm
    have e : m = l.length := by omega
    subst e
    refine Ev.step (f := fun _ => some (ints (upTo l (t : Int) l.length))) (fun k => ?_) (Ev.now _)
    conv => lhs; unfold spec_l2Kids.l0
    rw [if_neg (by omega)]
  | succ n ih =>
    intro m hm
    have hlt : m < l.length := by omega
    have hn := ih (m + 1) (by omega)
    rw [upTo_succ, upV_at hlt] at hn
    have hlen : (ints (upTo l (t : Int) m)).length < 17592186044416 := by
      rw [ints_len]
      have := upTo_len l (t : Int) m
      omega
    refine Ev.step (fun k => ?_) hn
    conv => lhs; unfold spec_l2Kids.l0
    rw [if_pos (by omega), if_pos (by omega), rdIt l m hlt, w1n hlt (by omega)]
    by_cases c : l[m].f0 = (t : Int)
    · rw [if_pos c, if_pos c, if_pos hlen, ints_app]
      rfl
    · rw [if_neg c, if_neg c, List.append_nil]
theorem spec_l2kids_ev {l : List It} (V : Val (upV l) (elV l) l.length) (hl : l.length ≤ 200) {t : Nat} (ht : t < l.length) : Ev (fun k => spec_l2Kids.f k l (t : Int)) (ints (upTo l (t : Int) l.length)) := by
  have := spec_kd_l0 hl t (l.length - (t + 1)) (t + 1) (by omega)
  rw [upTo_zero V ht (t + 1) (Nat.le_refl _)] at this
  refine Ev.congr (fun k => ?_) this
  unfold spec_l2Kids.f
  rw [w1n ht (by omega)]
  rfl
theorem spec_kids_ev (l : List It) (n : Int) (hsm : smallD l) (hl : l.length ≤ 1048576) : Ev (fun k => spec_KidsOf.f k l n) (kidsV l n) := by
  have hdoc := spec_doc l hsm hl
  refine Ev.congr (f := fun k => (spec_DocOk.f k l).bind fun t622 => (if t622 = true then ((spec_l1In.f n 0 (wrap64 ((l.length : Int) - 1))).bind fun t623 => (if t623 = true then ((spec_l2Kids.f k l n).bind fun t624 => (some t624)) else (some (([] : List Int))))) else (some (([] : List Int))))) (fun k => rfl) (Ev.bind hdoc ?_)
  cases hd : docV l with
  | false =>
    simp only [Bool.false_eq_true, if_false]
    unfold kidsV
    rw [hd, if_neg (by simp)]
    exact Ev.now _
  | true =>
    simp only [if_true, spec_in', Option.bind_some, in_doc hd]
    by_cases c : docV l = true ∧ 0 ≤ n ∧ n < l.length
    · have e : hasV l n = true := decide_eq_true c
      obtain ⟨_, h2, V⟩ := doc_val c.1
      obtain ⟨t, rfl⟩ : ∃ t : Nat, n = (t : Int) := ⟨n.toNat, by omega⟩
      simp only [e, if_true]
      unfold kidsV
      rw [if_pos c]
      exact Ev.bind (spec_l2kids_ev V h2 (by omega)) (Ev.now _)
    · have e : hasV l n = false := decide_eq_false c
      simp only [e, Bool.false_eq_true, if_false]
      unfold kidsV
      rw [if_neg c]
      exact Ev.now _

/-! texts -/
def txk (l : List It) (j : Nat) : List UInt8 := match l[j]? with | some x => x.f2.data.toList | none => []
theorem txk_at {l : List It} {j : Nat} (h : j < l.length) : txk l j = l[j].f2.data.toList := by
  unfold txk; rw [List.getElem?_eq_getElem h]
theorem txt_kids (l : List It) (n : Int) : ∀ m, m ≤ l.length → txtV (l.take m) n = (upTo l n m).flatMap (txk l)
  | 0, _ => by simp [txtV, upTo]
  | m + 1, h => by
    have hlt : m < l.length := by omega
    rw [txt_next hlt, txt_kids l n m (by omega), upTo_succ, List.flatMap_append, rdIt l m hlt, upV_at hlt]
    congr 1
    by_cases c : l[m].f0 = n
    · rw [if_pos c, if_pos c]
      simp [txk_at hlt]
    · rw [if_neg c, if_neg c]
      rfl
theorem txt_all (l : List It) (n : Int) : txtV l n = (upTo l n l.length).flatMap (txk l) := by
  have := txt_kids l n l.length (Nat.le_refl _)
  rwa [List.take_length] at this
theorem fm_len {l : List It} (ht : tinies l) : ∀ (L : List Nat), (L.flatMap (txk l)).length ≤ 64 * L.length
  | [] => by simp
  | j :: L => by
    rw [List.flatMap_cons, List.length_append, List.length_cons]
    have h1 := fm_len ht L
    have h2 : (txk l j).length ≤ 64 := by
      by_cases c : j < l.length
      · rw [txk_at c, ← sz]
        exact (ht _ (List.getElem_mem c)).2.1
      · unfold txk
        rw [List.getElem?_eq_none (by omega)]
        simp
    omega
/-- The text of an element, and whether it is one. -/
def ownTextV (l : List It) (n : Int) : ByteArray × Bool := if docV l = true ∧ 0 ≤ n ∧ n < l.length ∧ elV l n.toNat = true then (mkB (txtV l n), true) else (⟨#[]⟩, false)
theorem txtV_small {l : List It} (ht : tinies l) (hl : l.length ≤ 200) (n : Int) : (txtV l n).length ≤ 12800 := by
  rw [txt_all]
  have h1 := fm_len ht (upTo l n l.length)
  have h2 := upTo_len l n l.length
  omega
theorem impl_textOf_ev (l : List It) (n : Int) (ht : tinies l) (hl : l.length ≤ 200) : Ev (fun k => impl_TextOf.f k l n) (ownTextV l n) := by
  have hsm : smallD l := fun x hx => tiny_small (ht x hx)
  refine Ev.congr (f := fun k => (impl_has.f k l n).bind fun t610 => (if t610 = true then (if 0 ≤ n then (if n < (l.length : Int) then (if ((rd_T39 l n).f1).toList = ([] : List UInt8) then (some ((⟨#[]⟩ : ByteArray), false)) else ((impl_textBelow.f l n).bind fun t612 => (some (t612, true)))) else (none)) else (none)) else (some ((⟨#[]⟩ : ByteArray), false)))) (fun k => rfl) (Ev.bind (impl_has_ev l n hsm (by omega)) ?_)
  by_cases c : docV l = true ∧ 0 ≤ n ∧ n < l.length
  · have e : hasV l n = true := decide_eq_true c
    obtain ⟨t, rfl⟩ : ∃ t : Nat, n = (t : Int) := ⟨n.toNat, by omega⟩
    have htl : t < l.length := by omega
    simp only [e, if_true, if_pos c.2.1, if_pos c.2.2, rdIt l t htl]
    cases he : elV l t with
    | false =>
      have e1 : ownTextV l (t : Int) = (⟨#[]⟩, false) := by unfold ownTextV; rw [if_neg (by rw [Int.toNat_natCast, he]; simp)]
      rw [e1]
      simp only [if_pos ((el_no htl).1 he)]
      exact Ev.now _
    | true =>
      have e1 : ownTextV l (t : Int) = (mkB (txtV l (t : Int)), true) := by unfold ownTextV; rw [if_pos ⟨c.1, c.2.1, c.2.2, by rw [Int.toNat_natCast]; exact he⟩]
      rw [e1]
      have hs := txtV_small ht hl (t : Int)
      have hf : impl_textBelow.f l (t : Int) = some (mkB (txtV l (t : Int))) := by
        unfold impl_textBelow.f
        rw [if_pos (by omega)]
        rfl
      simp only [if_neg ((el_yes htl).1 he), hf, Option.bind_some]
      exact Ev.now _
  · have e : hasV l n = false := decide_eq_false c
    simp only [e, Bool.false_eq_true, if_false]
    have e1 : ownTextV l n = (⟨#[]⟩, false) := by unfold ownTextV; rw [if_neg (fun h => c ⟨h.1, h.2.1, h.2.2.1⟩)]
    rw [e1]
    exact Ev.now _
theorem rdI (L : List Nat) (i : Nat) (h : i < L.length) : rd (ints L) (i : Int) = (L[i] : Int) := by
  have h2 : i < (L.map Int.ofNat).length := by rw [List.length_map]; exact h
  show rd (L.map Int.ofNat) (i : Int) = (L[i] : Int)
  rw [rdZ (L.map Int.ofNat) i h2, List.getElem_map]
  rfl
theorem spec_bt_l0 {l : List It} (ht : tinies l) (hl : l.length ≤ 200) (L : List Nat) (hL : L.length ≤ 200) (hin : ∀ j ∈ L, j < l.length) : ∀ (n i : Nat) (A : List UInt8), i + n = L.length → A.length ≤ 64 * i → Ev (fun k => spec_l2Text.l0 k l (mkB A) (ints L) (i : Int)) (mkB (A ++ (L.drop i).flatMap (txk l))) := by
  intro n
  induction n with
  | zero =>
    intro i A hi hA
    rw [List.drop_eq_nil_of_le (by omega)]
    simp only [List.flatMap_nil, List.append_nil]
    refine Ev.step (f := fun _ => some (mkB A)) (fun k => ?_) (Ev.now _)
    conv => lhs; unfold spec_l2Text.l0
    rw [if_neg (by rw [ints_len]; omega)]
  | succ n ih =>
    intro i A hi hA
    have hlt : i < L.length := by omega
    have hj := hin _ (List.getElem_mem hlt)
    have h64 : (l[L[i]].f2).size ≤ 64 := (ht _ (List.getElem_mem hj)).2.1
    have hb : mkB A ++ l[L[i]].f2 = mkB (A ++ txk l L[i]) := by
      apply ba_ext
      rw [mkB_list, txk_at hj]
      simp [mkB_list]
    have hn := ih (i + 1) (A ++ txk l L[i]) (by omega) (by rw [List.length_append, txk_at hj, ← sz]; omega)
    rw [List.append_assoc, ← List.flatMap_cons, ← List.drop_eq_getElem_cons hlt] at hn
    refine Ev.step (fun k => ?_) hn
    have hsz : (mkB A).size = A.length := by rw [sz, mkB_list]
    conv => lhs; unfold spec_l2Text.l0
    rw [if_pos (by rw [ints_len]; omega), if_pos (by omega), rdI L i hlt, if_pos (by omega), if_pos (by omega), rdIt l L[i] hj, if_pos (by omega), hb, w1n hlt (by omega)]
theorem upTo_in {l : List It} {n : Int} {m : Nat} : ∀ j ∈ upTo l n m, j < m ∧ upV l j = n := by
  intro j hj
  unfold upTo at hj
  rw [List.mem_filter, List.mem_range, decide_eq_true_eq] at hj
  exact hj
theorem spec_textOf_ev (l : List It) (n : Int) (ht : tinies l) (hl : l.length ≤ 200) : Ev (fun k => spec_TextOf.f k l n) (ownTextV l n) := by
  have hsm : smallD l := fun x hx => tiny_small (ht x hx)
  have hdoc := spec_doc l hsm (by omega)
  refine Ev.congr (f := fun k => (spec_DocOk.f k l).bind fun t618 => (if t618 = true then ((spec_l1In.f n 0 (wrap64 ((l.length : Int) - 1))).bind fun t619 => (if t619 = true then (if 0 ≤ n then (if n < (l.length : Int) then (if ((rd_T39 l n).f1).toList = ([] : List UInt8) then (some ((⟨#[]⟩ : ByteArray), false)) else ((spec_l2Text.f k l n).bind fun t621 => (some (t621, true)))) else (none)) else (none)) else (some ((⟨#[]⟩ : ByteArray), false)))) else (some ((⟨#[]⟩ : ByteArray), false)))) (fun k => rfl) (Ev.bind hdoc ?_)
  cases hd : docV l with
  | false =>
    simp only [Bool.false_eq_true, if_false]
    unfold ownTextV
    rw [hd, if_neg (by simp)]
    exact Ev.now _
  | true =>
    simp only [if_true, spec_in', Option.bind_some, in_doc hd]
    by_cases c : docV l = true ∧ 0 ≤ n ∧ n < l.length
    · have e : hasV l n = true := decide_eq_true c
      obtain ⟨_, h2, V⟩ := doc_val c.1
      obtain ⟨t, rfl⟩ : ∃ t : Nat, n = (t : Int) := ⟨n.toNat, by omega⟩
      have htl : t < l.length := by omega
      simp only [e, if_true, if_pos c.2.1, if_pos c.2.2, rdIt l t htl]
      cases he : elV l t with
      | false =>
        have e1 : ownTextV l (t : Int) = (⟨#[]⟩, false) := by unfold ownTextV; rw [if_neg (by rw [Int.toNat_natCast, he]; simp)]
        rw [e1]
        simp only [if_pos ((el_no htl).1 he)]
        exact Ev.now _
      | true =>
        have e1 : ownTextV l (t : Int) = (mkB (txtV l (t : Int)), true) := by unfold ownTextV; rw [if_pos ⟨c.1, c.2.1, c.2.2, by rw [Int.toNat_natCast]; exact he⟩]
        rw [e1]
        simp only [if_neg ((el_yes htl).1 he)]
        have hk := spec_l2kids_ev V h2 htl
        have hu := upTo_len l (t : Int) l.length
        have hx := spec_bt_l0 ht hl (upTo l (t : Int) l.length) (by omega) (fun j hj => (upTo_in j hj).1) (upTo l (t : Int) l.length).length 0 [] (by omega) (by simp)
        rw [List.drop_zero, List.nil_append, ← txt_all] at hx
        exact Ev.bind (g := fun k => spec_l2Text.f k l (t : Int)) (Ev.congr (f := fun k => (spec_l2Kids.f k l (t : Int)).bind fun t613 => (spec_l2Text.l0 k l (⟨#[]⟩ : ByteArray) t613 0)) (fun k => rfl) (Ev.bind hk hx)) (Ev.now _)
    · have e : hasV l n = false := decide_eq_false c
      simp only [e, Bool.false_eq_true, if_false]
      have e1 : ownTextV l n = (⟨#[]⟩, false) := by unfold ownTextV; rw [if_neg (fun h => c ⟨h.1, h.2.1, h.2.2.1⟩)]
      rw [e1]
      exact Ev.now _
end Go.Proofs.YtpmjpbaeecnpiaaDoor.Pure

namespace Go.Proofs.YtpmjpbaeecnpiaaDoor.Pure
open Go.RowKit Go.Proofs.YtpmjpbaeecnpiaaDoor.L Go.Proofs.YtpmjpbaeecnpiaaDoorW.PrintWords Go.Proofs.YtpmjpbaeecnpiaaDoorW.PrintLast Go.Proofs.YtpmjpbaeecnpiaaDoorW.PrintMore
set_option linter.unusedVariables false
set_option linter.unusedSimpArgs false

theorem tinies_set {l : List It} {x : It} (i : Nat) (h : tinies l) (hx : tiny x) : tinies (l.set i x) := by
  intro y hy
  rcases List.mem_or_eq_of_mem_set hy with h1 | h1
  · exact h y h1
  · rw [h1]; exact hx
theorem doc_ev {l : List Int} (h : Code l) (p : Int) (hp : St l p) : ∃ r q, Ev (fun k => spec_l1Rd_doc.f k l p) (r, q) ∧ G l 64 r q := by
  obtain ⟨n, q, e1, hn, hq⟩ := name_f h hp
  obtain ⟨r, q2, he, g1, g2, g3, g4⟩ := grow_ev h 2 (by omega) [(⟨(-1), n, (⟨#[]⟩ : ByteArray), ([] : List At)⟩ : It)] 0 q (by
    intro x hx
    rw [List.mem_singleton] at hx
    subst hx
    exact ⟨by show n.size ≤ 64; omega, Nat.zero_le 64, by simp, by simp⟩) (by simp) (show 1 + 39 ≤ 256 by omega) hq
  have g3 : r.length ≤ 40 := g3
  obtain ⟨b, q3, e3, hq3⟩ := once_f h g4 24 (by omega) (by omega)
  have hd : ∀ k, spec_l1Rd_doc.f k l p = (spec_l1Rd_grow.f k l q [(⟨(-1), n, (⟨#[]⟩ : ByteArray), ([] : List At)⟩ : It)] 0 2).bind fun bt501 => ((spec_l1Rd_once.f l bt501.2 24).bind fun bt505 => (if bt505.1 = true then ((spec_l1Rd_below.f l bt505.2 (bt501.1.length : Int)).bind fun bt507 => ((spec_l1Rd_below.f l bt507.2 3).bind fun bt509 => (if bt509.1 = 0 then ((spec_l1Rd_off.f k l bt509.2 (-1) bt507.1).bind fun bt511 => (if 0 ≤ bt507.1 then (if bt507.1 < (bt501.1.length : Int) then (some ((bt501.1.set (bt507.1 : Int).toNat (⟨bt511.1, (rd_T39 bt501.1 bt507.1).f1, (rd_T39 bt501.1 bt507.1).f2, (rd_T39 bt501.1 bt507.1).f3⟩ : It)), bt511.2)) else (none)) else (none))) else (if bt509.1 = 1 then ((spec_l1Rd_text.f l bt509.2).bind fun bt514 => (if 0 ≤ bt507.1 then (if bt507.1 < (bt501.1.length : Int) then (some ((bt501.1.set (bt507.1 : Int).toNat (⟨(rd_T39 bt501.1 bt507.1).f0, (rd_T39 bt501.1 bt507.1).f1, bt514.1, (rd_T39 bt501.1 bt507.1).f3⟩ : It)), bt514.2)) else (none)) else (none))) else (if bt509.1 = 2 then ((spec_l1Rd_text.f l bt509.2).bind fun bt517 => (if 0 ≤ bt507.1 then (if bt507.1 < (bt501.1.length : Int) then (some ((bt501.1.set (bt507.1 : Int).toNat (⟨(rd_T39 bt501.1 bt507.1).f0, bt517.1, (rd_T39 bt501.1 bt507.1).f2, (rd_T39 bt501.1 bt507.1).f3⟩ : It)), bt517.2)) else (none)) else (none))) else (some (bt501.1, bt509.2))))))) else (some (bt501.1, bt505.2)))) := by
    intro k
    unfold spec_l1Rd_doc.f
    rw [e1, Option.bind_some]
  cases b with
  | false =>
    refine ⟨r, q3, Ev.congr hd (Ev.bind he ?_), g1, g2, by omega, hq3⟩
    simp only [e3, Option.bind_some, Bool.false_eq_true, if_false]
    exact Ev.now _
  | true =>
    obtain ⟨i, q4, e4, i0, i1, hq4⟩ := below_f h hq3 (r.length : Int) (by omega) (by omega)
    obtain ⟨v, q5, e5, v0, v1, hq5⟩ := below_f h hq4 3 (by omega) (by omega)
    have hlt : i.toNat < r.length := by omega
    have er : rd_T39 r i = r[i.toNat] := by
      have := rdIt r i.toNat hlt
      rwa [show ((i.toNat : Nat) : Int) = i by omega] at this
    obtain ⟨t1, t2, t3, t4⟩ := g1 _ (List.getElem_mem hlt)
    by_cases c0 : v = 0
    · obtain ⟨o, q6, ho, hq6⟩ := off_f h hq5 (-1) i (by omega) (by omega) (by omega)
      refine ⟨r.set i.toNat ⟨o, r[i.toNat].f1, r[i.toNat].f2, r[i.toNat].f3⟩, q6, Ev.congr hd (Ev.bind he ?_), tinies_set _ g1 ⟨t1, t2, t3, t4⟩, by rw [List.length_set]; exact g2, by rw [List.length_set]; omega, hq6⟩
      simp only [e3, Option.bind_some, if_true, e4, e5, if_pos c0]
      refine Ev.bind ho ?_
      simp only [if_pos i0, if_pos i1, er]
      exact Ev.now _
    · obtain ⟨s, q6, es, hs, hq6⟩ := text_f h hq5
      by_cases c1 : v = 1
      · refine ⟨r.set i.toNat ⟨r[i.toNat].f0, r[i.toNat].f1, s, r[i.toNat].f3⟩, q6, Ev.congr hd (Ev.bind he ?_), tinies_set _ g1 ⟨t1, by show s.size ≤ 64; omega, t3, t4⟩, by rw [List.length_set]; exact g2, by rw [List.length_set]; omega, hq6⟩
        simp only [e3, Option.bind_some, if_true, e4, e5, if_neg c0, if_pos c1, es, if_pos i0, if_pos i1, er]
        exact Ev.now _
      · have c2 : v = 2 := by omega
        refine ⟨r.set i.toNat ⟨r[i.toNat].f0, s, r[i.toNat].f2, r[i.toNat].f3⟩, q6, Ev.congr hd (Ev.bind he ?_), tinies_set _ g1 ⟨by show s.size ≤ 64; omega, t2, t3, t4⟩, by rw [List.length_set]; exact g2, by rw [List.length_set]; omega, hq6⟩
        simp only [e3, Option.bind_some, if_true, e4, e5, if_neg c0, if_neg c1, if_pos c2, es, if_pos i0, if_pos i1, er]
        exact Ev.now _
theorem same_l0 (l : List Int) (hl : l.length ≤ 1048576) : ∀ (n i : Nat), i + n = l.length → Ev (fun k => laws_sameInts.l0 k l l (i : Int)) true := by
  intro n
  induction n with
  | zero =>
    intro i hi
    refine Ev.step (f := fun _ => some true) (fun k => ?_) (Ev.now _)
    conv => lhs; unfold laws_sameInts.l0
    rw [if_neg (by omega)]
  | succ n ih =>
    intro i hi
    have hlt : i < l.length := by omega
    refine Ev.step (fun k => ?_) (ih (i + 1) (by omega))
    conv => lhs; unfold laws_sameInts.l0
    rw [if_pos (by omega), if_pos (by omega), if_pos (by omega), if_pos rfl, w1n hlt (by omega)]
theorem same_ev (l : List Int) (hl : l.length ≤ 1048576) : Ev (fun k => laws_sameInts.f k l l) true := by
  refine Ev.congr (fun k => ?_) (same_l0 l hl l.length 0 (by omega))
  unfold laws_sameInts.f
  rw [if_pos rfl]
  rfl
end Go.Proofs.YtpmjpbaeecnpiaaDoor.Pure

namespace Go.Proofs.YtpmjpbaeecnpiaaDoor.Pure
open Go.RowKit Go.Proofs.YtpmjpbaeecnpiaaDoor.L Go.Proofs.YtpmjpbaeecnpiaaDoorW.PrintWords Go.Proofs.YtpmjpbaeecnpiaaDoorW.PrintLast Go.Proofs.YtpmjpbaeecnpiaaDoorW.PrintMore
open DT
set_option linter.unusedVariables false
set_option linter.unusedSimpArgs false

/-! how many kids there are in all -/
def many (l : List It) (i m : Nat) : Nat := ((List.range m).filter fun j => decide (0 ≤ upV l j ∧ upV l j < (i : Int))).length
theorem many_succ (l : List It) (i : Nat) : ∀ m, many l (i + 1) m = many l i m + (upTo l (i : Int) m).length
  | 0 => by simp [many, upTo]
  | m + 1 => by
    have ih := many_succ l i m
    unfold many at ih ⊢
    rw [filt_succ, filt_succ, List.length_append, List.length_append, ih, upTo_succ, List.length_append]
    by_cases c1 : upV l m = (i : Int)
    · have a : (decide (0 ≤ upV l m ∧ upV l m < ((i + 1 : Nat) : Int))) = true := decide_eq_true (by omega)
      have b : (decide (0 ≤ upV l m ∧ upV l m < (i : Int))) = false := decide_eq_false (by omega)
      rw [a, b, if_pos c1]
      simp only [if_true, Bool.false_eq_true, if_false, List.length_cons, List.length_nil]
      omega
    · by_cases c2 : 0 ≤ upV l m ∧ upV l m < (i : Int)
      · have a : (decide (0 ≤ upV l m ∧ upV l m < ((i + 1 : Nat) : Int))) = true := decide_eq_true (by omega)
        have b : (decide (0 ≤ upV l m ∧ upV l m < (i : Int))) = true := decide_eq_true c2
        rw [a, b, if_neg c1]
        simp only [if_true, List.length_cons, List.length_nil]
        omega
      · have a : (decide (0 ≤ upV l m ∧ upV l m < ((i + 1 : Nat) : Int))) = false := decide_eq_false (by omega)
        have b : (decide (0 ≤ upV l m ∧ upV l m < (i : Int))) = false := decide_eq_false c2
        rw [a, b, if_neg c1]
        simp only [Bool.false_eq_true, if_false, List.length_nil]
        omega
theorem many_zero (l : List It) : ∀ m, many l 0 m = 0
  | 0 => rfl
  | m + 1 => by
    have ih := many_zero l m
    unfold many at ih ⊢
    rw [filt_succ, List.length_append, ih]
    have b : (decide (0 ≤ upV l m ∧ upV l m < ((0 : Nat) : Int))) = false := decide_eq_false (by omega)
    rw [b]
    rfl
theorem many_all {l : List It} (V : Val (upV l) (elV l) l.length) : ∀ m, m ≤ l.length → many l l.length m + 1 = max m 1
  | 0, _ => rfl
  | m + 1, h => by
    have ih := many_all V m (by omega)
    unfold many at ih ⊢
    rw [filt_succ, List.length_append]
    by_cases c : m = 0
    · subst c
      have := (V.1 (by omega)).1
      have b : (decide (0 ≤ upV l 0 ∧ upV l 0 < (l.length : Int))) = false := decide_eq_false (by omega)
      rw [b]
      simp
    · obtain ⟨q1, q2, q3⟩ := V.2 m (by omega) (by omega)
      have b : (decide (0 ≤ upV l m ∧ upV l m < (l.length : Int))) = true := decide_eq_true (by omega)
      rw [b]
      simp only [if_true, List.length_cons, List.length_nil]
      omega
theorem kids_l1 {l : List It} (hsm : smallD l) (hd : docV l = true) : ∀ (n i : Nat), i + n = l.length → Ev (fun k => laws_FnKids.l1 k l ((many l i l.length + 1 : Nat) : Int) (i : Int)) true := by
  obtain ⟨h1, h2, V⟩ := doc_val hd
  intro n
  induction n with
  | zero =>
    intro i hi
    have e : i = l.length := by omega
    subst e
    have hm := many_all V l.length (Nat.le_refl _)
    refine Ev.step (f := fun _ => some true) (fun k => ?_) (Ev.now _)
    conv => lhs; unfold laws_FnKids.l1
    rw [if_neg (by omega), show many l l.length l.length + 1 = l.length by omega]
    simp
  | succ n ih =>
    intro i hi
    have hlt : i < l.length := by omega
    have hn := ih (i + 1) (by omega)
    have hms := many_succ l i l.length
    have hb : many l i l.length ≤ l.length := by
      have := List.length_filter_le (fun j => decide (0 ≤ upV l j ∧ upV l j < (i : Int))) (List.range l.length)
      rw [List.length_range] at this
      exact this
    have hk := impl_kids_ev l (i : Int) hsm (by omega)
    have hkv : kidsV l (i : Int) = ints (upTo l (i : Int) l.length) := by
      unfold kidsV
      rw [if_pos ⟨hd, by omega, by omega⟩]
    rw [hkv] at hk
    have hu := upTo_len l (i : Int) l.length
    refine Ev.step (f := fun k => (impl_KidsOf.f k l (i : Int)).bind fun t658 => (laws_FnKids.l1 k l (wrap64 (((many l i l.length + 1 : Nat) : Int) + (t658.length : Int))) (wrap64 ((i : Int) + 1)))) (fun k => ?_) (Ev.bind hk ?_)
    · conv => lhs; unfold laws_FnKids.l1
      rw [if_pos (by omega)]
    · have ew : wrap64 (((many l i l.length + 1 : Nat) : Int) + ((ints (upTo l (i : Int) l.length)).length : Int)) = ((many l (i + 1) l.length + 1 : Nat) : Int) := by
        rw [ints_len, w64] <;> omega
      simp only [ew, w1n hlt (show l.length ≤ 9223372036854775807 by omega)]
      exact hn
theorem kids_j2 {l : List It} (hsm : smallD l) (hl : l.length ≤ 1048576) (S : List Int) (h : docV l = false → S = []) : Ev (fun k => laws_FnKids.j2 k l S false) true := by
  have hdoc := impl_doc l hsm hl
  refine Ev.step (f := fun k => (impl_DocOk.f k l).bind fun t657 => (if t657 = true then (laws_FnKids.l1 k l 1 0) else (some ((S.length : Int) == 0)))) (fun k => ?_) (Ev.bind hdoc ?_)
  · simp only [laws_FnKids.j2, Bool.false_eq_true, if_false]
  · cases hd : docV l with
    | false =>
      rw [h hd]
      simp only [Bool.false_eq_true, if_false]
      exact Ev.now _
    | true =>
      simp only [if_true]
      have := kids_l1 hsm hd l.length 0 (by omega)
      rw [many_zero] at this
      exact this
theorem kids_l0 {l : List It} (ht : tinies l) (hl : l.length ≤ 200) (n : Int) (L : List Nat) (hL : L.length ≤ 200) (hin : ∀ j ∈ L, j < l.length ∧ upV l j = n) (hris : L.Pairwise (· < ·)) (t : ByteArray) (ok : Bool) (he : ok = true → t.data.toList = L.flatMap (txk l)) (hd : docV l = false → L = []) : ∀ (m i : Nat) (A : List UInt8), i + m = L.length → A.length ≤ 64 * i → A ++ (L.drop i).flatMap (txk l) = L.flatMap (txk l) → Ev (fun k => laws_FnKids.l0 k l n (ints L) t ok (mkB A) (i : Int)) true := by
  have hsm : smallD l := fun x hx => tiny_small (ht x hx)
  have hj2 := kids_j2 hsm (show l.length ≤ 1048576 by omega) (ints L) (fun h => by rw [hd h]; rfl)
  intro m
  induction m with
  | zero =>
    intro i A hi hA hx
    rw [List.drop_eq_nil_of_le (by omega)] at hx
    simp only [List.flatMap_nil, List.append_nil] at hx
    refine Ev.step (fun k => ?_) hj2
    conv => lhs; unfold laws_FnKids.l0
    rw [if_neg (by rw [ints_len]; omega)]
    cases ok with
    | false => rw [if_neg (by decide)]
    | true =>
      have e : (t.toList != (mkB A).toList) = false := by
        rw [Lib.toList_data, Lib.toList_data, mkB_list, he rfl, hx]
        simp
      rw [if_pos rfl, e]
  | succ m ih =>
    intro i A hi hA hx
    have hlt : i < L.length := by omega
    obtain ⟨hj, hu⟩ := hin _ (List.getElem_mem hlt)
    have h64 : (l[L[i]].f2).size ≤ 64 := (ht _ (List.getElem_mem hj)).2.1
    have hb : mkB A ++ l[L[i]].f2 = mkB (A ++ txk l L[i]) := by
      apply ba_ext
      rw [mkB_list, txk_at hj]
      simp [mkB_list]
    have hn := ih (i + 1) (A ++ txk l L[i]) (by omega) (by rw [List.length_append, txk_at hj, ← sz]; omega) (by rw [List.append_assoc, ← List.flatMap_cons, ← List.drop_eq_getElem_cons hlt]; exact hx)
    have hsz : (mkB A).size = A.length := by rw [sz, mkB_list]
    have hf0 : l[L[i]].f0 = n := by rw [← upV_at hj]; exact hu
    refine Ev.step (fun k => ?_) hn
    conv => lhs; unfold laws_FnKids.l0
    rw [if_pos (by rw [ints_len]; omega), if_pos (by omega), rdI L i hlt, if_pos (by omega), if_pos (by omega), rdIt l L[i] hj, if_pos hf0]
    by_cases c0 : 0 < i
    · have hlt2 : i - 1 < L.length := by omega
      have ew : wrap64 ((i : Int) - 1) = ((i - 1 : Nat) : Int) := by rw [w64] <;> omega
      have hless : L[i - 1] < L[i] := List.pairwise_iff_getElem.1 hris (i - 1) i hlt2 hlt (by omega)
      rw [if_pos (by omega), ew, if_pos (by omega), if_pos (by rw [ints_len]; omega), rdI L (i - 1) hlt2, if_neg (by omega), if_pos (by omega), hb, w1n hlt (by omega)]
    · rw [if_neg (by omega), if_pos (by omega), hb, w1n hlt (by omega)]
theorem upTo_ris (l : List It) (n : Int) (m : Nat) : (upTo l n m).Pairwise (· < ·) := List.Pairwise.filter _ List.pairwise_lt_range
theorem FnKids : laws_FnKids.Pure := by
  intro code h1 h2 h3
  have hC := code_of h2 h3
  by_cases hbig : (code.length : Int) > 1048576
  · refine ⟨0, ?_⟩
    unfold laws_FnKids.f laws_big.f
    rw [Option.bind_some, if_pos (decide_eq_true hbig)]
  obtain ⟨r, q, hd, ht, g1, g2, g3⟩ := doc_ev hC 0 ⟨by omega, by omega⟩
  have g2 : r.length ≤ 64 := g2
  have ew : wrap64 ((r.length : Int) - 1) = (r.length : Int) - 1 := by rw [w64] <;> omega
  obtain ⟨n, q3, e3, hq3⟩ := off_f hC g3 0 ((r.length : Int) - 1) (by omega) (by omega) (by omega)
  have hsm : smallD r := fun x hx => tiny_small (ht x hx)
  have hdraw : Ev (fun k => spec_DrawKidsOf.f k code) (r, n) := by
    refine Ev.congr (f := fun k => (spec_l1Rd_doc.f k code 0).bind fun bt583 => ((spec_l1Rd_off.f k code bt583.2 0 (wrap64 ((bt583.1.length : Int) - 1))).bind fun bt587 => (some (bt583.1, bt587.1)))) (fun k => ?_) (Ev.bind hd ?_)
    · rfl
    · simp only [ew]
      exact Ev.bind e3 (Ev.now _)
  have hk := impl_kids_ev r n hsm (by omega)
  have hk2 := spec_kids_ev r n hsm (by omega)
  have ht1 := impl_textOf_ev r n ht (by omega)
  have ht2 := spec_textOf_ev r n ht (by omega)
  obtain ⟨L, hL⟩ : ∃ L : List Nat, kidsV r n = ints L ∧ L.length ≤ 200 ∧ (∀ j ∈ L, j < r.length ∧ upV r j = n) ∧ L.Pairwise (· < ·) ∧ (docV r = false → L = []) ∧ ((ownTextV r n).2 = true → (ownTextV r n).1.data.toList = L.flatMap (txk r)) := by
    unfold kidsV
    by_cases c : docV r = true ∧ 0 ≤ n ∧ n < r.length
    · rw [if_pos c]
      refine ⟨upTo r n r.length, rfl, ?_, fun j hj => upTo_in j hj, upTo_ris _ _ _, fun h => ?_, fun h => ?_⟩
      · have := upTo_len r n r.length
        omega
      · rw [h] at c
        exact absurd c.1 (by decide)
      · unfold ownTextV at h ⊢
        split at h
        · rename_i c2
          rw [if_pos c2]
          show (mkB (txtV r n)).data.toList = _
          rw [mkB_list, txt_all]
        · cases h
    · rw [if_neg c]
      refine ⟨[], rfl, by simp, by simp, List.Pairwise.nil, fun _ => rfl, fun h => ?_⟩
      unfold ownTextV at h
      rw [if_neg (fun h => c ⟨h.1, h.2.1, h.2.2.1⟩)] at h
      cases h
  obtain ⟨hkv, l1, l2, l3, l4, l5⟩ := hL
  rw [hkv] at hk hk2
  have hlen : (ints L).length ≤ 1048576 := by rw [ints_len]; omega
  have hl0 := kids_l0 ht (by omega) n L l1 l2 l3 (ownTextV r n).1 (ownTextV r n).2 l5 l4 L.length 0 [] (by omega) (by simp) (by simp)
  have : Ev (fun k => laws_FnKids.f k code) true := by
    refine Ev.congr (f := fun k => (spec_DrawKidsOf.f k code).bind fun bt634 => ((impl_KidsOf.f k bt634.1 bt634.2).bind fun t638 => ((impl_TextOf.f k bt634.1 bt634.2).bind fun bt641 => ((spec_TextOf.f k bt634.1 bt634.2).bind fun bt643 => ((spec_KidsOf.f k bt634.1 bt634.2).bind fun t645 => ((laws_sameInts.f k t638 t645).bind fun t648 => (if t648 = true then (if bt641.1.toList = bt643.1.toList then (laws_FnKids.j0 k bt634.1 bt634.2 t638 bt641.1 bt641.2 (bt641.2 != bt643.2)) else (laws_FnKids.j0 k bt634.1 bt634.2 t638 bt641.1 bt641.2 true)) else (laws_FnKids.j0 k bt634.1 bt634.2 t638 bt641.1 bt641.2 true)))))))) (fun k => ?_) (Ev.bind hdraw (Ev.bind hk (Ev.bind ht1 (Ev.bind ht2 (Ev.bind hk2 (Ev.bind (same_ev _ hlen) ?_))))))
    · unfold laws_FnKids.f laws_big.f
      rw [Option.bind_some, if_neg (by simpa using hbig)]
    · simp only [if_true, bne_self_eq_false]
      refine Ev.step (fun k => ?_) hl0
      simp only [laws_FnKids.j0, Bool.false_eq_true, if_false]
      rfl
  exact this.rounds
end Go.Proofs.YtpmjpbaeecnpiaaDoor.Pure
