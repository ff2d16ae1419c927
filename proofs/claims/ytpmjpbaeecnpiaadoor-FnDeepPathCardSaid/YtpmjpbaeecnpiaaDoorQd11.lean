/- Words and contracts for the row RowFnDeepPath: what the Go functions answer that it calls; printed by programs of the kit and of this session, and merged. -/
import Derived.Test.YtpmjpbaeecnpiaaDoorQd10
namespace Go.Proofs.YtpmjpbaeecnpiaaDoor.Pure
open Go.RowKit Go.Proofs.YtpmjpbaeecnpiaaDoor.L Go.Proofs.YtpmjpbaeecnpiaaDoorW.PrintWords Go.Proofs.YtpmjpbaeecnpiaaDoorW.PrintLast Go.Proofs.YtpmjpbaeecnpiaaDoorW.PrintMore
open DT
set_option linter.unusedVariables false
set_option linter.unusedSimpArgs false

def upV (l : List It) (j : Nat) : Int := match l[j]? with | some x => x.f0 | none => -1
def elV (l : List It) (j : Nat) : Bool := match l[j]? with | some x => decide (¬ x.f1.toList = ([] : List UInt8)) | none => false
theorem upV_at {l : List It} {i : Nat} (h : i < l.length) : upV l i = l[i].f0 := by
  unfold upV; rw [List.getElem?_eq_getElem h]
theorem elV_at {l : List It} {i : Nat} (h : i < l.length) : elV l i = decide (¬ l[i].f1.toList = ([] : List UInt8)) := by
  unfold elV; rw [List.getElem?_eq_getElem h]
theorem el_yes {l : List It} {i : Nat} (h : i < l.length) : elV l i = true ↔ ¬ l[i].f1.toList = ([] : List UInt8) := by
  rw [elV_at h, decide_eq_true_eq]
theorem el_no {l : List It} {i : Nat} (h : i < l.length) : elV l i = false ↔ l[i].f1.toList = ([] : List UInt8) := by
  rw [elV_at h, decide_eq_false_iff_not, Classical.not_not]
/-- Item i stands where it may. -/
def PosP (l : List It) (i : Nat) : Prop := (i = 0 → upV l 0 = -1 ∧ elV l 0 = true) ∧ (0 < i → 0 ≤ upV l i ∧ elV l (upV l i).toNat = true ∧ (upV l i).toNat ∈ chain (upV l) (i - 1))
instance (l : List It) (i : Nat) : Decidable (PosP l i) := by unfold PosP; infer_instance
def posV (l : List It) (i : Nat) : Bool := decide (PosP l i)
def depV (l : List It) (i : Nat) : Bool := decide ((chain (upV l) i).length ≤ 20)
def textV (l : List It) (i : Nat) : Bool := elV l i || !(decide (0 < i) && !elV l (i - 1) && decide (upV l (i - 1) = upV l i))
def goodAt (l : List It) (i : Nat) : Bool := match l[i]? with | some x => goodV x | none => false
theorem good_at {l : List It} {i : Nat} (h : i < l.length) : goodAt l i = goodV l[i] := by
  unfold goodAt; rw [List.getElem?_eq_getElem h]
def stepV (l : List It) (i : Nat) : Bool := posV l i && (depV l i && (textV l i && goodAt l i))
def bytesD : List It → Int
  | [] => 0
  | x :: l => bytesV x + bytesD l
def smallD (l : List It) : Prop := ∀ x ∈ l, smallI x
theorem bytesV_bound {x : It} (h : smallI x) : 0 ≤ bytesV x ∧ bytesV x ≤ 4398046511104 := by
  obtain ⟨h1, h2, h3, h4⟩ := h
  have := bytesA_bound x.f3 h4
  unfold bytesV
  constructor <;> omega
theorem bytesD_pos : ∀ {l : List It}, smallD l → 0 ≤ bytesD l
  | [], _ => Int.le_refl _
  | x :: l, h => by
    have h1 := bytesV_bound (h x (by simp))
    have h2 := bytesD_pos (l := l) (fun y hy => h y (by simp [hy]))
    unfold bytesD
    omega
/-- A right document. -/
def docV (l : List It) : Bool := (decide (1 ≤ l.length) && decide (l.length ≤ 200)) && (allN (stepV l) 0 l.length && decide (bytesD l ≤ 2500))
theorem step_pos {l : List It} {i : Nat} (h : stepV l i = true) : PosP l i := by
  unfold stepV at h
  rw [Bool.and_eq_true] at h
  exact of_decide_eq_true h.1
theorem pos_val {l : List It} : ∀ {i : Nat}, (∀ j, j < i → PosP l j) → Val (upV l) (elV l) i := by
  intro i h
  refine ⟨fun h0 => (h 0 h0).1 rfl, fun j hj hji => ?_⟩
  obtain ⟨h1, h2, h3⟩ := (h j hji).2 hj
  have := chain_lt _ _ h3
  exact ⟨h1, by omega, h2⟩
theorem drop_all {α : Type} {p : α → Bool} : ∀ {s : List α}, (∀ x ∈ s, p x = true) → s.dropWhile p = []
  | [], _ => rfl
  | x :: s, h => by
    rw [List.dropWhile_cons_of_pos (h x (by simp))]
    exact drop_all (fun y hy => h y (by simp [hy]))
/-! the stack -/
def revI (s : List Nat) : List Int := (s.map Int.ofNat).reverse
theorem revI_cons (x : Nat) (s : List Nat) : revI (x :: s) = revI s ++ [(x : Int)] := by simp [revI]
theorem revI_len (s : List Nat) : (revI s).length = s.length := by simp [revI]
theorem revI_nil : revI [] = [] := rfl
def stkV (l : List It) (i : Nat) : List Nat := if i = 0 then [] else stk (upV l) (elV l) (i - 1)
theorem chain_len (up : Nat → Int) : ∀ j, (chain up j).length ≤ j + 1 := by
  intro j
  induction j using Nat.strongRecOn with
  | _ j ih =>
  rw [chain_eq]
  split
  · rename_i h
    have := ih _ h.2
    simp only [List.length_cons]
    omega
  · simp
theorem stkV_len (l : List It) (i : Nat) : (stkV l i).length ≤ i := by
  unfold stkV
  split
  · simp
  · unfold stk
    have := chain_len (upV l) (i - 1)
    split
    · omega
    · rw [List.length_tail]; omega
section
variable (l : List It) (hl : smallD l) (hn : l.length ≤ 200)
theorem impl_pop (c : Int) (i : Nat) (p : Int) (nm tx : ByteArray) (ats : List At) (R : Bool) : ∀ s : List Nat, s.length ≤ 200 → Ev (fun k => impl_DocOk.j3 k l c (revI (s.dropWhile (fun x : Nat => (x : Int) != p))) (i : Int) l (l.length : Int) (i : Int) p nm tx ats) R → Ev (fun k => impl_DocOk.l1 k l c (revI s) (i : Int) l (l.length : Int) (i : Int) p nm tx ats) R
  | [], _, h => by
    rw [List.dropWhile_nil, revI_nil] at h
    refine Ev.step (fun k => ?_) h
    conv => lhs; unfold impl_DocOk.l1
    rw [if_neg (by simp [revI])]
    rfl
  | x :: s, hs, h => by
    simp only [List.length_cons] at hs
    have e1 : ((revI (x :: s)).length : Int) = (s.length : Int) + 1 := by rw [revI_len]; simp
    have e2 : wrap64 ((s.length : Int) + 1 - 1) = (s.length : Int) := by rw [w64] <;> omega
    have e3 : rd (revI (x :: s)) (s.length : Int) = (x : Int) := by
      rw [rdZ _ _ (by rw [revI_len]; simp)]
      simp only [revI_cons]
      rw [List.getElem_append_right (by rw [revI_len]; exact Nat.le_refl _)]
      simp
    by_cases c1 : (x : Int) = p
    · rw [List.dropWhile_cons_of_neg (by simp [c1])] at h
      refine Ev.step (fun k => ?_) h
      conv => lhs; unfold impl_DocOk.l1
      rw [e1, e2, e3, if_pos (by omega), if_pos (by omega), if_pos (by omega), if_pos c1]
    · rw [List.dropWhile_cons_of_pos (by simp [c1])] at h
      refine Ev.step (fun k => ?_) (impl_pop c i p nm tx ats R s (by omega) h)
      conv => lhs; unfold impl_DocOk.l1
      rw [e1, e2, e3, if_pos (by omega), if_pos (by omega), if_pos (by omega), if_neg c1, if_pos (by omega)]
      rw [Int.toNat_natCast, revI_cons, List.take_left' (revI_len s)]
include hl hn
theorem impl_doc_l0 (hp0 : PosP l 0) : ∀ (n i : Nat) (c : Int), i + n = l.length → (∀ j, j < i → PosP l j) → 0 ≤ c → c ≤ 4398046511104 * i → Ev (fun k => impl_DocOk.l0 k l c (revI (stkV l i)) l (l.length : Int) (i : Int)) (allN (stepV l) i n && decide (c + bytesD (l.drop i) ≤ 2500)) := by
  intro n
  induction n with
  | zero =>
    intro i c hi hp h0 hc
    rw [List.drop_of_length_le (by omega), allN, Bool.true_and, bytesD, Int.add_zero]
    refine Ev.step (f := fun _ => some (decide (c ≤ 2500))) (fun k => ?_) (Ev.now _)
    conv => lhs; unfold impl_DocOk.l0
    rw [if_neg (by omega)]
  | succ n ih =>
    intro i c hi hp h0 hc
    have hlt : i < l.length := by omega
    have hx : smallI l[i] := hl _ (List.getElem_mem hlt)
    have hb := bytesV_bound hx
    rw [allN]
    refine Ev.step (f := fun k => (impl_Item_isGood.f k l[i].f0 l[i].f1 l[i].f2 l[i].f3).bind fun t349 => (if t349 = true then ((impl_Item_bytes.f k l[i].f0 l[i].f1 l[i].f2 l[i].f3).bind fun t350 => (impl_DocOk.l1 k l (wrap64 (c + t350)) (revI (stkV l i)) (i : Int) l (l.length : Int) (i : Int) l[i].f0 l[i].f1 l[i].f2 l[i].f3)) else (some false))) (fun k => ?_) (Ev.bind (impl_good l[i] hx) ?_)
    · conv => lhs; unfold impl_DocOk.l0
      rw [if_pos (by omega), if_pos (by omega), if_pos (by omega), rdIt l i hlt]
    have hg := good_at hlt
    cases hgv : goodV l[i] with
    | false =>
      have : stepV l i = false := by unfold stepV; rw [hg, hgv]; simp
      rw [this]
      exact Ev.now _
    | true =>
      rw [hgv] at hg
      simp only [if_true]
      refine Ev.bind (impl_bytes l[i] hx) ?_
      have ec : wrap64 (c + bytesV l[i]) = c + bytesV l[i] := by rw [w64] <;> omega
      simp only [ec]
      have hlen := stkV_len l i
      refine impl_pop l _ i _ _ _ _ _ (stkV l i) (by omega) ?_
      have V : Val (upV l) (elV l) i := pos_val hp
      have hup := upV_at hlt
      -- what is left
      have key : (PosP l i ∧ (stkV l i).dropWhile (fun x : Nat => (x : Int) != l[i].f0) = (if i = 0 then [] else chain (upV l) (upV l i).toNat)) ∨ (¬ PosP l i ∧ 0 < i ∧ (stkV l i).dropWhile (fun x : Nat => (x : Int) != l[i].f0) = []) := by
        by_cases e : i = 0
        · subst e
          exact .inl ⟨hp0, by simp [stkV]⟩
        · have es : stkV l i = stk (upV l) (elV l) (i - 1) := by unfold stkV; rw [if_neg e]
          rw [es, if_neg e]
          by_cases hneg : 0 ≤ l[i].f0
          · have ef : (fun x : Nat => (x : Int) != l[i].f0) = (fun x : Nat => x != (upV l i).toNat) := by
              funext x
              rw [Bool.eq_iff_iff, bne_iff_ne, bne_iff_ne, hup]
              omega
            rw [ef]
            by_cases hm : (upV l i).toNat ∈ stk (upV l) (elV l) (i - 1)
            · obtain ⟨h1, h2, h3⟩ := stk_drop V (show i - 1 < i by omega) hm
              exact .inl ⟨⟨fun h => absurd h e, fun _ => ⟨by rw [hup]; exact hneg, h2, h3⟩⟩, h1⟩
            · refine .inr ⟨fun h => hm ?_, by omega, drop_none hm⟩
              obtain ⟨_, h2, h3⟩ := h.2 (by omega)
              exact stk_mem (i := 0) h3 h2
          · refine .inr ⟨fun h => hneg ?_, by omega, ?_⟩
            · have := (h.2 (by omega)).1
              rwa [hup] at this
            · refine drop_all (fun x _ => ?_)
              rw [bne_iff_ne]
              omega
      rcases key with ⟨hP, hD⟩ | ⟨hP, h0i, hD⟩
      · rw [hD]
        have hpv : posV l i = true := decide_eq_true hP
        generalize hS : (if i = 0 then [] else chain (upV l) (upV l i).toNat) = S
        have hC : chain (upV l) i = i :: S := by
          rw [← hS]
          by_cases e : i = 0
          · subst e
            rw [if_pos rfl, chain_zero (hP.1 rfl).1]
          · obtain ⟨h1, h2, h3⟩ := hP.2 (by omega)
            have := chain_lt _ _ h3
            rw [if_neg e, chain_up h1 (by omega)]
        have hSl : S.length ≤ 200 := by
          have := chain_len (upV l) i
          rw [hC] at this
          simp only [List.length_cons] at this
          omega
        have hSn : 0 < i → 0 < S.length := by
          intro h
          rw [← hS, if_neg (by omega), chain_head]
          simp
        have hdep : depV l i = !decide (((revI S).length : Int) ≥ 20) := by
          unfold depV
          rw [hC, revI_len, Bool.eq_iff_iff]
          simp
          omega
        have hpop : ∀ b : Bool, Ev (fun k => impl_DocOk.j4 k l (c + bytesV l[i]) (revI S) (i : Int) l (l.length : Int) (i : Int) b l[i].f0 l[i].f1 l[i].f2 l[i].f3) ((!b && textV l i) && (allN (stepV l) (i + 1) n && decide (c + bytesD (l.drop i) ≤ 2500))) := by
          have hnext := ih (i + 1) (c + bytesV l[i]) (by omega) (fun j hj => by
            by_cases e : j = i
            · rw [e]; exact hP
            · exact hp j (by omega)) (by omega) (by omega)
          have hsum : c + bytesV l[i] + bytesD (l.drop (i + 1)) = c + bytesD (l.drop i) := by
            rw [List.drop_eq_getElem_cons hlt, bytesD]; omega
          rw [hsum] at hnext
          have hstk : stkV l (i + 1) = stk (upV l) (elV l) i := by
            unfold stkV
            rw [if_neg (by omega), Nat.add_sub_cancel]
          intro b
          cases b with
          | true =>
            refine Ev.step (f := fun _ => some false) (fun k => ?_) (Ev.now _)
            conv => lhs; unfold impl_DocOk.j4
            rw [if_pos rfl]
          | false =>
            cases he : elV l i with
            | true =>
              have ht : textV l i = true := by unfold textV; rw [he]; rfl
              have hq : stkV l (i + 1) = i :: S := by rw [hstk]; unfold stk; rw [if_pos he, hC]
              rw [ht]
              simp only [Bool.not_false, Bool.true_and]
              rw [hq] at hnext
              refine Ev.step (fun k => ?_) hnext
              conv => lhs; unfold impl_DocOk.j4
              rw [if_neg (by decide), if_neg ((el_yes hlt).1 he), if_pos (by rw [revI_len]; omega), w1n hlt (by omega), revI_cons]
            | false =>
              have hi0 : 0 < i := by
                rcases Nat.eq_zero_or_pos i with h | h
                · subst h
                  rw [(hP.1 rfl).2] at he
                  cases he
                · exact h
              have hq : stkV l (i + 1) = S := by rw [hstk]; unfold stk; rw [if_neg (by rw [he]; decide), hC, List.tail_cons]
              rw [hq] at hnext
              have ew : wrap64 ((i : Int) - 1) = ((i - 1 : Nat) : Int) := by rw [w64] <;> omega
              have hlt1 : i - 1 < l.length := by omega
              have hnm := (el_no hlt).1 he
              have ht : textV l i = !(!elV l (i - 1) && decide (upV l (i - 1) = upV l i)) := by
                unfold textV
                rw [he, decide_eq_true hi0]
                simp
              rw [ht]
              cases hpe : elV l (i - 1) with
              | true =>
                have h2 := (el_yes hlt1).1 hpe
                simp only [Bool.not_true, Bool.not_false, Bool.false_and, Bool.true_and]
                refine Ev.step (fun k => ?_) hnext
                conv => lhs; unfold impl_DocOk.j4
                rw [if_neg (by decide), if_pos hnm, if_pos (by omega), ew, if_pos (by omega), if_pos (by omega), rdIt l (i - 1) hlt1, if_neg h2, w1n hlt (by omega)]
              | false =>
                have h2 := (el_no hlt1).1 hpe
                by_cases hs : upV l (i - 1) = upV l i
                · rw [decide_eq_true hs]
                  rw [upV_at hlt1, hup] at hs
                  refine Ev.step (f := fun _ => some false) (fun k => ?_) (Ev.now _)
                  conv => lhs; unfold impl_DocOk.j4
                  rw [if_neg (by decide), if_pos hnm, if_pos (by omega), ew, if_pos (by omega), if_pos (by omega), rdIt l (i - 1) hlt1, if_pos h2, if_pos hs]
                · rw [decide_eq_false hs]
                  rw [upV_at hlt1, hup] at hs
                  simp only [Bool.not_true, Bool.not_false, Bool.and_false, Bool.true_and]
                  refine Ev.step (fun k => ?_) hnext
                  conv => lhs; unfold impl_DocOk.j4
                  rw [if_neg (by decide), if_pos hnm, if_pos (by omega), ew, if_pos (by omega), if_pos (by omega), rdIt l (i - 1) hlt1, if_pos h2, if_neg hs, w1n hlt (by omega)]
        have := hpop (decide (((revI S).length : Int) ≥ 20))
        rw [← hdep] at this
        have es : stepV l i = (depV l i && textV l i) := by
          unfold stepV
          rw [hpv, hg, Bool.true_and, Bool.and_true]
        rw [es, Bool.and_assoc]
        refine Ev.step (fun k => ?_) this
        conv => lhs; unfold impl_DocOk.j3
        by_cases h0i : 0 < i
        · have := hSn h0i
          rw [if_pos (by omega), if_neg (by rw [revI_len]; omega)]
        · rw [if_neg (by omega)]
      · rw [hD, revI_nil]
        have : stepV l i = false := by unfold stepV posV; rw [decide_eq_false hP]; rfl
        rw [this]
        refine Ev.step (f := fun k => impl_DocOk.j4 k l (c + bytesV l[i]) [] (i : Int) l (l.length : Int) (i : Int) true l[i].f0 l[i].f1 l[i].f2 l[i].f3) (fun k => ?_) ?_
        · conv => lhs; unfold impl_DocOk.j3
          rw [if_pos (by omega), if_pos (by simp)]
        · refine Ev.step (f := fun _ => some false) (fun k => ?_) (Ev.now _)
          conv => lhs; unfold impl_DocOk.j4
          rw [if_pos rfl]
end
theorem impl_doc (l : List It) (hl : smallD l) (hb : l.length ≤ 1048576) : Ev (fun k => impl_DocOk.f k l) (docV l) := by
  have hj : Ev (fun k => impl_DocOk.j0 k l true) false := by
    exact Ev.step (f := fun _ => some false) (fun k => rfl) (Ev.now _)
  unfold docV
  cases hc : (decide (1 ≤ l.length) && decide (l.length ≤ 200)) with
  | false =>
    refine Ev.congr (fun k => ?_) hj
    have : inZ (l.length : Int) 1 200 = false := by
      rw [← hc]
      unfold inZ
      rw [Bool.eq_iff_iff]
      simp
      omega
    unfold impl_DocOk.f
    rw [impl_in', Option.bind_some, this, if_neg (by decide)]
  | true =>
    rw [Bool.and_eq_true, decide_eq_true_eq, decide_eq_true_eq] at hc
    have h0 : 0 < l.length := by omega
    have hz : inZ (l.length : Int) 1 200 = true := by
      unfold inZ
      simp
      omega
    have es : ∀ k, impl_DocOk.f k l = if (rd_T39 l 0).f0 = (-1) then (impl_DocOk.j0 k l (((rd_T39 l 0).f1).toList == ([] : List UInt8))) else (impl_DocOk.j0 k l true) := by
      intro k
      unfold impl_DocOk.f
      rw [impl_in', Option.bind_some, hz, if_pos rfl, if_pos (by omega)]
    have er : rd_T39 l 0 = l[0] := rdIt l 0 h0
    simp only [Bool.true_and]
    by_cases hP : PosP l 0
    · obtain ⟨h1, h2⟩ := hP.1 rfl
      have hmain := impl_doc_l0 l hl hc.2 hP l.length 0 0 (by omega) (fun j hj => by omega) (by omega) (by omega)
      rw [List.drop_zero, Int.zero_add] at hmain
      rw [upV_at h0] at h1
      have h3 := (el_yes h0).1 h2
      refine Ev.congr (f := fun k => impl_DocOk.j0 k l false) (fun k => ?_) ?_
      · rw [es, er, if_pos h1]
        congr 1
        rw [beq_eq_false_iff_ne]
        exact h3
      · exact Ev.step (fun k => rfl) hmain
    · have : allN (stepV l) 0 l.length = false := by
        rw [Bool.eq_false_iff]
        intro h
        rw [allN_iff] at h
        exact hP (step_pos (h 0 (by omega) (by omega)))
      rw [this, Bool.false_and]
      refine Ev.congr (fun k => ?_) hj
      rw [es, er]
      split
      · rename_i h1
        congr 1
        rw [beq_iff_eq]
        by_cases h2 : l[0].f1.toList = ([] : List UInt8)
        · exact h2
        · exact absurd ⟨fun _ => ⟨by rw [upV_at h0]; exact h1, (el_yes h0).2 h2⟩, fun h => by omega⟩ hP
      · rfl
theorem spec_deep_l0 (l : List It) (hn : l.length ≤ 200) {m : Nat} (V : Val (upV l) (elV l) m) (hm : m ≤ l.length) : ∀ (j : Nat) (d : Int), j < m → 0 ≤ d → d ≤ 300 - j → Ev (fun k => spec_l2Deep.l0 k l (j : Int) d) (d + ((chain (upV l) j).length : Int) - 1) := by
  intro j
  induction j using Nat.strongRecOn with
  | _ j ih =>
  intro d hj h0 hd
  have hlt : j < l.length := by omega
  have hup := upV_at hlt
  by_cases e : j = 0
  · subst e
    have h1 := (V.1 hj).1
    rw [chain_zero h1]
    rw [hup] at h1
    refine Ev.step (f := fun _ => some d) (fun k => ?_) (by simp; exact Ev.now _)
    conv => lhs; unfold spec_l2Deep.l0
    rw [if_pos (by omega), if_pos (by omega), rdIt l 0 hlt, if_neg (by omega)]
  · obtain ⟨h1, h2, h3⟩ := V.2 j (by omega) hj
    rw [chain_up h1 h2, List.length_cons]
    have := ih (upV l j).toNat h2 (d + 1) (by omega) (by omega) (by omega)
    have e1 : wrap64 (d + 1) = d + 1 := by rw [w64] <;> omega
    have e2 : l[j].f0 = (((upV l j).toNat : Nat) : Int) := by rw [← hup]; omega
    rw [show d + (((chain (upV l) (upV l j).toNat).length + 1 : Nat) : Int) - 1 = d + 1 + ((chain (upV l) (upV l j).toNat).length : Int) - 1 by omega]
    refine Ev.step (fun k => ?_) this
    conv => lhs; unfold spec_l2Deep.l0
    rw [if_pos (by omega), if_pos (by omega), rdIt l j hlt, if_pos (by omega), e1, e2]
theorem spec_deep (l : List It) (hn : l.length ≤ 200) {m : Nat} (V : Val (upV l) (elV l) m) (hm : m ≤ l.length) (j : Nat) (hj : j < m) : Ev (fun k => spec_l2Deep.f k l (j : Int)) (((chain (upV l) j).length : Int) - 1) := by
  have := spec_deep_l0 l hn V hm j 0 hj (by omega) (by omega)
  rw [Int.zero_add] at this
  exact this
theorem spec_climb (l : List It) {m : Nat} (V : Val (upV l) (elV l) m) (hm : m ≤ l.length) (c : Int) (i p : Nat) (nm tx : ByteArray) (ats : List At) (R : Bool) : ∀ j, j < m → (p ∈ chain (upV l) j → Ev (fun k => spec_DocOk.j6 k l c (i : Int) (p : Int) nm tx ats) R) → Ev (fun k => spec_DocOk.l2 k l c (i : Int) (j : Int) (p : Int) nm tx ats) (decide (p ∈ chain (upV l) j) && R) := by
  intro j
  induction j using Nat.strongRecOn with
  | _ j ih =>
  intro hj hR
  have hlt : j < l.length := by omega
  have hup := upV_at hlt
  by_cases c1 : j = p
  · have hm : p ∈ chain (upV l) j := by rw [chain_eq, c1]; simp
    rw [decide_eq_true hm, Bool.true_and]
    refine Ev.step (fun k => ?_) (hR hm)
    conv => lhs; unfold spec_DocOk.l2
    rw [if_pos (by omega), if_pos (by omega), if_neg (by omega)]
  · by_cases e : j = 0
    · subst e
      have h1 := (V.1 hj).1
      rw [chain_zero h1]
      rw [hup] at h1
      rw [decide_eq_false (by simp; omega), Bool.false_and]
      refine Ev.step (f := fun k => spec_DocOk.l2 k l c (i : Int) (-1) (p : Int) nm tx ats) (fun k => ?_) (Ev.step (f := fun _ => some false) (fun k => ?_) (Ev.now _))
      · conv => lhs; unfold spec_DocOk.l2
        rw [if_pos (by omega), if_neg (by omega), if_pos (by omega), if_pos (by omega), rdIt l 0 hlt, h1]
      · conv => lhs; unfold spec_DocOk.l2
        rw [if_neg (by omega), if_pos (by omega)]
    · obtain ⟨h1, h2, h3⟩ := V.2 j (by omega) hj
      have e2 : l[j].f0 = (((upV l j).toNat : Nat) : Int) := by rw [← hup]; omega
      have e3 : (p ∈ chain (upV l) j) ↔ (p ∈ chain (upV l) (upV l j).toNat) := by
        rw [chain_up h1 h2, List.mem_cons]
        exact ⟨fun h => h.resolve_left (fun h => c1 h.symm), .inr⟩
      have := ih (upV l j).toNat h2 (by omega) (fun h => hR (e3.2 h))
      rw [decide_eq_decide.2 e3]
      refine Ev.step (fun k => ?_) this
      conv => lhs; unfold spec_DocOk.l2
      rw [if_pos (by omega), if_neg (by omega), if_pos (by omega), if_pos (by omega), rdIt l j hlt, e2]
/-- The bytes that are counted ahead of the rest. -/
def bytesP (x : It) : Int := (x.f1.size : Int) + x.f2.size + bytesA (x.f3.take 20)
theorem bytesP_bound {x : It} (h : smallI x) : 0 ≤ bytesP x ∧ bytesP x ≤ bytesV x := by
  obtain ⟨h1, h2, h3, h4⟩ := h
  have h5 : ∀ (l : List At) (n : Nat), (∀ a ∈ l, smallA a) → bytesA (l.take n) ≤ bytesA l := by
    intro l
    induction l with
    | nil => intro n _; simp
    | cons a l ih =>
      intro n h
      have hb := bytesA_bound l (fun b hb => h b (by simp [hb]))
      cases n with
      | zero => simp only [List.take_zero, bytesA]; omega
      | succ n =>
        have := ih n (fun b hb => h b (by simp [hb]))
        simp only [List.take_succ_cons, bytesA]
        omega
  have h6 := h5 x.f3 20 h4
  have h7 := bytesA_bound (x.f3.take 20) (fun a ha => h4 a (List.mem_of_mem_take ha))
  unfold bytesP bytesV
  constructor <;> omega
theorem spec_sum (l : List It) (i : Nat) (p : Int) (nm tx : ByteArray) (ats : List At) (h : smallAs ats) (R : Bool) (T : Int) (hR : Ev (fun k => spec_DocOk.j3 k l T (i : Int) p nm tx ats) R) : ∀ (n j : Nat) (c : Int), j + n = (ats.take 20).length → 0 ≤ c → c ≤ 1152921504606846976 + 2097152 * j → c + bytesA ((ats.take 20).drop j) = T → Ev (fun k => spec_DocOk.l1 k l c (i : Int) (j : Int) p nm tx ats) R := by
  have hlen : (ats.take 20).length = min 20 ats.length := List.length_take
  intro n
  induction n with
  | zero =>
    intro j c hj h0 hc hT
    rw [List.drop_of_length_le (by omega), bytesA, Int.add_zero] at hT
    rw [← hT] at hR
    refine Ev.step (fun k => ?_) hR
    conv => lhs; unfold spec_DocOk.l1
    by_cases c1 : j < ats.length
    · rw [if_pos (by omega), if_neg (by omega)]
    · rw [if_neg (by omega)]
  | succ n ih =>
    intro j c hj h0 hc hT
    have hlt : j < (ats.take 20).length := by omega
    have hlt2 : j < ats.length := by omega
    rw [List.drop_eq_getElem_cons hlt, bytesA, List.getElem_take] at hT
    have hs := sm ats h j hlt2
    have e1 : wrap64 (c + (ats[j].f0.size : Int)) = c + (ats[j].f0.size : Int) := by rw [w64] <;> omega
    have e2 : wrap64 (c + (ats[j].f0.size : Int) + (ats[j].f1.size : Int)) = c + (ats[j].f0.size : Int) + (ats[j].f1.size : Int) := by rw [w64] <;> omega
    have := ih (j + 1) (c + (ats[j].f0.size : Int) + (ats[j].f1.size : Int)) (by omega) (by omega) (by omega) (by omega)
    refine Ev.step (fun k => ?_) this
    conv => lhs; unfold spec_DocOk.l1
    rw [if_pos (by omega), if_pos (by omega), if_pos (by omega), rdAt ats j hlt2, e1, e2, w1n hlt2 (by have := h.1; omega)]
section
variable (l : List It) (hl : smallD l) (hn : l.length ≤ 200)
include hl hn
theorem spec_content (i : Nat) (hlt : i < l.length) (c : Int) (R : Bool) (hp : ∀ j, j < i + 1 → PosP l j) (hR : Ev (fun k => spec_DocOk.l0 k l c ((i + 1 : Nat) : Int)) R) : Ev (fun k => spec_DocOk.j6 k l c (i : Int) l[i].f0 l[i].f1 l[i].f2 l[i].f3) (depV l i && (textV l i && goodAt l i) && R) := by
  have V : Val (upV l) (elV l) (i + 1) := pos_val hp
  have hx : smallI l[i] := hl _ (List.getElem_mem hlt)
  obtain ⟨hx1, hx2, hx3⟩ := hx
  have hup := upV_at hlt
  have hd := spec_deep l hn V (by omega) i (by omega)
  refine Ev.step (f := fun k => (spec_l2Deep.f k l (i : Int)).bind fun t153 => (if t153 ≥ 20 then (some false) else (if l[i].f1.toList = ([] : List UInt8) then (if l[i].f2.toList = ([] : List UInt8) then (spec_DocOk.j7 k l c (i : Int) true l[i].f0 l[i].f1 l[i].f2 l[i].f3) else (if (l[i].f3.length : Int) > 0 then (spec_DocOk.j7 k l c (i : Int) true l[i].f0 l[i].f1 l[i].f2 l[i].f3) else ((spec_l1Text.f k l[i].f2).bind fun t154 => (spec_DocOk.j7 k l c (i : Int) (!t154) l[i].f0 l[i].f1 l[i].f2 l[i].f3)))) else (if l[i].f2.toList = ([] : List UInt8) then ((spec_l1Qual.f k l[i].f1).bind fun t157 => (if t157 = true then ((spec_l2Attrs.f k l[i].f3).bind fun t158 => (if t158 = true then (spec_DocOk.l0 k l c (wrap64 ((i : Int) + 1))) else (some false))) else (some false))) else (some false))))) (fun k => ?_) (Ev.bind hd ?_)
  · conv => lhs; unfold spec_DocOk.j6
  · by_cases c1 : (chain (upV l) i).length ≤ 20
    · have : depV l i = true := decide_eq_true c1
      rw [this, Bool.true_and]
      rw [good_at hlt]
      unfold goodV
      cases he : elV l i with
      | true =>
        have hnm := (el_yes hlt).1 he
        have ht : textV l i = true := by unfold textV; rw [he]; rfl
        rw [ht, Bool.true_and, if_neg hnm]
        refine Ev.congr (f := fun k => (if l[i].f2.toList = ([] : List UInt8) then ((spec_l1Qual.f k l[i].f1).bind fun t157 => (if t157 = true then ((spec_l2Attrs.f k l[i].f3).bind fun t158 => (if t158 = true then (spec_DocOk.l0 k l c ((i + 1 : Nat) : Int)) else (some false))) else (some false))) else (some false))) (fun k => ?_) ?_
        · rw [if_neg (by omega), if_neg hnm, w1n hlt (by omega)]
        · by_cases c2 : l[i].f2.toList = ([] : List UInt8)
          · simp only [if_pos c2]
            refine Ev.bind (spec_qual l[i].f1 (size_len hx1)) ?_
            cases qualV l[i].f1 with
            | false => exact Ev.now _
            | true =>
              simp only [if_true, Bool.true_and]
              refine Ev.bind (spec_attrs l[i].f3 hx3) ?_
              cases attrsV l[i].f3 with
              | false => exact Ev.now _
              | true => exact hR
          · simp only [if_neg c2, Bool.and_false, Bool.false_and]
            exact Ev.now _
      | false =>
        have hnm := (el_no hlt).1 he
        rw [if_pos hnm]
        have hi0 : 0 < i := by
          rcases Nat.eq_zero_or_pos i with h | h
          · subst h
            rw [((hp 0 (by omega)).1 rfl).2] at he
            cases he
          · exact h
        have ht : textV l i = !(!elV l (i - 1) && decide (upV l (i - 1) = upV l i)) := by
          unfold textV
          rw [he, decide_eq_true hi0]
          simp
        have ew : wrap64 ((i : Int) - 1) = ((i - 1 : Nat) : Int) := by rw [w64] <;> omega
        have hlt1 : i - 1 < l.length := by omega
        have tail : ∀ b : Bool, Ev (fun k => spec_DocOk.j7 k l c (i : Int) b l[i].f0 l[i].f1 l[i].f2 l[i].f3) (textV l i && !b && R) := by
          intro b
          cases b with
          | true =>
            rw [Bool.not_true, Bool.and_false]
            refine Ev.step (f := fun _ => some false) (fun k => ?_) (Ev.now _)
            conv => lhs; unfold spec_DocOk.j7
            rw [if_pos rfl]
          | false =>
            rw [ht, Bool.not_false, Bool.and_true]
            cases hpe : elV l (i - 1) with
            | true =>
              have h2 := (el_yes hlt1).1 hpe
              simp only [Bool.not_true, Bool.not_false, Bool.false_and, Bool.true_and]
              refine Ev.step (fun k => ?_) hR
              conv => lhs; unfold spec_DocOk.j7
              rw [if_neg (by decide), ew, if_pos (by omega), if_pos (by omega), rdIt l (i - 1) hlt1, if_neg h2, w1n hlt (by omega)]
            | false =>
              have h2 := (el_no hlt1).1 hpe
              by_cases hs : upV l (i - 1) = upV l i
              · rw [decide_eq_true hs]
                rw [upV_at hlt1, hup] at hs
                refine Ev.step (f := fun _ => some false) (fun k => ?_) (Ev.now _)
                conv => lhs; unfold spec_DocOk.j7
                rw [if_neg (by decide), ew, if_pos (by omega), if_pos (by omega), rdIt l (i - 1) hlt1, if_pos h2, if_pos hs]
              · rw [decide_eq_false hs]
                rw [upV_at hlt1, hup] at hs
                simp only [Bool.not_true, Bool.not_false, Bool.and_false, Bool.true_and]
                refine Ev.step (fun k => ?_) hR
                conv => lhs; unfold spec_DocOk.j7
                rw [if_neg (by decide), ew, if_pos (by omega), if_pos (by omega), rdIt l (i - 1) hlt1, if_pos h2, if_neg hs, w1n hlt (by omega)]
        by_cases c2 : l[i].f2.toList = ([] : List UInt8)
        · rw [if_pos c2]
          refine Ev.congr (fun k => ?_) (tail true)
          rw [if_neg (by omega), if_pos hnm, if_pos c2]
        · rw [if_neg c2]
          by_cases c3 : l[i].f3.length = 0
          · rw [decide_eq_true c3, Bool.and_true]
            refine Ev.congr (f := fun k => (spec_l1Text.f k l[i].f2).bind fun t154 => (spec_DocOk.j7 k l c (i : Int) (!t154) l[i].f0 l[i].f1 l[i].f2 l[i].f3)) (fun k => ?_) ?_
            · rw [if_neg (by omega), if_pos hnm, if_neg c2, if_neg (by omega)]
            · refine Ev.bind (spec_text l[i].f2 (by omega)) ?_
              have := tail (!plainV l[i].f2)
              rw [Bool.not_not] at this
              exact this
          · rw [decide_eq_false c3, Bool.and_false]
            refine Ev.congr (fun k => ?_) (tail true)
            rw [if_neg (by omega), if_pos hnm, if_neg c2, if_pos (by omega)]
    · have : depV l i = false := decide_eq_false c1
      rw [this]
      refine Ev.congr (f := fun _ => some false) (fun k => ?_) (Ev.now _)
      rw [if_pos (by omega)]
end
theorem good_few {x : It} (h : goodV x = true) : x.f3.length ≤ 20 := by
  unfold goodV attrsV at h
  split at h
  · split at h
    · cases h
    · rw [Bool.and_eq_true, decide_eq_true_eq] at h
      omega
  · rw [Bool.and_eq_true] at h
    have h := h.2
    split at h
    · rw [Bool.and_eq_true, decide_eq_true_eq] at h
      omega
    · cases h
theorem spec_doc_l0 (l : List It) (hl : smallD l) (hn : l.length ≤ 200) : ∀ (n i : Nat) (c : Int), i + n = l.length → (∀ j, j < i → PosP l j) → 0 ≤ c → c ≤ 2500 → Ev (fun k => spec_DocOk.l0 k l c (i : Int)) (allN (stepV l) i n && decide (c + bytesD (l.drop i) ≤ 2500)) := by
  intro n
  induction n with
  | zero =>
    intro i c hi hp h0 hc
    rw [List.drop_of_length_le (by omega), allN, Bool.true_and, bytesD, Int.add_zero, decide_eq_true hc]
    refine Ev.step (f := fun _ => some true) (fun k => ?_) (Ev.now _)
    conv => lhs; unfold spec_DocOk.l0
    rw [if_neg (by omega)]
  | succ n ih =>
    intro i c hi hp h0 hc
    have hlt : i < l.length := by omega
    have hx : smallI l[i] := hl _ (List.getElem_mem hlt)
    have hb := bytesP_bound hx
    have hV := bytesV_bound hx
    have hdrop : bytesD (l.drop i) = bytesV l[i] + bytesD (l.drop (i + 1)) := by rw [List.drop_eq_getElem_cons hlt, bytesD]
    have hrest : 0 ≤ bytesD (l.drop (i + 1)) := bytesD_pos (fun x hx => hl x (List.mem_of_mem_drop hx))
    obtain ⟨hx1, hx2, hx3⟩ := hx
    have hup := upV_at hlt
    have e1 : wrap64 (c + (l[i].f1.size : Int)) = c + (l[i].f1.size : Int) := by rw [w64] <;> omega
    have e2 : wrap64 (c + (l[i].f1.size : Int) + (l[i].f2.size : Int)) = c + (l[i].f1.size : Int) + (l[i].f2.size : Int) := by rw [w64] <;> omega
    have main : Ev (fun k => spec_DocOk.j3 k l (c + bytesP l[i]) (i : Int) l[i].f0 l[i].f1 l[i].f2 l[i].f3) (allN (stepV l) i (n + 1) && decide (c + bytesD (l.drop i) ≤ 2500)) := by
      rw [allN]
      by_cases cb : c + bytesP l[i] > 2500
      · rw [decide_eq_false (show ¬ c + bytesD (l.drop i) ≤ 2500 by omega), Bool.and_false]
        refine Ev.step (f := fun _ => some false) (fun k => ?_) (Ev.now _)
        conv => lhs; unfold spec_DocOk.j3
        rw [if_pos cb]
      · by_cases hP : PosP l i
        · have hpi : ∀ j, j < i + 1 → PosP l j := fun j hj => by
            by_cases e : j = i
            · rw [e]; exact hP
            · exact hp j (by omega)
          have hc2 := spec_content l hl hn i hlt (c + bytesP l[i]) _ hpi (ih (i + 1) (c + bytesP l[i]) (by omega) hpi (by omega) (by omega))
          have hval : ((depV l i && (textV l i && goodAt l i)) && (allN (stepV l) (i + 1) n && decide (c + bytesP l[i] + bytesD (l.drop (i + 1)) ≤ 2500))) = ((stepV l i && allN (stepV l) (i + 1) n) && decide (c + bytesD (l.drop i) ≤ 2500)) := by
            have e : stepV l i = (depV l i && (textV l i && goodAt l i)) := by
              unfold stepV posV
              rw [decide_eq_true hP, Bool.true_and]
            rw [e]
            cases hg : goodAt l i with
            | false => simp
            | true =>
              rw [good_at hlt] at hg
              have hf := good_few hg
              have : bytesP l[i] = bytesV l[i] := by
                unfold bytesP bytesV
                rw [List.take_of_length_le hf]
              rw [this, show c + bytesV l[i] + bytesD (l.drop (i + 1)) = c + bytesD (l.drop i) by omega]
              simp only [Bool.and_assoc]
          rw [hval] at hc2
          by_cases h0i : i = 0
          · have hz := hP.1 h0i
            rw [← h0i] at hz
            have h1 := hz.1
            rw [hup] at h1
            have h2 := (el_yes hlt).1 hz.2
            refine Ev.step2' (fun k => ?_) hc2
            conv => lhs; unfold spec_DocOk.j3
            rw [if_neg cb, if_pos (by omega), if_pos h1, if_neg h2]
            conv => lhs; unfold spec_DocOk.j4
            rw [if_neg (by omega)]
          · obtain ⟨h1, h2, h3⟩ := hP.2 (by omega)
            have h4 := chain_lt _ _ h3
            have V : Val (upV l) (elV l) i := pos_val hp
            have ew : wrap64 ((i : Int) - 1) = ((i - 1 : Nat) : Int) := by rw [w64] <;> omega
            have ep : l[i].f0 = (((upV l i).toNat : Nat) : Int) := by rw [← hup]; omega
            have hin : inZ l[i].f0 0 ((i - 1 : Nat) : Int) = true := by
              unfold inZ
              simp
              omega
            have hlp : (upV l i).toNat < l.length := by omega
            have hq := spec_climb l V (by omega) (c + bytesP l[i]) i (upV l i).toNat l[i].f1 l[i].f2 l[i].f3 _ (i - 1) (by omega) (fun _ => by rw [← ep]; exact hc2)
            rw [decide_eq_true h3, Bool.true_and] at hq
            refine Ev.step2' (fun k => ?_) hq
            conv => lhs; unfold spec_DocOk.j3
            rw [if_neg cb, if_neg (by omega), ew, spec_in', Option.bind_some, hin, if_pos rfl, if_pos (by omega), if_pos (by omega), ep, rdIt l _ hlp, if_neg ((el_yes hlp).1 h2)]
            conv => lhs; unfold spec_DocOk.j4
            rw [if_pos (by omega), ew]
        · have e : stepV l i = false := by unfold stepV posV; rw [decide_eq_false hP]; rfl
          rw [e]
          by_cases h0i : i = 0
          · refine Ev.step (f := fun _ => some false) (fun k => ?_) (Ev.now _)
            conv => lhs; unfold spec_DocOk.j3
            rw [if_neg cb, if_pos (by omega)]
            by_cases h1 : l[i].f0 = -1
            · rw [if_pos h1]
              by_cases h2 : l[i].f1.toList = ([] : List UInt8)
              · rw [if_pos h2]
              · refine absurd ⟨fun _ => ?_, fun h => by omega⟩ hP
                subst h0i
                exact ⟨by rw [hup]; exact h1, (el_yes hlt).2 h2⟩
            · rw [if_neg h1]
          · have V : Val (upV l) (elV l) i := pos_val hp
            have ew : wrap64 ((i : Int) - 1) = ((i - 1 : Nat) : Int) := by rw [w64] <;> omega
            by_cases hin : inZ l[i].f0 0 ((i - 1 : Nat) : Int) = true
            · have hin2 := hin
              unfold inZ at hin2
              simp at hin2
              have ep : l[i].f0 = (((upV l i).toNat : Nat) : Int) := by rw [← hup] at hin2 ⊢; omega
              have hlp : (upV l i).toNat < l.length := by rw [← hup] at hin2; omega
              cases he : elV l (upV l i).toNat with
              | false =>
                refine Ev.step (f := fun _ => some false) (fun k => ?_) (Ev.now _)
                conv => lhs; unfold spec_DocOk.j3
                rw [if_neg cb, if_neg (by omega), ew, spec_in', Option.bind_some, hin, if_pos rfl, if_pos (by omega), if_pos (by omega), ep, rdIt l _ hlp, if_pos ((el_no hlp).1 he)]
              | true =>
                have hnc : ¬ (upV l i).toNat ∈ chain (upV l) (i - 1) := fun h => hP ⟨fun h => absurd h h0i, fun _ => ⟨by rw [hup]; omega, he, h⟩⟩
                have hq := spec_climb l V (by omega) (c + bytesP l[i]) i (upV l i).toNat l[i].f1 l[i].f2 l[i].f3 true (i - 1) (by omega) (fun h => absurd h hnc)
                rw [decide_eq_false hnc, Bool.false_and] at hq
                refine Ev.step2' (fun k => ?_) hq
                conv => lhs; unfold spec_DocOk.j3
                rw [if_neg cb, if_neg (by omega), ew, spec_in', Option.bind_some, hin, if_pos rfl, if_pos (by omega), if_pos (by omega), ep, rdIt l _ hlp, if_neg ((el_yes hlp).1 he)]
                conv => lhs; unfold spec_DocOk.j4
                rw [if_pos (by omega), ew]
            · refine Ev.step (f := fun _ => some false) (fun k => ?_) (Ev.now _)
              conv => lhs; unfold spec_DocOk.j3
              rw [if_neg cb, if_neg (by omega), ew, spec_in', Option.bind_some, if_neg hin]
    have hs := spec_sum l i l[i].f0 l[i].f1 l[i].f2 l[i].f3 hx3 _ (c + bytesP l[i]) main (l[i].f3.take 20).length 0 (c + (l[i].f1.size : Int) + (l[i].f2.size : Int)) (by omega) (by omega) (by omega) (by rw [List.drop_zero]; unfold bytesP; omega)
    refine Ev.step (fun k => ?_) hs
    conv => lhs; unfold spec_DocOk.l0
    rw [if_pos (by omega), if_pos (by omega), rdIt l i hlt, e1, e2]
    rfl
theorem spec_doc (l : List It) (hl : smallD l) (hb : l.length ≤ 1048576) : Ev (fun k => spec_DocOk.f k l) (docV l) := by
  have hj : Ev (fun k => spec_DocOk.j0 k l true) false := Ev.step (f := fun _ => some false) (fun k => rfl) (Ev.now _)
  unfold docV
  by_cases c1 : 1 ≤ l.length
  · by_cases c2 : l.length ≤ 200
    · rw [decide_eq_true c1, decide_eq_true c2]
      have := spec_doc_l0 l hl c2 l.length 0 0 (by omega) (fun j hj => by omega) (by omega) (by omega)
      rw [List.drop_zero, Int.zero_add] at this
      refine Ev.congr (f := fun k => spec_DocOk.j0 k l false) (fun k => ?_) (Ev.step (fun k => rfl) this)
      unfold spec_DocOk.f
      rw [if_neg (by omega), decide_eq_false (by omega)]
    · rw [decide_eq_false c2, Bool.and_false, Bool.false_and]
      refine Ev.congr (fun k => ?_) hj
      unfold spec_DocOk.f
      rw [if_neg (by omega), decide_eq_true (by omega)]
  · rw [decide_eq_false c1]
    refine Ev.congr (fun k => ?_) hj
    unfold spec_DocOk.f
    rw [if_pos (by omega)]
end Go.Proofs.YtpmjpbaeecnpiaaDoor.Pure

namespace Go.Proofs.YtpmjpbaeecnpiaaDoor.Pure
set_option linter.unusedVariables false
set_option linter.unusedSimpArgs false

namespace MT
def Ris (l : List Int) : Prop := l.Pairwise (· < ·)
theorem up_ext : ∀ {a b : List Int}, Ris a → Ris b → (∀ x, x ∈ a ↔ x ∈ b) → a = b
  | [], [], _, _, _ => rfl
  | [], y :: b, _, _, h => absurd ((h y).2 (by simp)) (by simp)
  | x :: a, [], _, _, h => absurd ((h x).1 (by simp)) (by simp)
  | x :: a, y :: b, ha, hb, h => by
    unfold Ris at ha hb
    rw [List.pairwise_cons] at ha hb
    have e : x = y := by
      rcases List.mem_cons.1 ((h x).1 (by simp)) with h1 | h1
      · exact h1
      · rcases List.mem_cons.1 ((h y).2 (by simp)) with h2 | h2
        · exact h2.symm
        · have := hb.1 x h1
          have := ha.1 y h2
          omega
    subst e
    rw [up_ext ha.2 hb.2 (fun z => ?_)]
    constructor
    · intro hz
      rcases List.mem_cons.1 ((h z).1 (by simp [hz])) with h1 | h1
      · have := ha.1 z hz
        omega
      · exact h1
    · intro hz
      rcases List.mem_cons.1 ((h z).2 (by simp [hz])) with h1 | h1
      · have := hb.1 z hz
        omega
      · exact h1
/-- Put in at its place, once. -/
def put1 (x : Int) : List Int → List Int
  | [] => [x]
  | y :: l => if y < x then y :: put1 x l else if y = x then y :: l else x :: y :: l
def srt (l : List Int) : List Int := l.foldl (fun a x => put1 x a) []
theorem mem_put1 {x z : Int} : ∀ {l : List Int}, z ∈ put1 x l ↔ z = x ∨ z ∈ l
  | [] => by simp [put1]
  | y :: l => by
    unfold put1
    split
    · rw [List.mem_cons, mem_put1, List.mem_cons]
      constructor
      · rintro (h | h | h)
        · exact .inr (.inl h)
        · exact .inl h
        · exact .inr (.inr h)
      · rintro (h | h | h)
        · exact .inr (.inl h)
        · exact .inl h
        · exact .inr (.inr h)
    · split
      · rename_i e
        subst e
        simp
      · simp
theorem up_put1 {x : Int} : ∀ {l : List Int}, Ris l → Ris (put1 x l)
  | [], _ => by simp [put1, Ris]
  | y :: l, h => by
    unfold Ris at h
    rw [List.pairwise_cons] at h
    unfold put1
    split
    · rename_i c
      refine List.pairwise_cons.2 ⟨fun z hz => ?_, up_put1 h.2⟩
      rcases mem_put1.1 hz with rfl | hz
      · exact c
      · exact h.1 z hz
    · split
      · exact List.pairwise_cons.2 h
      · refine List.pairwise_cons.2 ⟨fun z hz => ?_, List.pairwise_cons.2 h⟩
        rcases List.mem_cons.1 hz with rfl | hz
        · omega
        · have := h.1 z hz
          omega
theorem srt_from : ∀ (l a : List Int), Ris a → Ris (l.foldl (fun a x => put1 x a) a) ∧ ∀ z, z ∈ l.foldl (fun a x => put1 x a) a ↔ z ∈ a ∨ z ∈ l
  | [], a, h => ⟨h, by simp⟩
  | x :: l, a, h => by
    obtain ⟨h1, h2⟩ := srt_from l (put1 x a) (up_put1 h)
    refine ⟨h1, fun z => ?_⟩
    rw [List.foldl_cons, h2, mem_put1, List.mem_cons]
    constructor
    · rintro ((h | h) | h)
      · exact .inr (.inl h)
      · exact .inl h
      · exact .inr (.inr h)
    · rintro (h | h | h)
      · exact .inl (.inr h)
      · exact .inl (.inl h)
      · exact .inr h
theorem up_srt (l : List Int) : Ris (srt l) := (srt_from l [] .nil).1
theorem mem_srt {l : List Int} {z : Int} : z ∈ srt l ↔ z ∈ l := by
  rw [srt, (srt_from l [] .nil).2]
  simp
theorem srt_of {a l : List Int} (h : Ris a) (hm : ∀ z, z ∈ a ↔ z ∈ l) : a = srt l := up_ext h (up_srt l) (fun z => by rw [hm, mem_srt])
end MT
end Go.Proofs.YtpmjpbaeecnpiaaDoor.Pure

namespace Go.Proofs.YtpmjpbaeecnpiaaDoor.Pure
open Go.RowKit Go.Proofs.YtpmjpbaeecnpiaaDoor.L Go.Proofs.YtpmjpbaeecnpiaaDoorW.PrintWords Go.Proofs.YtpmjpbaeecnpiaaDoorW.PrintLast Go.Proofs.YtpmjpbaeecnpiaaDoorW.PrintMore
open MT
set_option linter.unusedVariables false
set_option linter.unusedSimpArgs false

theorem put1_len (x : Int) : ∀ l : List Int, (put1 x l).length ≤ l.length + 1
  | [] => by simp [put1]
  | y :: l => by
    have := put1_len x l
    unfold put1
    split
    · simp only [List.length_cons]; omega
    · split
      · simp only [List.length_cons]; omega
      · simp only [List.length_cons]; omega
theorem spec_put (xs : List Int) (i : Nat) (hi : i < xs.length) (hx : xs.length ≤ 1048576) (acc : List Int) (ha : acc.length ≤ i) (R : List Int) (hR : Ev (fun k => spec_l8Sorted.l0 k xs (put1 xs[i] acc) ((i + 1 : Nat) : Int)) R) : ∀ (n j : Nat), j + n = acc.length → put1 xs[i] acc = acc.take j ++ put1 xs[i] (acc.drop j) → Ev (fun k => spec_l8Sorted.l1 k xs acc (i : Int) (j : Int)) R := by
  intro n
  induction n with
  | zero =>
    intro j hj hput
    rw [List.drop_of_length_le (by omega), List.take_of_length_le (by omega)] at hput
    simp only [put1] at hput
    rw [hput] at hR
    refine Ev.step (fun k => ?_) hR
    conv => lhs; unfold spec_l8Sorted.l1
    rw [if_neg (by omega)]
    simp only [Option.bind_some, List.nil_append, List.length_nil]
    rw [if_pos (by omega), if_pos (by omega), Int.toNat_natCast, List.take_of_length_le (by omega), if_pos (by omega), if_pos (by omega), if_pos (by omega), if_pos (by omega), List.drop_of_length_le (by omega), if_pos (by simp; omega), List.append_nil, rdZ xs i hi, w1n hi (by omega)]
  | succ n ih =>
    intro j hj hput
    have hlt : j < acc.length := by omega
    have hd : acc.drop j = acc[j] :: acc.drop (j + 1) := List.drop_eq_getElem_cons hlt
    by_cases c1 : acc[j] < xs[i]
    · have := ih (j + 1) (by omega) (by
        rw [hput, hd]
        conv => lhs; unfold put1
        rw [if_pos c1, ← List.take_append_getElem hlt, List.append_assoc]
        rfl)
      refine Ev.step (fun k => ?_) this
      conv => lhs; unfold spec_l8Sorted.l1
      rw [if_pos (by omega), if_pos (by omega), if_pos (by omega), if_pos (by omega), rdZ xs i hi, rdZ acc j hlt, if_pos c1, w1n hlt (by omega)]
    · by_cases c2 : acc[j] = xs[i]
      · have e : put1 xs[i] acc = acc := by
          rw [hput, hd]
          unfold put1
          rw [if_neg c1, if_pos c2, ← hd, List.take_append_drop]
        rw [e] at hR
        refine Ev.step (fun k => ?_) hR
        conv => lhs; unfold spec_l8Sorted.l1
        rw [if_pos (by omega), if_pos (by omega), if_pos (by omega), if_pos (by omega), rdZ xs i hi, rdZ acc j hlt, if_neg c1, if_pos c2, w1n hi (by omega)]
      · have e : put1 xs[i] acc = acc.take j ++ [xs[i]] ++ acc.drop j := by
          rw [hput, hd]
          unfold put1
          rw [if_neg c1, if_neg c2]
          simp
        rw [e] at hR
        refine Ev.step (fun k => ?_) hR
        conv => lhs; unfold spec_l8Sorted.l1
        rw [if_pos (by omega), if_pos (by omega), if_pos (by omega), if_pos (by omega), rdZ xs i hi, rdZ acc j hlt, if_neg c1, if_neg c2]
        simp only [Option.bind_some, List.nil_append, List.length_nil, Int.toNat_natCast]
        rw [if_pos (by omega), if_pos (by rw [List.length_take]; omega), if_pos (by rw [List.length_take]; omega), if_pos (by simp only [List.length_append, List.length_take, List.length_drop, List.length_singleton]; omega), w1n hi (by omega)]
theorem spec_sorted_l0 (xs : List Int) (hx : xs.length ≤ 1048576) : ∀ (n i : Nat) (acc : List Int), i + n = xs.length → acc.length ≤ i → Ev (fun k => spec_l8Sorted.l0 k xs acc (i : Int)) ((xs.drop i).foldl (fun a x => put1 x a) acc) := by
  intro n
  induction n with
  | zero =>
    intro i acc hi ha
    rw [List.drop_of_length_le (by omega), List.foldl_nil]
    refine Ev.step (f := fun _ => some acc) (fun k => ?_) (Ev.now _)
    conv => lhs; unfold spec_l8Sorted.l0
    rw [if_neg (by omega)]
  | succ n ih =>
    intro i acc hi ha
    have hlt : i < xs.length := by omega
    rw [List.drop_eq_getElem_cons hlt, List.foldl_cons]
    have h1 := put1_len xs[i] acc
    have := spec_put xs i hlt hx acc ha _ (ih (i + 1) _ (by omega) (by omega)) acc.length 0 (by omega) (by simp)
    refine Ev.step (fun k => ?_) this
    conv => lhs; unfold spec_l8Sorted.l0
    rw [if_pos (by omega)]
    rfl
theorem spec_sorted (xs : List Int) (hx : xs.length ≤ 1048576) : Ev (fun k => spec_l8Sorted.f k xs) (srt xs) := by
  have := spec_sorted_l0 xs hx xs.length 0 [] (by omega) (by simp)
  rw [List.drop_zero] at this
  exact this
end Go.Proofs.YtpmjpbaeecnpiaaDoor.Pure

namespace Go.Proofs.YtpmjpbaeecnpiaaDoor.Pure
open Go.RowKit Go.Proofs.YtpmjpbaeecnpiaaDoor.L Go.Proofs.YtpmjpbaeecnpiaaDoorW.PrintWords Go.Proofs.YtpmjpbaeecnpiaaDoorW.PrintLast Go.Proofs.YtpmjpbaeecnpiaaDoorW.PrintMore
open DT MT
set_option linter.unusedVariables false
set_option linter.unusedSimpArgs false

def nmV (l : List It) (j : Nat) : List UInt8 := match l[j]? with | some x => x.f1.toList | none => []
theorem nmV_at {l : List It} {i : Nat} (h : i < l.length) : nmV l i = l[i].f1.toList := by
  unfold nmV; rw [List.getElem?_eq_getElem h]
/-! tables of truths -/
def tab (n : Nat) (f : Nat → Bool) : List Bool := (List.range n).map f
theorem tab_len (n : Nat) (f : Nat → Bool) : (tab n f).length = n := by simp [tab]
theorem tab_at {n : Nat} {f : Nat → Bool} {i : Nat} (h : i < n) : rdOf false (tab n f) (i : Int) = f i := by
  unfold rdOf tab
  simp [h]
theorem tab_congr {n : Nat} {f g : Nat → Bool} (h : ∀ i, i < n → f i = g i) : tab n f = tab n g := by
  unfold tab
  exact List.map_congr_left (fun i hi => h i (List.mem_range.1 hi))
theorem tab_get {n : Nat} {f : Nat → Bool} {i : Nat} (h : i < (tab n f).length) : (tab n f)[i] = f i := by
  simp [tab]
theorem tab_set (n : Nat) (f : Nat → Bool) (i : Nat) (v : Bool) : (tab n f).set i v = tab n (fun j => if j = i then v else f j) := by
  apply List.ext_getElem
  · simp [tab]
  · intro j h1 h2
    rw [List.getElem_set, tab_get, tab_get]
    by_cases e : j = i
    · rw [if_pos e, if_pos e.symm]
    · rw [if_neg e, if_neg (fun h => e h.symm)]
theorem tab_no (n : Nat) : List.replicate n false = tab n (fun _ => false) := by
  apply List.ext_getElem
  · simp [tab]
  · intro j h1 h2
    simp [tab]
/-- The first i places filled. -/
def upto (i : Nat) (f : Nat → Bool) (j : Nat) : Bool := if j < i then f j else false
theorem upto_next (n : Nat) (f : Nat → Bool) (i : Nat) (v : Bool) (hv : v = f i) : (tab n (upto i f)).set i v = tab n (upto (i + 1) f) := by
  rw [tab_set]
  refine tab_congr (fun j _ => ?_)
  unfold upto
  by_cases e : j = i
  · rw [if_pos e, if_pos (by omega), hv, e]
  · rw [if_neg e]
    by_cases h : j < i
    · rw [if_pos h, if_pos (by omega)]
    · rw [if_neg h, if_neg (by omega)]
theorem upto_all (n : Nat) (f : Nat → Bool) : tab n (upto n f) = tab n f := tab_congr (fun j h => by unfold upto; rw [if_pos h])
theorem upto_none (n : Nat) (f : Nat → Bool) : List.replicate n false = tab n (upto 0 f) := by
  rw [tab_no]
  exact tab_congr (fun j h => by unfold upto; rw [if_neg (by omega)])
/-- Where one starts. -/
def startB (l : List It) (t : Nat) (deep : Bool) (i : Nat) : Bool := decide (i = t) || (deep && (elV l i && decide (t ∈ chain (upV l) i)))
/-- One step down. -/
def stepB (l : List It) (B : Nat → Bool) (nm : List UInt8) (i : Nat) : Bool := decide (0 ≤ upV l i) && (B (upV l i).toNat && decide (nmV l i = nm))
def finB (l : List It) (B : Nat → Bool) (names : List ByteArray) : Nat → Bool := names.foldl (fun B x => stepB l B x.toList) B
section
variable (l : List It) (V : Val (upV l) (elV l) l.length) (hn : l.length ≤ 200)
include V hn
omit hn in
theorem impl_within_is (t : Nat) : ∀ j, j < l.length → Ev (fun k => impl_within.f k l (j : Int) (t : Int)) (decide (t ∈ chain (upV l) j)) := by
  intro j
  induction j using Nat.strongRecOn with
  | _ j ih =>
  intro hlt
  have hup := upV_at hlt
  by_cases c : j > t
  · obtain ⟨h1, h2, h3⟩ := V.2 j (by omega) hlt
    have := ih (upV l j).toNat h2 (by omega)
    have e2 : l[j].f0 = (((upV l j).toNat : Nat) : Int) := by rw [← hup]; omega
    have e3 : (t ∈ chain (upV l) j) ↔ (t ∈ chain (upV l) (upV l j).toNat) := by
      rw [chain_up h1 h2, List.mem_cons]
      exact ⟨fun h => h.resolve_left (by omega), .inr⟩
    rw [decide_eq_decide.2 e3]
    refine Ev.step (fun k => ?_) this
    show impl_within.l0 (k + 1) l (j : Int) (t : Int) = _
    conv => lhs; unfold impl_within.l0
    rw [if_pos (by omega), if_pos (by omega), if_pos (by omega), rdIt l j hlt, e2]
    rfl
  · have e : ((j : Int) == (t : Int)) = decide (t ∈ chain (upV l) j) := by
      rw [Bool.eq_iff_iff, decide_eq_true_eq, beq_iff_eq]
      constructor
      · intro h
        rw [show j = t by omega, chain_eq]
        simp
      · intro h
        have := chain_lt _ _ h
        omega
    refine Ev.step (f := fun _ => some ((j : Int) == (t : Int))) (fun k => ?_) (by rw [e]; exact Ev.now _)
    show impl_within.l0 (k + 1) l (j : Int) (t : Int) = _
    conv => lhs; unfold impl_within.l0
    rw [if_neg (by omega)]
omit V in
theorem impl_led_l3 (B : Nat → Bool) : ∀ (n i : Nat), i + n = l.length → Ev (fun k => impl_led.l3 k (((List.range i).filter B).map Int.ofNat) (tab l.length B) ((tab l.length B).length : Int) (i : Int)) (((List.range l.length).filter B).map Int.ofNat) := by
  intro n
  induction n with
  | zero =>
    intro i hi
    rw [show i = l.length by omega]
    refine Ev.step (f := fun _ => some (((List.range l.length).filter B).map Int.ofNat)) (fun k => ?_) (Ev.now _)
    conv => lhs; unfold impl_led.l3
    rw [if_neg (by rw [tab_len]; omega)]
  | succ n ih =>
    intro i hi
    have hlt : i < l.length := by omega
    have hnext := ih (i + 1) (by omega)
    have hlen : (((List.range i).filter B).map Int.ofNat).length ≤ i := by
      rw [List.length_map]
      have := List.length_filter_le B (List.range i)
      rw [List.length_range] at this
      exact this
    rw [List.range_succ, List.filter_append, List.map_append] at hnext
    cases hb : B i with
    | true =>
      rw [show List.filter B [i] = [i] by simp [hb]] at hnext
      refine Ev.step (fun k => ?_) hnext
      conv => lhs; unfold impl_led.l3
      rw [if_pos (by rw [tab_len]; omega), if_pos (by omega), if_pos (by rw [tab_len]; omega), tab_at hlt, if_pos hb, if_pos (by omega), w1n hlt (by omega)]
      rfl
    | false =>
      rw [show List.filter B [i] = [] by simp [hb], List.map_nil, List.append_nil] at hnext
      refine Ev.step (fun k => ?_) hnext
      conv => lhs; unfold impl_led.l3
      rw [if_pos (by rw [tab_len]; omega), if_pos (by omega), if_pos (by rw [tab_len]; omega), tab_at hlt, if_neg (by rw [hb]; decide), w1n hlt (by omega)]
theorem impl_led_l2 (B : Nat → Bool) (nm : ByteArray) (names : List ByteArray) (x : Int) (R : List Int) (hR : Ev (fun k => impl_led.l1 k l (tab l.length (stepB l B nm.toList)) names (names.length : Int) (wrap64 (x + 1))) R) : ∀ (n i : Nat), i + n = l.length → Ev (fun k => impl_led.l2 k l (tab l.length B) nm (tab l.length (upto i (stepB l B nm.toList))) names (names.length : Int) x l (l.length : Int) (i : Int)) R := by
  intro n
  induction n with
  | zero =>
    intro i hi
    rw [show i = l.length by omega, upto_all]
    refine Ev.step (fun k => ?_) hR
    conv => lhs; unfold impl_led.l2
    rw [if_neg (by omega)]
  | succ n ih =>
    intro i hi
    have hlt : i < l.length := by omega
    have hup := upV_at hlt
    have hnext := ih (i + 1) (by omega)
    refine Ev.step (fun k => ?_) hnext
    conv => lhs; unfold impl_led.l2
    rw [if_pos (by omega), if_pos (by omega), if_pos (by omega), rdIt l i hlt]
    by_cases c1 : l[i].f0 ≥ 0
    · have hi0 : 0 < i := by
        rcases Nat.eq_zero_or_pos i with h | h
        · have := (V.1 (by omega)).1
          rw [← h, hup] at this
          omega
        · exact h
      obtain ⟨h1, h2, h3⟩ := V.2 i hi0 hlt
      have e2 : l[i].f0 = (((upV l i).toNat : Nat) : Int) := by rw [← hup]; omega
      rw [if_pos c1, if_pos (by omega), if_pos (by rw [tab_len]; omega), e2, tab_at (by omega), tab_len, Int.toNat_natCast]
      cases hb : B (upV l i).toNat with
      | true =>
        rw [if_pos rfl, if_pos (by omega), w1n hlt (by omega), upto_next _ _ _ _ (by unfold stepB; rw [decide_eq_true h1, hb, nmV_at hlt, Bool.true_and, Bool.true_and, Bool.eq_iff_iff, beq_iff_eq, decide_eq_true_eq])]
      | false =>
        rw [if_neg (by decide), if_pos (by omega), w1n hlt (by omega), upto_next _ _ _ _ (by unfold stepB; rw [hb]; simp)]
    · rw [if_neg c1, tab_len, if_pos (by omega), Int.toNat_natCast, w1n hlt (by omega), upto_next _ _ _ _ (by unfold stepB; rw [hup, decide_eq_false c1]; simp)]
theorem impl_led_l1 (names : List ByteArray) (hm : names.length ≤ 1048576) : ∀ (n i : Nat) (B : Nat → Bool), i + n = names.length → Ev (fun k => impl_led.l1 k l (tab l.length B) names (names.length : Int) (i : Int)) (((List.range l.length).filter (finB l B (names.drop i))).map Int.ofNat) := by
  intro n
  induction n with
  | zero =>
    intro i B hi
    rw [List.drop_of_length_le (by omega)]
    refine Ev.step (fun k => ?_) (impl_led_l3 l hn B l.length 0 (by omega))
    conv => lhs; unfold impl_led.l1
    rw [if_neg (by omega)]
    rfl
  | succ n ih =>
    intro i B hi
    have hlt : i < names.length := by omega
    rw [List.drop_eq_getElem_cons hlt]
    have hnext := ih (i + 1) (stepB l B names[i].toList) (by omega)
    have h2 := impl_led_l2 l V hn B names[i] names (i : Int) _ (by rw [w1n hlt (by omega)]; exact hnext) l.length 0 (by omega)
    have er : rdOf ByteArray.empty names (i : Int) = names[i] := by
      unfold rdOf
      simp [hlt]
    refine Ev.step (fun k => ?_) h2
    conv => lhs; unfold impl_led.l1
    rw [if_pos (by omega), if_pos (by omega), if_pos (by omega), if_pos (by omega), if_pos (by omega), er, Int.toNat_natCast, upto_none l.length (stepB l B names[i].toList)]
    rfl
theorem impl_led_l0 (t : Nat) (names : List ByteArray) (deep : Bool) (R : List Int) (hR : Ev (fun k => impl_led.l1 k l (tab l.length (startB l t deep)) names (names.length : Int) 0) R) : ∀ (n i : Nat), i + n = l.length → Ev (fun k => impl_led.l0 k l (t : Int) names deep (tab l.length (upto i (startB l t deep))) l (l.length : Int) (i : Int)) R := by
  intro n
  induction n with
  | zero =>
    intro i hi
    rw [show i = l.length by omega, upto_all]
    refine Ev.step (fun k => ?_) hR
    conv => lhs; unfold impl_led.l0
    rw [if_neg (by omega)]
  | succ n ih =>
    intro i hi
    have hlt : i < l.length := by omega
    have hnext := ih (i + 1) (by omega)
    by_cases c1 : i = t
    · refine Ev.step (fun k => ?_) hnext
      conv => lhs; unfold impl_led.l0
      rw [if_pos (by omega), if_pos (by omega), if_pos (by omega), if_pos (by omega), tab_len, if_pos (by omega), Int.toNat_natCast, w1n hlt (by omega), upto_next _ _ _ _ (by unfold startB; rw [decide_eq_true c1]; rfl)]
    · cases hd : deep with
      | false =>
        subst hd
        refine Ev.step (fun k => ?_) hnext
        conv => lhs; unfold impl_led.l0
        rw [if_pos (by omega), if_pos (by omega), if_pos (by omega), if_neg (by omega), if_neg (by decide), tab_len, if_pos (by omega), Int.toNat_natCast, w1n hlt (by omega), upto_next _ _ _ _ (by unfold startB; rw [decide_eq_false c1]; rfl)]
      | true =>
        subst hd
        cases he : elV l i with
        | false =>
          refine Ev.step (fun k => ?_) hnext
          conv => lhs; unfold impl_led.l0
          rw [if_pos (by omega), if_pos (by omega), if_pos (by omega), if_neg (by omega), if_pos rfl, rdIt l i hlt, if_pos ((el_no hlt).1 he), tab_len, if_pos (by omega), Int.toNat_natCast, w1n hlt (by omega), upto_next _ _ _ _ (by unfold startB; rw [decide_eq_false c1, he]; rfl)]
        | true =>
          have hw := impl_within_is l V t i hlt
          refine Ev.step (f := fun k => (impl_within.f k l (i : Int) (t : Int)).bind fun t372 => (impl_led.l0 k l (t : Int) names true ((tab l.length (upto i (startB l t true))).set i t372) l (l.length : Int) ((i + 1 : Nat) : Int))) (fun k => ?_) (Ev.bind hw ?_)
          · conv => lhs; unfold impl_led.l0
            rw [if_pos (by omega), if_pos (by omega), if_pos (by omega), if_neg (by omega), if_pos rfl, rdIt l i hlt, if_neg ((el_yes hlt).1 he)]
            congr 1
            funext t372
            rw [tab_len, if_pos (by omega), Int.toNat_natCast, w1n hlt (by omega)]
          · rw [upto_next _ _ _ _ (by unfold startB; rw [decide_eq_false c1, he]; rfl)]
            exact hnext
theorem impl_led_is (t : Nat) (names : List ByteArray) (hm : names.length ≤ 1048576) (deep : Bool) : Ev (fun k => impl_led.f k l (t : Int) names deep) (((List.range l.length).filter (finB l (startB l t deep) names)).map Int.ofNat) := by
  have h1 := impl_led_l1 l V hn names hm names.length 0 (startB l t deep) (by omega)
  rw [List.drop_zero] at h1
  have := impl_led_l0 l V hn t names deep _ h1 l.length 0 (by omega)
  refine Ev.congr (fun k => ?_) this
  unfold impl_led.f
  rw [if_pos (by omega), if_pos (by omega), Int.toNat_natCast, upto_none l.length (startB l t deep)]
  rfl
end
end Go.Proofs.YtpmjpbaeecnpiaaDoor.Pure

namespace Go.Proofs.YtpmjpbaeecnpiaaDoor.Pure
open Go.RowKit Go.Proofs.YtpmjpbaeecnpiaaDoor.L Go.Proofs.YtpmjpbaeecnpiaaDoorW.PrintWords Go.Proofs.YtpmjpbaeecnpiaaDoorW.PrintLast Go.Proofs.YtpmjpbaeecnpiaaDoorW.PrintMore
set_option linter.unusedVariables false
set_option linter.unusedSimpArgs false

theorem segs_len : ∀ (l acc : List UInt8) (x : List UInt8), x ∈ segs acc l → x.length ≤ acc.length + l.length
  | [], acc, x, h => by simp [segs] at h; subst h; simp
  | b :: t, acc, x, h => by
    rw [segs] at h
    by_cases c : b = 47
    · rw [if_pos c] at h
      rcases List.mem_cons.1 h with h | h
      · subst h; simp
      · have := segs_len t [] x h; simp at this ⊢; omega
    · rw [if_neg c] at h
      have := segs_len t _ x h
      simp at this ⊢; omega
def stepsV (deep : Bool) (out : List ByteArray) (L : List (List UInt8)) : List ByteArray × Bool × Bool :=
  if L.all nameB = true then (out ++ L.map mkB, deep, decide (((out ++ L.map mkB).length : Int) ≤ 6)) else ([], false, false)
theorem stepsV_cons (deep : Bool) (out : List ByteArray) (x : ByteArray) (L : List (List UInt8)) (h : nameB x.data.toList = true) : stepsV deep out (x.data.toList :: L) = stepsV deep (out ++ [x]) L := by
  unfold stepsV
  rw [List.all_cons, h, Bool.true_and, List.map_cons, mkB_of]
  simp only [List.append_assoc, List.singleton_append]
theorem stepsV_bad (deep : Bool) (out : List ByteArray) (x : List UInt8) (L : List (List UInt8)) (h : nameB x = false) : stepsV deep out (x :: L) = ([], false, false) := by
  unfold stepsV
  rw [List.all_cons, h, Bool.false_and, if_neg (by decide)]
theorem ex1 (s : ByteArray) (i : Nat) (h : i < s.data.toList.length) : (s.extract i (i + 1)).data.toList = [s.data.toList[i]] := by
  rw [ByteArray.data_extract, Array.toList_extract]
  simp only [List.extract_eq_take_drop, Nat.add_sub_cancel_left]
  rw [List.drop_eq_getElem_cons h]
  rfl
theorem w47 (b : UInt8) : ((b.toNat : Int) != 47) = !(decide (b = 47)) := by
  have := byte_is b 47 (by decide)
  by_cases c : b = 47
  · subst c; rfl
  · have h2 : ¬ (b.toNat : Int) = 47 := fun h => c (this.1 h)
    simp [c, h2]
theorem spec_steps_l0 (p : ByteArray) (hp : p.data.toList.length ≤ 1048576) (deep : Bool) : ∀ (n i : Nat) (out : List ByteArray) (x : ByteArray), i + n = p.data.toList.length → out.length ≤ i → x.data.toList.length ≤ i →
    Ev (fun k => spec_l11Steps.l0 k p deep out x (i : Int)) (stepsV deep out (segs x.data.toList (p.data.toList.drop i))) := by
  have hend : ∀ (i : Nat) (out : List ByteArray) (x : ByteArray), p.data.toList.length < i → Ev (fun k => spec_l11Steps.l0 k p deep out x (i : Int)) (out, deep, decide ((out.length : Int) ≤ 6)) := by
    intro i out x hi
    refine Ev.step (f := fun _ => some (out, deep, decide ((out.length : Int) ≤ 6))) (fun k => ?_) (Ev.now _)
    unfold spec_l11Steps.l0
    rw [if_neg (by rw [sz]; omega)]
  intro n
  induction n with
  | zero =>
    intro i out x hi ho hx
    rw [List.drop_of_length_le (by omega), segs]
    refine Ev.step (f := fun k => spec_l11Steps.j3 k p deep out x (i : Int) false) (fun k => ?_) ?_
    · conv => lhs; unfold spec_l11Steps.l0
      rw [if_pos (by rw [sz]; omega), if_neg (by rw [sz]; omega)]
    · refine Ev.step (f := fun k => (spec_NameOk.f k x).bind fun t108 => (if t108 = true then (spec_l11Steps.l0 k p deep (out ++ [x]) (⟨#[]⟩ : ByteArray) ((i + 1 : Nat) : Int)) else (some (([] : List ByteArray), false, false)))) (fun k => ?_) ?_
      · have w : wrap64 ((i : Int) + 1) = ((i + 1 : Nat) : Int) := by rw [w64] <;> omega
        conv => lhs; unfold spec_l11Steps.j3
        rw [if_neg (by decide), w]
        simp only [if_pos (show out.length < 8796093022208 by omega)]
      · refine Ev.bind (spec_name x) ?_
        by_cases c : nameB x.data.toList = true
        · rw [stepsV_cons _ _ _ _ c]
          simp only [c, if_true]
          have := hend (i + 1) (out ++ [x]) ⟨#[]⟩ (by omega)
          simpa [stepsV] using this
        · rw [Bool.not_eq_true] at c
          rw [stepsV_bad _ _ _ _ c]
          simp only [c, Bool.false_eq_true, if_false]
          exact Ev.now _
  | succ n ih =>
    intro i out x hi ho hx
    have hlt : i < p.data.toList.length := by omega
    have hd : p.data.toList.drop i = p.data.toList[i] :: p.data.toList.drop (i + 1) := List.drop_eq_getElem_cons hlt
    have w : wrap64 ((i : Int) + 1) = ((i + 1 : Nat) : Int) := by rw [w64] <;> omega
    refine Ev.step (f := fun k => spec_l11Steps.j3 k p deep out x (i : Int) (!(decide (p.data.toList[i] = 47)))) (fun k => ?_) ?_
    · conv => lhs; unfold spec_l11Steps.l0
      rw [if_pos (by rw [sz]; omega), if_pos (by rw [sz]; omega), if_pos (by omega), bt_nat p i hlt, w47]
    · rw [hd, segs]
      by_cases c : p.data.toList[i] = 47
      · rw [if_pos c]
        refine Ev.step (f := fun k => (spec_NameOk.f k x).bind fun t108 => (if t108 = true then (spec_l11Steps.l0 k p deep (out ++ [x]) (⟨#[]⟩ : ByteArray) ((i + 1 : Nat) : Int)) else (some (([] : List ByteArray), false, false)))) (fun k => ?_) ?_
        · conv => lhs; unfold spec_l11Steps.j3
          rw [if_neg (by rw [decide_eq_true c]; decide), w]
          simp only [if_pos (show out.length < 8796093022208 by omega)]
        · refine Ev.bind (spec_name x) ?_
          by_cases d : nameB x.data.toList = true
          · rw [stepsV_cons _ _ _ _ d]
            simp only [d, if_true]
            exact ih (i + 1) (out ++ [x]) ⟨#[]⟩ (by omega) (by simp; omega) (by simp)
          · rw [Bool.not_eq_true] at d
            rw [stepsV_bad _ _ _ _ d]
            simp only [d, Bool.false_eq_true, if_false]
            exact Ev.now _
      · rw [if_neg c]
        have hx2 : (x ++ p.extract i (i + 1)).data.toList = x.data.toList ++ [p.data.toList[i]] := by rw [ba_app, ex1 p i hlt]
        have hz : (p.extract i (i + 1)).size = 1 := by rw [sz, ex1 p i hlt]; rfl
        refine Ev.step (f := fun k => spec_l11Steps.l0 k p deep out (x ++ p.extract i (i + 1)) ((i + 1 : Nat) : Int)) (fun k => ?_) ?_
        · conv => lhs; unfold spec_l11Steps.j3
          have e1 : ((i : Int)).toNat = i := by omega
          have e2 : (((i + 1 : Nat) : Int)).toNat = i + 1 := by omega
          rw [if_pos (by rw [decide_eq_false c]; rfl), if_pos (by omega), w, if_pos (show (i : Int) ≤ ((i + 1 : Nat) : Int) by omega), if_pos (show ((i + 1 : Nat) : Int) ≤ (p.size : Int) by rw [sz]; omega), e1, e2, if_pos (show x.size + (p.extract i (i + 1)).size ≤ 9223372036854775807 by rw [hz, sz x]; omega)]
        · have := ih (i + 1) out (x ++ p.extract i (i + 1)) (by omega) (by omega) (by rw [hx2, List.length_append, List.length_singleton]; omega)
          rw [hx2] at this
          exact this

/-- Whether two strokes stand ahead, and the rest. -/
def twoB : List UInt8 → Bool
  | a :: b :: _ => decide (a = 47) && decide (b = 47)
  | _ => false
theorem two_iff (l : List UInt8) : twoB l = (l.take 2 == [47, 47]) := by
  match l with
  | [] => rfl
  | [a] => simp [twoB]
  | a :: b :: t =>
    simp only [twoB, List.take_succ_cons, List.take_zero]
    by_cases h1 : a = 47 <;> by_cases h2 : b = 47 <;> simp [h1, h2]
theorem two_len (l : List UInt8) (h : twoB l = true) : 2 ≤ l.length := by
  match l, h with
  | a :: b :: t, _ => simp
theorem ex_take (s : ByteArray) (n : Nat) : (s.extract 0 n).data.toList = s.data.toList.take n := by
  rw [ByteArray.data_extract, Array.toList_extract]
  simp [List.extract_eq_take_drop]
def deepS (l : List UInt8) : Bool := decide (2 < l.length) && twoB l
def specSteps (l : List UInt8) : List ByteArray × Bool × Bool := stepsV (deepS l) [] (segs [] (if deepS l = true then l.drop 2 else l))
theorem spec_steps (s : ByteArray) (hs : s.data.toList.length ≤ 1048576) : Ev (fun k => spec_l11Steps.f k s) (specSteps s.data.toList) := by
  refine Ev.congr (f := fun k => spec_l11Steps.j0 k s (deepS s.data.toList)) (fun k => ?_) ?_
  · unfold spec_l11Steps.f deepS
    by_cases c : 2 < s.data.toList.length
    · rw [if_pos (by rw [sz]; omega), if_pos (by omega), if_pos (by rw [sz]; omega), Lib.toList_data, ex_take, two_iff, decide_eq_true c, Bool.true_and]
    · rw [if_neg (by rw [sz]; omega), decide_eq_false c, Bool.false_and]
  · cases hd : deepS s.data.toList with
    | true =>
      have h2 : 2 ≤ s.data.toList.length := by
        unfold deepS at hd
        simp only [Bool.and_eq_true, decide_eq_true_eq] at hd
        omega
      refine Ev.step (f := fun k => spec_l11Steps.j1 k (s.extract 2 s.size) true) (fun k => ?_) ?_
      · have e : spec_l11Steps.j0 (k + 1) s true = (if 2 ≤ (s.size : Int) then spec_l11Steps.j1 k (s.extract 2 s.size) true else none) := rfl
        rw [e, if_pos (by rw [sz]; omega)]
      · refine Ev.step (f := fun k => spec_l11Steps.l0 k (s.extract 2 s.size) true [] (⟨#[]⟩ : ByteArray) ((0 : Nat) : Int)) (fun k => ?_) ?_
        · rfl
        · have e : (s.extract 2 s.size).data.toList = s.data.toList.drop 2 := Lib.extract_to_end s 2
          have := spec_steps_l0 (s.extract 2 s.size) (by rw [e, List.length_drop]; omega) true _ 0 [] ⟨#[]⟩ (by rw [Nat.zero_add]) (by simp) (by simp)
          rw [e] at this
          unfold specSteps
          rw [hd]
          simpa using this
    | false =>
      refine Ev.step (f := fun k => spec_l11Steps.j1 k s false) (fun k => ?_) ?_
      · rfl
      · refine Ev.step (f := fun k => spec_l11Steps.l0 k s false [] (⟨#[]⟩ : ByteArray) ((0 : Nat) : Int)) (fun k => ?_) ?_
        · rfl
        · have := spec_steps_l0 s hs false _ 0 [] ⟨#[]⟩ (by rw [Nat.zero_add]) (by simp) (by simp)
          unfold specSteps
          rw [hd]
          simpa using this

/-- What the program's reader of paths answers. -/
def implSteps (s : ByteArray) : List ByteArray × Bool × Bool :=
  if 20000 < s.data.toList.length then ([], false, false)
  else if 6 < (segs [] (if twoB s.data.toList = true then s.data.toList.drop 2 else s.data.toList)).length then ([], false, false)
  else if (segs [] (if twoB s.data.toList = true then s.data.toList.drop 2 else s.data.toList)).all nameB = true then
    ((segs [] (if twoB s.data.toList = true then s.data.toList.drop 2 else s.data.toList)).map mkB, twoB s.data.toList, true)
  else ([], false, false)
theorem cut_two (s : ByteArray) : strings_CutPrefix.f s ⟨#[47, 47]⟩ = some (if twoB s.data.toList = true then s.extract 2 s.size else s, twoB s.data.toList) := by
  have e2 : (((⟨#[47, 47]⟩ : ByteArray).size : Nat) : Int) = 2 := rfl
  have e3 : (⟨#[47, 47]⟩ : ByteArray).toList = [47, 47] := by rw [Lib.toList_data]
  unfold strings_CutPrefix.f stringslite_CutPrefix.f stringslite_HasPrefix.f
  rw [e2, e3]
  by_cases c : 2 ≤ s.data.toList.length
  · rw [if_pos (by rw [sz]; omega), if_pos (by omega), if_pos (by rw [sz]; omega)]
    have e4 : (s.extract 0 ((2 : Int)).toNat).toList = s.data.toList.take 2 := by
      rw [Lib.toList_data]; exact ex_take s 2
    rw [e4, ← two_iff]
    simp only [Option.bind_some]
    cases ht : twoB s.data.toList with
    | true =>
      simp only [if_true]
      rw [if_pos (by omega), if_pos (by rw [sz]; omega)]
      rfl
    | false => rfl
  · have ht : twoB s.data.toList = false := by
      cases hh : twoB s.data.toList with
      | true => exact absurd (two_len _ hh) c
      | false => rfl
    rw [if_neg (by rw [sz]; omega), ht]
    rfl
theorem names_all (hb : Nat) (hbb : hb ≤ 9223372036854775806) : ∀ L : List ByteArray, (∀ x ∈ L, x.data.toList.length ≤ hb) → ∃ K, ∀ k, K ≤ k → ∀ x ∈ L, impl_NameOk.f k x = some (nameB x.data.toList)
  | [], _ => ⟨0, fun _ _ _ h => by cases h⟩
  | x :: L, h => by
    obtain ⟨K1, h1⟩ := impl_name x (Nat.le_trans (h x (by simp)) hbb)
    obtain ⟨K2, h2⟩ := names_all hb hbb L fun y hy => h y (by simp [hy])
    refine ⟨max K1 K2, fun k hk y hy => ?_⟩
    rcases List.mem_cons.1 hy with e | hy
    · subst e; exact h1 k (by omega)
    · exact h2 k (by omega) y hy
theorem any_same {α : Type} {f g : α → Bool} : ∀ L : List α, (∀ x ∈ L, f x = g x) → L.any f = L.any g
  | [], _ => rfl
  | x :: L, h => by
    rw [List.any_cons, List.any_cons, h x (by simp), any_same L fun y hy => h y (by simp [hy])]
theorem impl_steps (s : ByteArray) (hs : s.data.toList.length ≤ 1048576) : Ev (fun k => impl_stepsOf.f k s) (implSteps s) := by
  obtain ⟨t, ht⟩ : ∃ t, (if twoB s.data.toList = true then s.extract 2 s.size else s) = t := ⟨_, rfl⟩
  have htl : t.data.toList = (if twoB s.data.toList = true then s.data.toList.drop 2 else s.data.toList) := by
    rw [← ht]
    split
    · exact Lib.extract_to_end s 2
    · rfl
  have htn : t.data.toList.length ≤ 1048576 := by
    rw [htl]; split
    · rw [List.length_drop]; omega
    · exact hs
  have hno := names_of t
  have hlen : (namesOf t).length = (segs [] t.data.toList).length := by rw [← hno, List.length_map]
  have hmost := names_most t
  have hsmall : ∀ x ∈ namesOf t, x.data.toList.length ≤ 1048576 := by
    intro x hx
    have : x.data.toList ∈ segs [] t.data.toList := by rw [← hno]; exact List.mem_map_of_mem hx
    have := segs_len _ _ _ this
    simp at this ⊢
    simp at htn
    omega
  obtain ⟨K, hK⟩ := names_all 1048576 (by decide) (namesOf t) hsmall
  refine ⟨K, fun k hk => ?_⟩
  show impl_stepsOf.f k s = _
  unfold impl_stepsOf.f
  rw [cut_two, ht]
  simp only [Option.bind_some]
  rw [if_pos ⟨by rw [sz]; omega, names_len t, by rw [sz] at hmost; omega⟩]
  unfold implSteps
  rw [← htl, ← hlen]
  by_cases c1 : 20000 < s.data.toList.length
  · rw [if_pos (by rw [sz]; omega), if_pos c1]
  · rw [if_neg (by rw [sz]; omega), if_neg c1]
    by_cases c2 : 6 < (namesOf t).length
    · rw [if_pos (by omega), if_pos c2]
    · rw [if_neg (by omega), if_neg c2]
      have hall : (namesOf t).all (fun s => (impl_NameOk.f k s).isSome) = true := by
        rw [List.all_eq_true]; intro x hx; rw [hK k hk x hx]; rfl
      rw [if_pos hall]
      have hq : (namesOf t).any (fun s => !nameK k s) = !((segs [] t.data.toList).all nameB) := by
        rw [← hno, List.all_map, List.not_all_eq_any_not]
        refine any_same _ fun x hx => ?_
        unfold nameK
        rw [hK k hk x hx]
        rfl
      rw [hq]
      cases ha : (segs [] t.data.toList).all nameB with
      | true =>
        simp only [Bool.not_true, Bool.false_eq_true, if_false, if_true]
        congr 2
        rw [← hno, List.map_map]
        conv => lhs; rw [← List.map_id (namesOf t)]
        refine List.map_congr_left fun x _ => ?_
        exact (mkB_of x).symm
      | false => simp
def pathB (l : List UInt8) : Bool := (specSteps l).2.2 && decide (l.length ≤ 20000)
theorem spec_path (s : ByteArray) (hs : s.data.toList.length ≤ 1048576) : Ev (fun k => spec_PathOk.f k s) (pathB s.data.toList) := by
  unfold spec_PathOk.f pathB
  refine Ev.bind (spec_steps s hs) ?_
  cases h : (specSteps s.data.toList).2.2 with
  | true =>
    refine Ev.congr (f := fun _ => some (decide (s.data.toList.length ≤ 20000))) (fun k => ?_) (Ev.now _)
    rw [if_pos rfl]
    congr 1
    rw [sz]
    simp only [decide_eq_decide]
    omega
  | false =>
    refine Ev.congr (f := fun _ => some false) (fun k => ?_) (Ev.now _)
    rw [if_neg (by decide)]
/-- The two readers say alike whether a path is one; where it is one they tell the same names. -/
theorem steps_alike (s : ByteArray) : (implSteps s).2.2 = pathB s.data.toList ∧ (pathB s.data.toList = true → (implSteps s).1 = (specSteps s.data.toList).1 ∧ (implSteps s).2.1 = (specSteps s.data.toList).2.1) := by
  unfold pathB implSteps
  by_cases c1 : 20000 < s.data.toList.length
  · rw [if_pos c1]
    have : decide (s.data.toList.length ≤ 20000) = false := decide_eq_false (by omega)
    rw [this, Bool.and_false]
    exact ⟨rfl, fun h => by cases h⟩
  · rw [if_neg c1]
    have : decide (s.data.toList.length ≤ 20000) = true := decide_eq_true (by omega)
    rw [this, Bool.and_true]
    by_cases c2 : 2 < s.data.toList.length
    · have e : deepS s.data.toList = twoB s.data.toList := by unfold deepS; rw [decide_eq_true c2, Bool.true_and]
      unfold specSteps stepsV
      rw [e, List.nil_append]
      generalize hS : segs [] (if twoB s.data.toList = true then s.data.toList.drop 2 else s.data.toList) = S
      clear hS
      cases ha : S.all nameB with
      | true =>
        simp only [if_true, List.length_map]
        by_cases c3 : 6 < S.length
        · rw [if_pos c3]
          have : decide ((S.length : Int) ≤ 6) = false := decide_eq_false (by omega)
          rw [this]
          exact ⟨rfl, fun h => by cases h⟩
        · rw [if_neg c3]
          have : decide ((S.length : Int) ≤ 6) = true := decide_eq_true (by omega)
          rw [this]
          exact ⟨rfl, fun _ => ⟨rfl, rfl⟩⟩
      | false =>
        simp only [Bool.false_eq_true, if_false]
        refine ⟨?_, fun h => by cases h⟩
        split <;> rfl
    · have e : deepS s.data.toList = false := by unfold deepS; rw [decide_eq_false c2, Bool.false_and]
      unfold specSteps stepsV
      rw [e, List.nil_append]
      simp only [Bool.false_eq_true, if_false]
      cases ht : twoB s.data.toList with
      | true =>
        have hl : s.data.toList = [47, 47] := by
          match hm : s.data.toList, ht, c2 with
          | [a, b], ht, _ =>
            simp only [twoB, Bool.and_eq_true, decide_eq_true_eq] at ht
            rw [ht.1, ht.2]
          | a :: b :: c :: t, _, c2 => simp at c2
        rw [hl]
        exact ⟨by decide, fun h => absurd h (by decide)⟩
      | false =>
        simp only [Bool.false_eq_true, if_false]
        generalize segs [] s.data.toList = S
        cases ha : S.all nameB with
        | true =>
          simp only [if_true, List.length_map]
          by_cases c3 : 6 < S.length
          · rw [if_pos c3]
            have : decide ((S.length : Int) ≤ 6) = false := decide_eq_false (by omega)
            rw [this]
            exact ⟨rfl, fun h => by cases h⟩
          · rw [if_neg c3]
            have : decide ((S.length : Int) ≤ 6) = true := decide_eq_true (by omega)
            rw [this]
            exact ⟨rfl, fun _ => ⟨rfl, rfl⟩⟩
        | false =>
          simp only [Bool.false_eq_true, if_false]
          refine ⟨?_, fun h => by cases h⟩
          split <;> rfl
end Go.Proofs.YtpmjpbaeecnpiaaDoor.Pure

namespace Go.Proofs.YtpmjpbaeecnpiaaDoor.Pure
open Go.RowKit Go.Proofs.YtpmjpbaeecnpiaaDoor.L Go.Proofs.YtpmjpbaeecnpiaaDoorW.PrintWords Go.Proofs.YtpmjpbaeecnpiaaDoorW.PrintLast Go.Proofs.YtpmjpbaeecnpiaaDoorW.PrintMore
open DT MT
set_option linter.unusedVariables false
set_option linter.unusedSimpArgs false

def ofN (s : List Nat) : List Int := s.map Int.ofNat
theorem ofN_len (s : List Nat) : (ofN s).length = s.length := by simp [ofN]
theorem ofN_app (s t : List Nat) : ofN (s ++ t) = ofN s ++ ofN t := by simp [ofN]
theorem ofN_at {s : List Nat} {i : Nat} (h : i < s.length) : rd (ofN s) (i : Int) = (s[i] : Int) := by
  rw [rdZ _ _ (by rw [ofN_len]; exact h)]
  simp [ofN]
theorem ofN_mem {s : List Nat} {z : Int} : z ∈ ofN s ↔ 0 ≤ z ∧ z.toNat ∈ s := by
  unfold ofN
  rw [List.mem_map]
  constructor
  · rintro ⟨a, h, rfl⟩
    exact ⟨by simp, by simpa using h⟩
  · rintro ⟨h1, h2⟩
    exact ⟨z.toNat, h2, by simp; omega⟩
/-- The kids of item i. -/
def kidsN (l : List It) (i : Nat) : List Nat := (List.range l.length).filter (fun j => decide (i < j) && decide (upV l j = (i : Int)))
theorem kidsN_mem {l : List It} {i j : Nat} : j ∈ kidsN l i ↔ j < l.length ∧ i < j ∧ upV l j = (i : Int) := by
  unfold kidsN
  simp [List.mem_filter]
theorem nodup_filter {p : Nat → Bool} {s : List Nat} (h : s.Nodup) : (s.filter p).Nodup := List.Pairwise.filter p h
theorem few {l : List It} {s : List Nat} (h : s.Nodup) (hs : ∀ i ∈ s, i < l.length) : s.length ≤ l.length := by
  have := h.length_le_of_subset (l₂ := List.range l.length) (fun i hi => List.mem_range.2 (hs i hi))
  rwa [List.length_range] at this
theorem kidsN_len (l : List It) (i : Nat) : (kidsN l i).length ≤ l.length := few (nodup_filter List.nodup_range) (fun j hj => (kidsN_mem.1 hj).1)
/-- One step down. -/
def stepN (l : List It) (s : List Nat) (nm : List UInt8) : List Nat := s.flatMap (fun i => (kidsN l i).filter (fun j => decide (nmV l j = nm)))
theorem stepN_mem {l : List It} {s : List Nat} {nm : List UInt8} {j : Nat} : j ∈ stepN l s nm ↔ ∃ i ∈ s, (j < l.length ∧ i < j ∧ upV l j = (i : Int)) ∧ nmV l j = nm := by
  unfold stepN
  rw [List.mem_flatMap]
  simp only [List.mem_filter, kidsN_mem, decide_eq_true_eq]
theorem stepN_nodup {l : List It} {s : List Nat} {nm : List UInt8} (h : s.Nodup) : (stepN l s nm).Nodup := by
  unfold stepN List.Nodup
  rw [List.pairwise_flatMap]
  refine ⟨fun i _ => nodup_filter (nodup_filter List.nodup_range), ?_⟩
  refine List.Pairwise.imp ?_ h
  intro a b hab x hx y hy
  simp only [List.mem_filter, kidsN_mem, decide_eq_true_eq] at hx hy
  rintro rfl
  exact hab (by omega)
def finN (l : List It) (s : List Nat) (names : List ByteArray) : List Nat := names.foldl (fun s x => stepN l s x.toList) s
/-- Where one starts. -/
def startN (l : List It) (t : Nat) (deep : Bool) : List Nat := if deep = true then t :: (List.range l.length).filter (fun i => decide (t < i) && (decide (t ∈ chain (upV l) i) && elV l i)) else [t]
section
variable (l : List It) (hn : l.length ≤ 200)
include hn
theorem spec_kids_l0 (p : Nat) : ∀ (n i : Nat), i + n = l.length → p < i → Ev (fun k => spec_l2Kids.l0 k l (p : Int) (ofN ((List.range i).filter (fun j => decide (p < j) && decide (upV l j = (p : Int))))) (i : Int)) (ofN (kidsN l p)) := by
  intro n
  induction n with
  | zero =>
    intro i hi hp
    rw [show i = l.length by omega]
    refine Ev.step (f := fun _ => some (ofN (kidsN l p))) (fun k => ?_) (Ev.now _)
    conv => lhs; unfold spec_l2Kids.l0
    rw [if_neg (by omega)]
    rfl
  | succ n ih =>
    intro i hi hp
    have hlt : i < l.length := by omega
    have hup := upV_at hlt
    have hnext := ih (i + 1) (by omega) (by omega)
    have hlen : (ofN ((List.range i).filter (fun j => decide (p < j) && decide (upV l j = (p : Int))))).length ≤ i := by
      rw [ofN_len]
      have := List.length_filter_le (fun j => decide (p < j) && decide (upV l j = (p : Int))) (List.range i)
      rw [List.length_range] at this
      exact this
    rw [List.range_succ, List.filter_append, ofN_app] at hnext
    by_cases c : l[i].f0 = (p : Int)
    · rw [show List.filter (fun j => decide (p < j) && decide (upV l j = (p : Int))) [i] = [i] by simp [hup, c, hp]] at hnext
      refine Ev.step (fun k => ?_) hnext
      conv => lhs; unfold spec_l2Kids.l0
      rw [if_pos (by omega), if_pos (by omega), rdIt l i hlt, if_pos c, if_pos (by omega), w1n hlt (by omega)]
      rfl
    · rw [show List.filter (fun j => decide (p < j) && decide (upV l j = (p : Int))) [i] = [] by simp [hup, c], show ofN [] = [] from rfl, List.append_nil] at hnext
      refine Ev.step (fun k => ?_) hnext
      conv => lhs; unfold spec_l2Kids.l0
      rw [if_pos (by omega), if_pos (by omega), rdIt l i hlt, if_neg c, w1n hlt (by omega)]
theorem spec_kids (p : Nat) (hp : p < l.length) : Ev (fun k => spec_l2Kids.f k l (p : Int)) (ofN (kidsN l p)) := by
  have := spec_kids_l0 l hn p (l.length - (p + 1)) (p + 1) (by omega) (by omega)
  have e : (List.range (p + 1)).filter (fun j => decide (p < j) && decide (upV l j = (p : Int))) = [] := by
    rw [List.filter_eq_nil_iff]
    intro j hj
    rw [List.mem_range] at hj
    simp
    omega
  rw [e] at this
  refine Ev.congr (fun k => ?_) this
  unfold spec_l2Kids.f
  rw [w1n hp (by omega)]
  rfl
omit hn in
theorem spec_sel_l4 (names : List ByteArray) (c : Nat) (hc : c < names.length) (S K : List Nat) (hK : ∀ j ∈ K, j < l.length) (hKb : K.length ≤ 200) (x : Int) (R : List Int) : ∀ (n j : Nat) (A : List Nat), j + n = K.length → A.length + n ≤ 1048576 → Ev (fun k => spec_l11Select.l3 k l names (ofN S) (c : Int) (ofN (A ++ (K.drop j).filter (fun q => decide (nmV l q = names[c].toList)))) (wrap64 (x + 1))) R → Ev (fun k => spec_l11Select.l4 k l names (ofN S) (c : Int) (ofN A) x (ofN K) (j : Int)) R := by
  intro n
  induction n with
  | zero =>
    intro j A hj hA h
    rw [List.drop_of_length_le (by omega), List.filter_nil, List.append_nil] at h
    refine Ev.step (fun k => ?_) h
    conv => lhs; unfold spec_l11Select.l4
    rw [if_neg (by rw [ofN_len]; omega)]
  | succ n ih =>
    intro j A hj hA h
    have hlt : j < K.length := by omega
    have hq : K[j] < l.length := hK _ (List.getElem_mem hlt)
    have er : rdOf ByteArray.empty names (c : Int) = names[c] := by
      unfold rdOf
      simp [hc]
    have hKl : ((ofN K).length : Int) = K.length := by rw [ofN_len]
    rw [List.drop_eq_getElem_cons hlt, List.filter_cons] at h
    by_cases cn : nmV l K[j] = names[c].toList
    · rw [if_pos (decide_eq_true cn)] at h
      have := ih (j + 1) (A ++ [K[j]]) (by omega) (by simp; omega) (by rw [List.append_assoc]; exact h)
      rw [nmV_at hq] at cn
      refine Ev.step (fun k => ?_) this
      conv => lhs; unfold spec_l11Select.l4
      rw [if_pos (by omega), if_pos (by omega), ofN_at hlt, if_pos (by omega), if_pos (by omega), if_pos (by omega), if_pos (by omega), rdIt l _ hq, er, if_pos cn, if_pos (by rw [ofN_len]; omega), w1n hlt (by omega), ofN_app]
      rfl
    · rw [if_neg (by rw [decide_eq_true_eq]; exact cn)] at h
      have := ih (j + 1) A (by omega) (by omega) h
      rw [nmV_at hq] at cn
      refine Ev.step (fun k => ?_) this
      conv => lhs; unfold spec_l11Select.l4
      rw [if_pos (by omega), if_pos (by omega), ofN_at hlt, if_pos (by omega), if_pos (by omega), if_pos (by omega), if_pos (by omega), rdIt l _ hq, er, if_neg cn, w1n hlt (by omega)]
theorem spec_sel_l3 (names : List ByteArray) (c : Nat) (hc : c < names.length) (S : List Nat) (hS : ∀ i ∈ S, i < l.length) (hSl : S.length ≤ 200) (R : List Int) (hR : Ev (fun k => spec_l11Select.l2 k l names (ofN (stepN l S names[c].toList)) (wrap64 ((c : Int) + 1))) R) : ∀ (n i : Nat) (A : List Nat), i + n = S.length → A.length ≤ 200 * i → A ++ stepN l (S.drop i) names[c].toList = stepN l S names[c].toList → Ev (fun k => spec_l11Select.l3 k l names (ofN S) (c : Int) (ofN A) (i : Int)) R := by
  intro n
  induction n with
  | zero =>
    intro i A hi hA h
    rw [List.drop_of_length_le (by omega)] at h
    simp only [stepN, List.flatMap_nil, List.append_nil] at h
    rw [h]
    refine Ev.step (fun k => ?_) hR
    conv => lhs; unfold spec_l11Select.l3
    rw [if_neg (by rw [ofN_len]; omega)]
    rfl
  | succ n ih =>
    intro i A hi hA h
    have hlt : i < S.length := by omega
    have hq : S[i] < l.length := hS _ (List.getElem_mem hlt)
    rw [List.drop_eq_getElem_cons hlt] at h
    unfold stepN at h
    rw [List.flatMap_cons, ← List.append_assoc] at h
    have hkl := kidsN_len l S[i]
    have hfl := List.length_filter_le (fun j => decide (nmV l j = names[c].toList)) (kidsN l S[i])
    have hnext := ih (i + 1) (A ++ (kidsN l S[i]).filter (fun j => decide (nmV l j = names[c].toList))) (by omega) (by rw [List.length_append]; omega) h
    have h4 := spec_sel_l4 l names c hc S (kidsN l S[i]) (fun j hj => (kidsN_mem.1 hj).1) (by omega) (i : Int) R (kidsN l S[i]).length 0 A (by omega) (by omega) (by rw [List.drop_zero, w1n hlt (by omega)]; exact hnext)
    refine Ev.step (f := fun k => (spec_l2Kids.f k l ((S[i] : Nat) : Int)).bind fun t247 => (spec_l11Select.l4 k l names (ofN S) (c : Int) (ofN A) (i : Int) t247 0)) (fun k => ?_) (Ev.bind (spec_kids l hn S[i] hq) h4)
    conv => lhs; unfold spec_l11Select.l3
    rw [if_pos (by rw [ofN_len]; omega), if_pos (by omega), ofN_at hlt]
theorem spec_sel_l2 (names : List ByteArray) (hm : names.length ≤ 1048576) : ∀ (n c : Nat) (S : List Nat), c + n = names.length → S.Nodup → (∀ i ∈ S, i < l.length) → Ev (fun k => spec_l11Select.l2 k l names (ofN S) (c : Int)) (srt (ofN (finN l S (names.drop c)))) := by
  intro n
  induction n with
  | zero =>
    intro c S hc hd hS
    rw [List.drop_of_length_le (by omega)]
    have hSl := few hd hS
    refine Ev.step (f := fun k => (spec_l8Sorted.f k (ofN S)).bind fun t240 => some t240) (fun k => ?_) (Ev.bind (spec_sorted (ofN S) (by rw [ofN_len]; omega)) (Ev.now _))
    conv => lhs; unfold spec_l11Select.l2
    rw [if_neg (by omega)]
  | succ n ih =>
    intro c S hc hd hS
    have hlt : c < names.length := by omega
    have hSl := few hd hS
    rw [List.drop_eq_getElem_cons hlt]
    have hnext := ih (c + 1) (stepN l S names[c].toList) (by omega) (stepN_nodup hd) (fun i hi => by
      obtain ⟨_, _, h, _⟩ := stepN_mem.1 hi
      exact h.1)
    have h3 := spec_sel_l3 l hn names c hlt S hS (by omega) _ (by rw [w1n hlt (by omega)]; exact hnext) S.length 0 [] (by omega) (by simp) (by simp)
    refine Ev.step (fun k => ?_) h3
    conv => lhs; unfold spec_l11Select.l2
    rw [if_pos (by omega)]
    rfl
theorem spec_sel_l1 (V : Val (upV l) (elV l) l.length) (t : Nat) (names : List ByteArray) (acc : List Int) (ha : acc.length ≤ 1048576) (i : Nat) (hi : i < l.length) (R : List Int)
    (h1 : t ∈ chain (upV l) i → elV l i = true → Ev (fun k => spec_l11Select.l0 k l (t : Int) names (acc ++ [(i : Int)]) ((i + 1 : Nat) : Int)) R)
    (h2 : ¬ (t ∈ chain (upV l) i ∧ elV l i = true) → Ev (fun k => spec_l11Select.l0 k l (t : Int) names acc ((i + 1 : Nat) : Int)) R) : ∀ j, j < l.length → ((t ∈ chain (upV l) i) ↔ (t ∈ chain (upV l) j)) → Ev (fun k => spec_l11Select.l1 k l (t : Int) names acc (i : Int) (j : Int)) R := by
  intro j
  induction j using Nat.strongRecOn with
  | _ j ih =>
  intro hlt hij
  have hup := upV_at hlt
  by_cases c : j > t
  · obtain ⟨q1, q2, q3⟩ := V.2 j (by omega) hlt
    have e2 : l[j].f0 = (((upV l j).toNat : Nat) : Int) := by rw [← hup]; omega
    have e3 : (t ∈ chain (upV l) j) ↔ (t ∈ chain (upV l) (upV l j).toNat) := by
      rw [chain_up q1 q2, List.mem_cons]
      exact ⟨fun h => h.resolve_left (by omega), .inr⟩
    have := ih (upV l j).toNat q2 (by omega) (hij.trans e3)
    refine Ev.step (fun k => ?_) this
    conv => lhs; unfold spec_l11Select.l1
    rw [if_pos (by omega), if_pos (by omega), if_pos (by omega), rdIt l j hlt, e2]
  · by_cases c2 : j = t
    · have hm : t ∈ chain (upV l) i := hij.2 (by rw [c2, chain_eq]; simp)
      cases he : elV l i with
      | true =>
        refine Ev.step (fun k => ?_) (h1 hm he)
        conv => lhs; unfold spec_l11Select.l1
        rw [if_neg (by omega), if_pos (by omega), if_pos (by omega), if_pos (by omega), rdIt l i hi, if_neg ((el_yes hi).1 he), if_pos (by omega), w1n hi (by omega)]
      | false =>
        refine Ev.step (fun k => ?_) (h2 (fun h => by rw [he] at h; exact absurd h.2 (by decide)))
        conv => lhs; unfold spec_l11Select.l1
        rw [if_neg (by omega), if_pos (by omega), if_pos (by omega), if_pos (by omega), rdIt l i hi, if_pos ((el_no hi).1 he), w1n hi (by omega)]
    · have hm : ¬ t ∈ chain (upV l) i := fun h => by
        have := chain_lt _ _ (hij.1 h)
        have hmj := hij.1 h
        rcases Nat.eq_or_lt_of_le this with e | e
        · exact c2 e.symm
        · omega
      refine Ev.step (fun k => ?_) (h2 (fun h => hm h.1))
      conv => lhs; unfold spec_l11Select.l1
      rw [if_neg (by omega), if_neg (by omega), w1n hi (by omega)]
theorem spec_sel_l0 (V : Val (upV l) (elV l) l.length) (t : Nat) (names : List ByteArray) (R : List Int) (hR : Ev (fun k => spec_l11Select.j2 k l names (ofN (startN l t true))) R) : ∀ (n i : Nat), i + n = l.length → t < i → Ev (fun k => spec_l11Select.l0 k l (t : Int) names (ofN (t :: (List.range i).filter (fun j => decide (t < j) && (decide (t ∈ chain (upV l) j) && elV l j)))) (i : Int)) R := by
  intro n
  induction n with
  | zero =>
    intro i hi ht
    rw [show i = l.length by omega]
    refine Ev.step (fun k => ?_) hR
    conv => lhs; unfold spec_l11Select.l0
    rw [if_neg (by omega)]
    rfl
  | succ n ih =>
    intro i hi ht
    have hlt : i < l.length := by omega
    have hnext := ih (i + 1) (by omega) (by omega)
    rw [List.range_succ, List.filter_append, ← List.cons_append, ofN_app] at hnext
    have hlen : (ofN (t :: (List.range i).filter (fun j => decide (t < j) && (decide (t ∈ chain (upV l) j) && elV l j)))).length ≤ i + 1 := by
      rw [ofN_len, List.length_cons]
      have := List.length_filter_le (fun j => decide (t < j) && (decide (t ∈ chain (upV l) j) && elV l j)) (List.range i)
      rw [List.length_range] at this
      omega
    have h1 := spec_sel_l1 l hn V t names (ofN (t :: (List.range i).filter (fun j => decide (t < j) && (decide (t ∈ chain (upV l) j) && elV l j)))) (by omega) i hlt R (fun hm he => by
        rw [show List.filter (fun j => decide (t < j) && (decide (t ∈ chain (upV l) j) && elV l j)) [i] = [i] by simp [hm, he, ht]] at hnext
        exact hnext) (fun h => by
        rw [show List.filter (fun j => decide (t < j) && (decide (t ∈ chain (upV l) j) && elV l j)) [i] = [] by simp; intro _ hm; cases he : elV l i with | true => exact absurd ⟨hm, he⟩ h | false => rfl, show ofN [] = [] from rfl, List.append_nil] at hnext
        exact hnext) i hlt Iff.rfl
    refine Ev.step (fun k => ?_) h1
    conv => lhs; unfold spec_l11Select.l0
    rw [if_pos (by omega)]
end
theorem startN_mem {l : List It} {t : Nat} (ht : t < l.length) {deep : Bool} {i : Nat} : i ∈ startN l t deep ↔ i < l.length ∧ startB l t deep i = true := by
  unfold startN startB
  cases deep with
  | false =>
    simp only [Bool.false_eq_true, if_false, List.mem_singleton, Bool.false_and, Bool.or_false, decide_eq_true_eq]
    exact ⟨fun h => ⟨by omega, h⟩, fun h => h.2⟩
  | true =>
    simp only [if_true, List.mem_cons, List.mem_filter, List.mem_range, Bool.and_eq_true, Bool.or_eq_true, decide_eq_true_eq, Bool.true_and]
    constructor
    · rintro (h | ⟨h1, h2, h3, h4⟩)
      · exact ⟨by omega, .inl h⟩
      · exact ⟨h1, .inr ⟨h4, h3⟩⟩
    · rintro ⟨h1, h | ⟨h4, h3⟩⟩
      · exact .inl h
      · have := chain_lt _ _ h3
        by_cases e : i = t
        · exact .inl e
        · exact .inr ⟨h1, by omega, h3, h4⟩
theorem startN_nodup (l : List It) (t : Nat) (deep : Bool) : (startN l t deep).Nodup := by
  unfold startN
  split
  · refine List.nodup_cons.2 ⟨?_, nodup_filter List.nodup_range⟩
    simp
  · simp
theorem finN_mem {l : List It} (V : Val (upV l) (elV l) l.length) : ∀ (names : List ByteArray) (s : List Nat) (B : Nat → Bool), (∀ i, i ∈ s ↔ i < l.length ∧ B i = true) → ∀ i, i ∈ finN l s names ↔ i < l.length ∧ finB l B names i = true
  | [], s, B, h, i => h i
  | nm :: names, s, B, h, i => by
    refine finN_mem V names (stepN l s nm.toList) (stepB l B nm.toList) (fun j => ?_) i
    rw [stepN_mem]
    unfold stepB
    simp only [Bool.and_eq_true, decide_eq_true_eq]
    constructor
    · rintro ⟨a, ha, ⟨h1, h2, h3⟩, h4⟩
      refine ⟨h1, by omega, ?_, h4⟩
      rw [h3, Int.toNat_natCast]
      exact ((h a).1 ha).2
    · rintro ⟨h1, h2, h3, h4⟩
      have hj0 : 0 < j := by
        rcases Nat.eq_zero_or_pos j with e | e
        · have := (V.1 (by omega)).1
          rw [e] at h2
          omega
        · exact e
      obtain ⟨q1, q2, q3⟩ := V.2 j hj0 h1
      exact ⟨(upV l j).toNat, (h _).2 ⟨by omega, h3⟩, ⟨h1, q2, by omega⟩, h4⟩
theorem led_up (l : List It) (B : Nat → Bool) : Ris (ofN ((List.range l.length).filter B)) := by
  unfold Ris ofN
  rw [List.pairwise_map]
  refine List.Pairwise.imp ?_ (List.Pairwise.filter B List.pairwise_lt_range)
  intro a b h
  simpa using h
/-- Both ways lead to the same. -/
theorem led_same {l : List It} (V : Val (upV l) (elV l) l.length) {t : Nat} (ht : t < l.length) (names : List ByteArray) (deep : Bool) : srt (ofN (finN l (startN l t deep) names)) = ((List.range l.length).filter (finB l (startB l t deep) names)).map Int.ofNat := by
  refine (srt_of (led_up l _) (fun z => ?_)).symm
  rw [ofN_mem, ofN_mem, finN_mem V names _ _ (fun i => startN_mem ht), List.mem_filter, List.mem_range]
theorem spec_led (l : List It) (hn : l.length ≤ 200) (V : Val (upV l) (elV l) l.length) (t : Nat) (ht : t < l.length) (s : ByteArray) (hs : s.data.toList.length ≤ 1048576) (hm : (specSteps s.data.toList).1.length ≤ 1048576) : Ev (fun k => spec_l11Select.f k l (t : Int) s) (((List.range l.length).filter (finB l (startB l t (specSteps s.data.toList).2.1) (specSteps s.data.toList).1)).map Int.ofNat) := by
  refine Ev.congr (f := fun k => (spec_l11Steps.f k s).bind fun bt227 => (if bt227.2.1 = true then (spec_l11Select.l0 k l (t : Int) bt227.1 [(t : Int)] (wrap64 ((t : Int) + 1))) else (spec_l11Select.j2 k l bt227.1 [(t : Int)]))) (fun k => rfl) (Ev.bind (spec_steps s hs) ?_)
  generalize specSteps s.data.toList = T at *
  obtain ⟨names, deep, ok⟩ := T
  simp only at hm ⊢
  rw [← led_same V ht]
  have h2 := spec_sel_l2 l hn names hm names.length 0 (startN l t deep) (by omega) (startN_nodup l t deep) (fun i hi => ((startN_mem ht).1 hi).1)
  rw [List.drop_zero] at h2
  have hj : Ev (fun k => spec_l11Select.j2 k l names (ofN (startN l t deep))) (srt (ofN (finN l (startN l t deep) names))) := by
    refine Ev.step (fun k => ?_) h2
    conv => lhs; unfold spec_l11Select.j2
    rfl
  cases deep with
  | false => exact hj
  | true =>
    simp only [if_true]
    rw [w1n ht (by omega)]
    have h0 := spec_sel_l0 l hn V t names _ hj (l.length - (t + 1)) (t + 1) (by omega) (by omega)
    have e : (List.range (t + 1)).filter (fun j => decide (t < j) && (decide (t ∈ chain (upV l) j) && elV l j)) = [] := by
      rw [List.filter_eq_nil_iff]
      intro j hj
      rw [List.mem_range] at hj
      simp
      omega
    rw [e] at h0
    exact h0
theorem doc_val {l : List It} (h : docV l = true) : 0 < l.length ∧ l.length ≤ 200 ∧ Val (upV l) (elV l) l.length := by
  unfold docV at h
  simp only [Bool.and_eq_true, decide_eq_true_eq] at h
  obtain ⟨⟨h1, h2⟩, h3, h4⟩ := h
  refine ⟨by omega, h2, pos_val (fun j hj => ?_)⟩
  rw [allN_iff] at h3
  exact step_pos (h3 j (by omega) (by omega))
theorem seg_count : ∀ (l acc : List UInt8), (segs acc l).length ≤ l.length + 1
  | [], acc => by simp [segs]
  | b :: t, acc => by
    rw [segs]
    by_cases c : b = 47
    · rw [if_pos c, List.length_cons, List.length_cons]
      have := seg_count t []
      omega
    · rw [if_neg c, List.length_cons]
      have := seg_count t (acc ++ [b])
      omega
theorem steps_few (l : List UInt8) (hs : l.length ≤ 1048570) : (specSteps l).1.length ≤ 1048576 := by
  have hd : ∀ b : Bool, (if b = true then l.drop 2 else l).length ≤ l.length := by
    intro b
    cases b with
    | true => simp only [if_true, List.length_drop]; omega
    | false => exact Nat.le_refl _
  have hql := hd (deepS l)
  unfold specSteps
  generalize (if deepS l = true then l.drop 2 else l) = q at *
  unfold stepsV
  have := seg_count q []
  by_cases c : (segs [] q).all nameB = true
  · rw [if_pos c]
    simp only [List.nil_append, List.length_map]
    omega
  · rw [if_neg c]
    simp
/-- What is selected. -/
def selV (l : List It) (n : Int) (s : ByteArray) : List Int :=
  if docV l = true ∧ 0 ≤ n ∧ n < l.length ∧ elV l n.toNat = true ∧ pathB s.data.toList = true then ((List.range l.length).filter (finB l (startB l n.toNat (specSteps s.data.toList).2.1) (specSteps s.data.toList).1)).map Int.ofNat else []
theorem selV_len (l : List It) (n : Int) (s : ByteArray) (hl : l.length ≤ 1048576) : (selV l n s).length ≤ 1048576 := by
  unfold selV
  split
  · rw [List.length_map]
    have := List.length_filter_le (finB l (startB l n.toNat (specSteps s.data.toList).2.1) (specSteps s.data.toList).1) (List.range l.length)
    rw [List.length_range] at this
    omega
  · simp
theorem path_len {l : List UInt8} (h : pathB l = true) : l.length ≤ 20000 := by
  unfold pathB at h
  simp only [Bool.and_eq_true, decide_eq_true_eq] at h
  exact h.2
theorem impl_select (l : List It) (n : Int) (s : ByteArray) (hl : l.length ≤ 1048576) (hsm : smallD l) (hs : s.data.toList.length ≤ 1048576) : Ev (fun k => impl_Select.f k l n s) (selV l n s) := by
  have hst := impl_steps s hs
  obtain ⟨q1, q2⟩ := steps_alike s
  refine Ev.congr (f := fun k => (impl_stepsOf.f k s).bind fun bt392 => (if bt392.2.2 = true then ((impl_isElement.f k l n).bind fun t397 => (if t397 = true then ((impl_led.f k l n bt392.1 bt392.2.1).bind fun t398 => (some t398)) else (some ([] : List Int)))) else (some ([] : List Int)))) (fun k => rfl) (Ev.bind hst ?_)
  unfold selV
  rw [q1]
  cases hp : pathB s.data.toList with
  | false =>
    simp only [Bool.false_eq_true, and_false, if_false]
    exact Ev.now _
  | true =>
    obtain ⟨q3, q4⟩ := q2 hp
    simp only [if_true, and_true]
    have hdoc := impl_doc l hsm hl
    have hel : Ev (fun k => impl_isElement.f k l n) (decide (docV l = true ∧ 0 ≤ n ∧ n < l.length ∧ elV l n.toNat = true)) := by
      cases hd : docV l with
      | false =>
        rw [hd] at hdoc
        simp only [Bool.false_eq_true, false_and, decide_false]
        refine Ev.congr (f := fun k => ((impl_DocOk.f k l).bind fun t360 => (if t360 = true then ((impl_in.f n 0 (wrap64 ((l.length : Int) - 1))).bind fun t361 => (some t361)) else (some false))).bind fun t362 => (if t362 = true then (if 0 ≤ n then (if n < (l.length : Int) then (some (((rd_T39 l n).f1).toList != ([] : List UInt8))) else (none)) else (none)) else (some false))) (fun k => rfl) (Ev.bind (Ev.bind hdoc (Ev.now _)) ?_)
        exact Ev.now _
      | true =>
        rw [hd] at hdoc
        have hv := doc_val hd
        have ew : wrap64 ((l.length : Int) - 1) = ((l.length - 1 : Nat) : Int) := by rw [w64] <;> omega
        refine Ev.congr (f := fun k => ((impl_DocOk.f k l).bind fun t360 => (if t360 = true then ((impl_in.f n 0 (wrap64 ((l.length : Int) - 1))).bind fun t361 => (some t361)) else (some false))).bind fun t362 => (if t362 = true then (if 0 ≤ n then (if n < (l.length : Int) then (some (((rd_T39 l n).f1).toList != ([] : List UInt8))) else (none)) else (none)) else (some false))) (fun k => rfl) (Ev.bind (Ev.bind hdoc (show Ev _ (inZ n 0 ((l.length - 1 : Nat) : Int)) by
          simp only [if_true, ew, impl_in', Option.bind_some]
          exact Ev.now _)) ?_)
        by_cases c : 0 ≤ n ∧ n < l.length
        · have hin : inZ n 0 ((l.length - 1 : Nat) : Int) = true := by unfold inZ; simp; omega
          have hlt : n.toNat < l.length := by omega
          have er : rd_T39 l n = l[n.toNat] := by
            have := rdIt l n.toNat hlt
            rwa [show ((n.toNat : Nat) : Int) = n by omega] at this
          rw [hin]
          simp only [if_true, if_pos c.1, if_pos c.2, er, true_and]
          have e : (l[n.toNat].f1.toList != ([] : List UInt8)) = decide (0 ≤ n ∧ n < l.length ∧ elV l n.toNat = true) := by
            rw [Bool.eq_iff_iff, bne_iff_ne, decide_eq_true_eq, el_yes hlt]
            exact ⟨fun h => ⟨c.1, c.2, h⟩, fun h => h.2.2⟩
          rw [e]
          exact Ev.now _
        · have hin : inZ n 0 ((l.length - 1 : Nat) : Int) = false := by
            rw [Bool.eq_false_iff]
            unfold inZ
            simp
            omega
          rw [hin, decide_eq_false (fun h => c ⟨h.2.1, h.2.2.1⟩)]
          exact Ev.now _
    refine Ev.bind hel ?_
    by_cases c : docV l = true ∧ 0 ≤ n ∧ n < l.length ∧ elV l n.toNat = true
    · rw [decide_eq_true c, if_pos c]
      simp only [if_true]
      obtain ⟨h1, h2, h3⟩ := doc_val c.1
      have hfew := steps_few s.data.toList (by have := path_len hp; omega)
      rw [q3, q4]
      have := impl_led_is l h3 h2 n.toNat (specSteps s.data.toList).1 hfew (specSteps s.data.toList).2.1
      rw [show ((n.toNat : Nat) : Int) = n by omega] at this
      exact Ev.bind this (Ev.now _)
    · rw [decide_eq_false c, if_neg c]
      exact Ev.now _
theorem spec_select (l : List It) (n : Int) (s : ByteArray) (hl : l.length ≤ 1048576) (hsm : smallD l) (hs : s.data.toList.length ≤ 1048576) : Ev (fun k => spec_Select.f k l n s) (selV l n s) := by
  have hdoc := spec_doc l hsm hl
  unfold selV
  refine Ev.congr (f := fun k => (spec_DocOk.f k l).bind fun t257 => (if t257 = true then ((spec_l1In.f n 0 (wrap64 ((l.length : Int) - 1))).bind fun t258 => (if t258 = true then (if 0 ≤ n then (if n < (l.length : Int) then (if ((rd_T39 l n).f1).toList = ([] : List UInt8) then (some (([] : List Int))) else ((spec_PathOk.f k s).bind fun t263 => (if t263 = true then ((spec_l11Select.f k l n s).bind fun t264 => (some t264)) else (some (([] : List Int)))))) else (none)) else (none)) else (some (([] : List Int))))) else (some (([] : List Int))))) (fun k => rfl) (Ev.bind hdoc ?_)
  cases hd : docV l with
  | false =>
    simp only [Bool.false_eq_true, false_and, if_false]
    exact Ev.now _
  | true =>
    have hv := doc_val hd
    have ew : wrap64 ((l.length : Int) - 1) = ((l.length - 1 : Nat) : Int) := by rw [w64] <;> omega
    simp only [if_true, ew, spec_in', Option.bind_some, true_and]
    by_cases c : 0 ≤ n ∧ n < l.length
    · have hin : inZ n 0 ((l.length - 1 : Nat) : Int) = true := by unfold inZ; simp; omega
      have hlt : n.toNat < l.length := by omega
      have en : ((n.toNat : Nat) : Int) = n := by omega
      have er : rd_T39 l n = l[n.toNat] := by
        have := rdIt l n.toNat hlt
        rwa [en] at this
      simp only [hin, if_true, if_pos c.1, if_pos c.2, er, c.1, c.2, true_and]
      cases he : elV l n.toNat with
      | false =>
        simp only [if_pos ((el_no hlt).1 he), Bool.false_eq_true, false_and, if_false]
        exact Ev.now _
      | true =>
        simp only [if_neg ((el_yes hlt).1 he), true_and]
        refine Ev.bind (spec_path s hs) ?_
        cases hp : pathB s.data.toList with
        | false =>
          simp only [Bool.false_eq_true, if_false]
          exact Ev.now _
        | true =>
          simp only [if_true]
          have hfew := steps_few s.data.toList (by have := path_len hp; omega)
          have := spec_led l hv.2.1 hv.2.2 n.toNat hlt s hs hfew
          rw [en] at this
          exact Ev.bind this (Ev.now _)
    · have hin : inZ n 0 ((l.length - 1 : Nat) : Int) = false := by
        rw [Bool.eq_false_iff]
        unfold inZ
        simp
        omega
      simp only [hin, Bool.false_eq_true, if_false]
      rw [if_neg (fun h => c ⟨h.1, h.2.1⟩)]
      exact Ev.now _
end Go.Proofs.YtpmjpbaeecnpiaaDoor.Pure

namespace Go.Proofs.YtpmjpbaeecnpiaaDoor.Pure
open Go.RowKit Go.Proofs.YtpmjpbaeecnpiaaDoor.L Go.Proofs.YtpmjpbaeecnpiaaDoorW.PrintWords Go.Proofs.YtpmjpbaeecnpiaaDoorW.PrintLast Go.Proofs.YtpmjpbaeecnpiaaDoorW.PrintMore
set_option linter.unusedVariables false
set_option linter.unusedSimpArgs false

def Code (l : List Int) : Prop := l.length ≤ 140737488351232 ∧ ∀ x ∈ l, 0 ≤ x ∧ x ≤ 255
def St (l : List Int) (p : Int) : Prop := 0 ≤ p ∧ p ≤ l.length
theorem code_of {l : List Int} (h1 : l.length * 1 ≤ 140737488351232) (h2 : ∀ x ∈ l, (Lit.int .u8 x).wf = true) : Code l :=
  ⟨by omega, fun x hx => by
    have := h2 x hx
    simpa [Lit.wf, IntKind.min, IntKind.max, IntKind.signed, IntKind.bits] using this⟩
theorem rd_byte {l : List Int} (h : Code l) (i : Int) : 0 ≤ rd l i ∧ rd l i ≤ 255 := by
  unfold rd
  rw [List.getD_eq_getElem?_getD]
  rcases e : l[i.toNat]? with _ | x
  · simp
  · exact h.2 x (List.mem_of_getElem? e)
theorem next_f {l : List Int} {p : Int} (h : Code l) (hp : St l p) : ∃ v q, spec_l1Rd_next.f l p = some (v, q) ∧ 0 ≤ v ∧ v ≤ 255 ∧ St l q := by
  have hl := h.1
  obtain ⟨p0, p1⟩ := hp
  unfold spec_l1Rd_next.f
  by_cases c : p ≥ (l.length : Int)
  · rw [if_pos c]; exact ⟨0, p, rfl, by omega, by omega, p0, p1⟩
  · have w1 : wrap64 (p + 1) = p + 1 := by rw [w64] <;> omega
    have w2 : wrap64 (p + 1 - 1) = p := by rw [w64] <;> omega
    have hb := rd_byte h p
    have w3 : wrap64 (rd l p) = rd l p := by rw [w64] <;> omega
    rw [if_neg c, w1, w2, if_pos (by omega), if_pos (by omega), w3]
    exact ⟨_, _, rfl, hb.1, hb.2, by omega, by omega⟩
theorem below_f {l : List Int} {p : Int} (h : Code l) (hp : St l p) (n : Int) (h1 : 1 ≤ n) (h2 : n ≤ 256) : ∃ v q, spec_l1Rd_below.f l p n = some (v, q) ∧ 0 ≤ v ∧ v < n ∧ St l q := by
  unfold spec_l1Rd_below.f
  by_cases c : n ≤ 1
  · rw [if_pos c]; exact ⟨0, p, rfl, by omega, by omega, hp⟩
  · obtain ⟨v, q, e, v0, v1, hq⟩ := next_f h hp
    rw [if_neg c, if_pos h2, e]
    simp only [Option.bind_some]
    rw [if_neg (by omega), Int.tmod_eq_emod_of_nonneg v0]
    exact ⟨_, _, rfl, Int.emod_nonneg _ (by omega), Int.emod_lt_of_pos _ (by omega), hq⟩
theorem once_f {l : List Int} {p : Int} (h : Code l) (hp : St l p) (n : Int) (h1 : 1 ≤ n) (h2 : n ≤ 256) : ∃ v q, spec_l1Rd_once.f l p n = some (v, q) ∧ St l q := by
  obtain ⟨v, q, e, _, _, hq⟩ := below_f h hp n h1 h2
  unfold spec_l1Rd_once.f
  rw [e]
  exact ⟨_, _, rfl, hq⟩
theorem rdOf_size (y : List ByteArray) (i : Int) (n : Nat) (h : ∀ s ∈ y, s.size ≤ n) : (rdOf ByteArray.empty y i).size ≤ n := by
  unfold rdOf
  rw [List.getD_eq_getElem?_getD]
  rcases e : y[i.toNat]? with _ | x
  · simp only [Option.getD_none]; exact Nat.zero_le _
  · exact h x (List.mem_of_getElem? e)

theorem text_f {l : List Int} {p : Int} (h : Code l) (hp : St l p) : ∃ s q, spec_l1Rd_text.f l p = some (s, q) ∧ s.size ≤ 4 ∧ St l q := by
  obtain ⟨v, q, e, v0, v1, hq⟩ := below_f h hp 14 (by omega) (by omega)
  unfold spec_l1Rd_text.f
  simp only [Option.bind_some]
  rw [e]
  simp only [Option.bind_some]
  rw [if_pos v0, if_pos (by simpa using v1)]
  exact ⟨_, _, rfl, rdOf_size _ _ 4 (by decide), hq⟩
theorem name_f {l : List Int} {p : Int} (h : Code l) (hp : St l p) : ∃ s q, spec_l1Rd_name.f l p = some (s, q) ∧ s.size ≤ 5 ∧ St l q := by
  obtain ⟨v, q, e, v0, v1, hq⟩ := below_f h hp 7 (by omega) (by omega)
  unfold spec_l1Rd_name.f
  simp only [Option.bind_some]
  rw [e]
  simp only [Option.bind_some]
  rw [if_pos v0, if_pos (by simpa using v1)]
  exact ⟨_, _, rfl, rdOf_size _ _ 5 (by decide), hq⟩
theorem word_l0 {l : List Int} (h : Code l) : ∀ (n : Nat) (x i p : Int), St l p → 0 ≤ i → i + n = 8 → ∃ v q, Ev (fun k => spec_l1Rd_word.l0 k x i l p) (v, q) ∧ St l q := by
  intro n
  induction n with
  | zero =>
    intro x i p hp hi hn
    refine ⟨x, p, Ev.step (f := fun _ => some (x, p)) (fun k => ?_) (Ev.now _), hp⟩
    conv => lhs; unfold spec_l1Rd_word.l0
    rw [if_neg (by omega)]
  | succ n ih =>
    intro x i p hp hi hn
    obtain ⟨v, q, e, _, _, hq⟩ := next_f h hp
    obtain ⟨v2, q2, he, hq2⟩ := ih (Go.bits .or .u64 (IntKind.u64.wrap (x * 256)) (IntKind.u64.wrap v)) (i + 1) q hq (by omega) (by omega)
    refine ⟨v2, q2, Ev.step (fun k => ?_) he, hq2⟩
    conv => lhs; unfold spec_l1Rd_word.l0
    rw [if_pos (by omega), e, Option.bind_some, w64 (by omega) (by omega)]
theorem word_f {l : List Int} {p : Int} (h : Code l) (hp : St l p) : ∃ v q, Ev (fun k => spec_l1Rd_word.f k l p) (v, q) ∧ St l q := word_l0 h 8 0 0 p hp (by omega) (by omega)
theorem near_f {l : List Int} {p : Int} (h : Code l) (hp : St l p) (a b : Int) (ha : -1 ≤ a) (hb : b ≤ 1048576) (ha2 : a ≤ 1048576) : ∃ v q, Ev (fun k => spec_l1Rd_near.f k l p a b) (v, q) ∧ St l q := by
  obtain ⟨v, q, e, v0, v1, hq⟩ := below_f h hp 8 (by omega) (by omega)
  have hf : ∀ k, spec_l1Rd_near.f k l p a b = if v = 0 then (some (a, q)) else (if v = 1 then (some (b, q)) else (if b < a then (some (a, q)) else ((spec_l1Rd_word.f k l q).bind fun bt425 => (if (IntKind.u64.wrap (wrap64 ((wrap64 (b - a)) + 1))) = 0 then (none) else (some (wrap64 (a + (wrap64 (Int.tmod (bt425.1 / 2) (IntKind.u64.wrap (wrap64 ((wrap64 (b - a)) + 1)))))), bt425.2)))))) := by
    intro k
    unfold spec_l1Rd_near.f
    rw [e, Option.bind_some]
  by_cases c1 : v = 0
  · exact ⟨a, q, Ev.congr (f := fun _ => some (a, q)) (fun k => by rw [hf, if_pos c1]) (Ev.now _), hq⟩
  · by_cases c2 : v = 1
    · exact ⟨b, q, Ev.congr (f := fun _ => some (b, q)) (fun k => by rw [hf, if_neg c1, if_pos c2]) (Ev.now _), hq⟩
    · by_cases c3 : b < a
      · exact ⟨a, q, Ev.congr (f := fun _ => some (a, q)) (fun k => by rw [hf, if_neg c1, if_neg c2, if_pos c3]) (Ev.now _), hq⟩
      · obtain ⟨x, r, hx, hr⟩ := word_f h hq
        have e1 : wrap64 (wrap64 (b - a) + 1) = b - a + 1 := by rw [w64 (n := b - a) (by omega) (by omega), w64] <;> omega
        have e2 : IntKind.u64.wrap (b - a + 1) = b - a + 1 := by
          simp only [IntKind.wrap, IntKind.signed, IntKind.bits]
          simp
          omega
        refine ⟨wrap64 (a + (wrap64 (Int.tmod (x / 2) (b - a + 1)))), r, Ev.congr (fun k => by rw [hf, if_neg c1, if_neg c2, if_neg c3]) (Ev.bind hx ?_), hr⟩
        simp only [e1, e2, if_neg (show ¬ (b - a + 1 = 0) by omega)]
        exact Ev.now _
theorem off_f {l : List Int} {p : Int} (h : Code l) (hp : St l p) (a b : Int) (ha : -1 ≤ a) (hb : b ≤ 1048576) (ha2 : a ≤ 1048576) : ∃ v q, Ev (fun k => spec_l1Rd_off.f k l p a b) (v, q) ∧ St l q := by
  obtain ⟨c, q, e, hq⟩ := once_f h hp 24 (by omega) (by omega)
  have hf : ∀ k, spec_l1Rd_off.f k l p a b = if c = true then ((some (([wrap64 (a - 1), wrap64 (b + 1), (-9223372036854775808), 9223372036854775807] : List Int) : List Int)).bind fun y429 => ((spec_l1Rd_below.f l q 4).bind fun bt432 => (if 0 ≤ bt432.1 then (if bt432.1 < (y429.length : Int) then (some (rd y429 bt432.1, bt432.2)) else (none)) else (none)))) else ((spec_l1Rd_near.f k l q a b).bind fun bt435 => (some (bt435.1, bt435.2))) := by
    intro k
    unfold spec_l1Rd_off.f
    rw [e, Option.bind_some]
  cases c with
  | true =>
    obtain ⟨v, r, e2, v0, v1, hr⟩ := below_f h hq 4 (by omega) (by omega)
    refine ⟨rd [wrap64 (a - 1), wrap64 (b + 1), (-9223372036854775808), 9223372036854775807] v, r, Ev.congr (f := fun _ => some (rd [wrap64 (a - 1), wrap64 (b + 1), (-9223372036854775808), 9223372036854775807] v, r)) (fun k => ?_) (Ev.now _), hr⟩
    rw [hf, if_pos rfl, Option.bind_some, e2, Option.bind_some, if_pos v0, if_pos (by simpa using v1)]
  | false =>
    obtain ⟨v, r, hv, hr⟩ := near_f h hq a b ha hb ha2
    refine ⟨v, r, Ev.congr (fun k => by rw [hf, if_neg (by decide)]) (Ev.bind hv (Ev.now _)), hr⟩
def tiny (x : It) : Prop := x.f1.size ≤ 64 ∧ x.f2.size ≤ 64 ∧ x.f3.length ≤ 8 ∧ ∀ a ∈ x.f3, a.f0.size ≤ 64 ∧ a.f1.size ≤ 64
theorem tiny_small {x : It} (h : tiny x) : smallI x := by
  obtain ⟨h1, h2, h3, h4⟩ := h
  exact ⟨by omega, by omega, by omega, fun a ha => ⟨by have := (h4 a ha).1; omega, by have := (h4 a ha).2; omega⟩⟩
def tinies (l : List It) : Prop := ∀ x ∈ l, tiny x
def G (l : List Int) (B : Nat) (r : List It) (q : Int) : Prop := tinies r ∧ 1 ≤ r.length ∧ r.length ≤ B ∧ St l q
def mk (u : Int) (nm tx : ByteArray) (ats : List At) : It := ⟨u, nm, tx, ats⟩
theorem tinies_app {l : List It} {x : It} (h : tinies l) (hx : tiny x) : tinies (l ++ [x]) := by
  intro y hy
  rcases List.mem_append.1 hy with h1 | h1
  · exact h y h1
  · rw [List.mem_singleton] at h1
    rw [h1]
    exact hx
theorem grow_l1 {l : List Int} (h : Code l) (x1 : List It) (up deep x9 : Int) (nm : ByteArray) (B : Nat)
    (J : ∀ (p : Int) (ats : List At), St l p → ats.length ≤ 3 → (∀ a ∈ ats, a.f0.size ≤ 64 ∧ a.f1.size ≤ 64) → ∃ r q, Ev (fun k => spec_l1Rd_grow.j3 k x1 up deep x9 l p up nm (⟨#[]⟩ : ByteArray) ats) (r, q) ∧ G l B r q) :
    ∀ (m : Nat) (p : Int) (ats : List At), St l p → ats.length + m ≤ 3 → (∀ a ∈ ats, a.f0.size ≤ 64 ∧ a.f1.size ≤ 64) → ∃ r q, Ev (fun k => spec_l1Rd_grow.l1 k x1 up deep x9 (m : Int) l p up nm (⟨#[]⟩ : ByteArray) ats) (r, q) ∧ G l B r q := by
  intro m
  induction m with
  | zero =>
    intro p ats hp hm ha
    have hsm : smallAs ats := ⟨by omega, fun a h => ⟨by have := (ha a h).1; omega, by have := (ha a h).2; omega⟩⟩
    have hat := spec_attrs ats hsm
    cases hv : attrsV ats with
    | true =>
      rw [hv] at hat
      obtain ⟨r, q, he, hg⟩ := J p ats hp (by omega) ha
      refine ⟨r, q, Ev.step (f := fun k => (spec_l2Attrs.f k ats).bind fun t483 => (if t483 = true then (spec_l1Rd_grow.j3 k x1 up deep x9 l p up nm (⟨#[]⟩ : ByteArray) ats) else (if 1 ≤ (ats.length : Int) then (spec_l1Rd_grow.j3 k x1 up deep x9 l p up nm (⟨#[]⟩ : ByteArray) (ats.take (1 : Int).toNat)) else (none)))) (fun k => ?_) (Ev.bind hat he), hg⟩
      conv => lhs; unfold spec_l1Rd_grow.l1
      rw [if_neg (by omega)]
    | false =>
      rw [hv] at hat
      have h1 : 1 ≤ ats.length := by
        rcases Nat.eq_zero_or_pos ats.length with e | e
        · rw [List.length_eq_zero_iff] at e
          rw [e] at hv
          exact absurd hv (by decide)
        · exact e
      obtain ⟨r, q, he, hg⟩ := J p (ats.take (1 : Int).toNat) hp (by rw [List.length_take]; omega) (fun a h => ha a (List.mem_of_mem_take h))
      refine ⟨r, q, Ev.step (f := fun k => (spec_l2Attrs.f k ats).bind fun t483 => (if t483 = true then (spec_l1Rd_grow.j3 k x1 up deep x9 l p up nm (⟨#[]⟩ : ByteArray) ats) else (if 1 ≤ (ats.length : Int) then (spec_l1Rd_grow.j3 k x1 up deep x9 l p up nm (⟨#[]⟩ : ByteArray) (ats.take (1 : Int).toNat)) else (none)))) (fun k => ?_) (Ev.bind hat ?_), hg⟩
      · conv => lhs; unfold spec_l1Rd_grow.l1
        rw [if_neg (by omega)]
      · simp only [Bool.false_eq_true, if_false, if_pos (show (1 : Int) ≤ (ats.length : Int) by omega)]
        exact he
  | succ m ih =>
    intro p ats hp hm ha
    obtain ⟨n, q, e1, hn, hq⟩ := name_f h hp
    obtain ⟨c, q2, e2, hq2⟩ := once_f h hq 4 (by omega) (by omega)
    obtain ⟨t, q3, e3, ht, hq3⟩ := text_f h hq2
    have ew : wrap64 (((m + 1 : Nat) : Int) - 1) = (m : Int) := by rw [w64] <;> omega
    have hadd : ∀ nn : ByteArray, nn.size ≤ 64 → ∀ a ∈ ats ++ [(⟨nn, t⟩ : At)], a.f0.size ≤ 64 ∧ a.f1.size ≤ 64 := by
      intro nn hnn a hm
      rcases List.mem_append.1 hm with h1 | h1
      · exact ha a h1
      · rw [List.mem_singleton] at h1
        subst h1
        exact ⟨hnn, by show t.size ≤ 64; omega⟩
    cases c with
    | true =>
      have hs : ((⟨#[112, 58]⟩ : ByteArray) ++ n).size ≤ 64 := by rw [ByteArray.size_append]; show 2 + n.size ≤ 64; omega
      obtain ⟨r, z, he, hg⟩ := ih q3 (ats ++ [(⟨(⟨#[112, 58]⟩ : ByteArray) ++ n, t⟩ : At)]) hq3 (by simp; omega) (hadd _ hs)
      refine ⟨r, z, Ev.step (fun k => ?_) he, hg⟩
      conv => lhs; unfold spec_l1Rd_grow.l1
      rw [if_pos (by omega), e1, Option.bind_some, e2, Option.bind_some, if_pos rfl, if_pos (by simp only; omega), e3, Option.bind_some, if_pos (by omega), ew]
    | false =>
      obtain ⟨r, z, he, hg⟩ := ih q3 (ats ++ [(⟨n, t⟩ : At)]) hq3 (by simp; omega) (hadd _ (by omega))
      refine ⟨r, z, Ev.step (fun k => ?_) he, hg⟩
      conv => lhs; unfold spec_l1Rd_grow.l1
      rw [if_pos (by omega), e1, Option.bind_some, e2, Option.bind_some, if_neg (by simp), e3, Option.bind_some, if_pos (by omega), ew]
/-- How many items more. -/
def T : Nat → Nat
  | 0 => 3
  | d + 1 => 3 * (1 + T d)
def T' : Nat → Nat
  | 0 => 0
  | d + 1 => T d
theorem T_eq (d : Nat) : T d = 3 * (1 + T' d) := by cases d <;> rfl
theorem grow_l0 {l : List Int} (h : Code l) (up : Int) (d : Nat) (hd100 : d ≤ 100)
    (IH : ∀ d', d = d' + 1 → ∀ (list : List It) (u p : Int), tinies list → 1 ≤ list.length → list.length + T d' ≤ 256 → St l p → ∃ r q, Ev (fun k => spec_l1Rd_grow.f k l p list u (d' : Int)) (r, q) ∧ G l (list.length + T d') r q) :
    ∀ (c : Nat) (list : List It) (p : Int), tinies list → 1 ≤ list.length → list.length + c * (1 + T' d) ≤ 256 → St l p → ∃ r q, Ev (fun k => spec_l1Rd_grow.l0 k list up (d : Int) (c : Int) l p) (r, q) ∧ G l (list.length + c * (1 + T' d)) r q := by
  intro c
  induction c with
  | zero =>
    intro list p ht h1 hb hp
    refine ⟨list, p, Ev.step (f := fun _ => some (list, p)) (fun k => ?_) (Ev.now _), ht, h1, by omega, hp⟩
    conv => lhs; unfold spec_l1Rd_grow.l0
    rw [if_neg (by omega)]
  | succ c ih =>
    intro list p ht h1 hb hp
    rw [Nat.succ_mul] at hb ⊢
    have hcb : c ≤ c * (1 + T' d) := Nat.le_mul_of_pos_right _ (by omega)
    have ew : wrap64 (((c + 1 : Nat) : Int) - 1) = (c : Int) := by rw [w64] <;> omega
    have el : wrap64 ((list.length : Int) - 1) = ((list.length - 1 : Nat) : Int) := by rw [w64] <;> omega
    have hlt : list.length - 1 < list.length := by omega
    generalize hTT : T' d = TT at *
    -- the rest
    have next : ∀ (ls : List It) (q : Int), tinies ls → 1 ≤ ls.length → ls.length ≤ list.length + (1 + TT) → St l q → ∃ r z, Ev (fun k => spec_l1Rd_grow.l0 k ls up (d : Int) (c : Int) l q) (r, z) ∧ G l (list.length + (c * (1 + TT) + (1 + TT))) r z := by
      intro ls q a1 a2 a3 a4
      obtain ⟨r, z, he, g1, g2, g3, g4⟩ := ih ls q a1 a2 (by omega) a4
      exact ⟨r, z, he, g1, g2, by omega, g4⟩
    have hj3 : ∀ (nm : ByteArray), nm.size ≤ 5 → ∀ (q : Int) (ats : List At), St l q → ats.length ≤ 3 → (∀ a ∈ ats, a.f0.size ≤ 64 ∧ a.f1.size ≤ 64) → ∃ r z, Ev (fun k => spec_l1Rd_grow.j3 k list up (d : Int) ((c + 1 : Nat) : Int) l q up nm (⟨#[]⟩ : ByteArray) ats) (r, z) ∧ G l (list.length + (c * (1 + TT) + (1 + TT))) r z := by
      intro nm hnm q ats hq ha1 ha2
      have hx : tiny (⟨up, nm, (⟨#[]⟩ : ByteArray), ats⟩ : It) := ⟨by show nm.size ≤ 64; omega, Nat.zero_le 64, by show ats.length ≤ 8; omega, ha2⟩
      have hT := tinies_app ht hx
      have hlen : (list ++ [(⟨up, nm, (⟨#[]⟩ : ByteArray), ats⟩ : It)]).length = list.length + 1 := by simp
      by_cases cd : (d : Int) > 0
      · obtain ⟨b, q2, e2, hq2⟩ := once_f h hq 2 (by omega) (by omega)
        cases b with
        | true =>
          obtain ⟨d', hd'⟩ : ∃ d', d = d' + 1 := ⟨d - 1, by omega⟩
          have hTd : TT = T d' := by rw [← hTT, hd']; rfl
          obtain ⟨r1, z1, he1, g1, g2, g3, g4⟩ := IH d' hd' (list ++ [(⟨up, nm, (⟨#[]⟩ : ByteArray), ats⟩ : It)]) (list.length : Int) q2 hT (by omega) (by rw [hlen, ← hTd]; omega) hq2
          obtain ⟨r, z, he, hg⟩ := next r1 z1 g1 g2 (by rw [hlen, ← hTd] at g3; omega) g4
          have ed : wrap64 ((d : Int) - 1) = (d' : Int) := by rw [w64] <;> omega
          refine ⟨r, z, Ev.step (f := fun k => (spec_l1Rd_grow.f k l q2 (list ++ [(⟨up, nm, (⟨#[]⟩ : ByteArray), ats⟩ : It)]) (list.length : Int) (d' : Int)).bind fun bt => (spec_l1Rd_grow.l0 k bt.1 up (d : Int) (c : Int) l bt.2)) (fun k => ?_) (Ev.bind he1 he), hg⟩
          conv => lhs; unfold spec_l1Rd_grow.j3
          rw [if_pos (by omega), Option.bind_some, if_pos cd, e2, Option.bind_some, if_pos rfl, ed, ew]
        | false =>
          obtain ⟨r, z, he, hg⟩ := next _ q2 hT (by omega) (by omega) hq2
          refine ⟨r, z, Ev.step (fun k => ?_) he, hg⟩
          conv => lhs; unfold spec_l1Rd_grow.j3
          rw [if_pos (by omega), Option.bind_some, if_pos cd, e2, Option.bind_some, if_neg (by simp), ew]
      · obtain ⟨r, z, he, hg⟩ := next _ q hT (by omega) (by omega) hq
        refine ⟨r, z, Ev.step (fun k => ?_) he, hg⟩
        conv => lhs; unfold spec_l1Rd_grow.j3
        rw [if_pos (by omega), Option.bind_some, if_neg cd, ew]
    have hj1 : ∀ (b : Bool) (q : Int), St l q → ∃ r z, Ev (fun k => spec_l1Rd_grow.j1 k list up (d : Int) ((c + 1 : Nat) : Int) b l q) (r, z) ∧ G l (list.length + (c * (1 + TT) + (1 + TT))) r z := by
      intro b q hq
      cases b with
      | true =>
        obtain ⟨s, q2, e2, hs, hq2⟩ := text_f h hq
        by_cases cs : s.toList = ([] : List UInt8)
        · obtain ⟨r, z, he, hg⟩ := next list q2 ht h1 (by omega) hq2
          refine ⟨r, z, Ev.step (fun k => ?_) he, hg⟩
          conv => lhs; unfold spec_l1Rd_grow.j1
          rw [if_pos rfl, e2, Option.bind_some, if_pos cs, ew]
        · have hx : tiny (⟨up, (⟨#[]⟩ : ByteArray), s, ([] : List At)⟩ : It) := ⟨Nat.zero_le 64, by show s.size ≤ 64; omega, by simp, by simp⟩
          obtain ⟨r, z, he, hg⟩ := next _ q2 (tinies_app ht hx) (by simp) (by simp <;> omega) hq2
          refine ⟨r, z, Ev.step (fun k => ?_) he, hg⟩
          conv => lhs; unfold spec_l1Rd_grow.j1
          rw [if_pos rfl, e2, Option.bind_some, if_neg cs, if_pos (by omega), ew]
      | false =>
        obtain ⟨n, q2, e2, hn, hq2⟩ := name_f h hq
        obtain ⟨m, q3, e3, m0, m1, hq3⟩ := below_f h hq2 3 (by omega) (by omega)
        obtain ⟨r, z, he, hg⟩ := grow_l1 h list up (d : Int) ((c + 1 : Nat) : Int) n (list.length + (c * (1 + TT) + (1 + TT))) (hj3 n hn) m.toNat q3 [] hq3 (by simp; omega) (by simp)
        rw [show ((m.toNat : Nat) : Int) = m by omega] at he
        refine ⟨r, z, Ev.step (fun k => ?_) he, hg⟩
        conv => lhs; unfold spec_l1Rd_grow.j1
        rw [if_neg (by simp), e2, Option.bind_some, e3, Option.bind_some]
    obtain ⟨b, q, e, hq⟩ := once_f h hp 3 (by omega) (by omega)
    cases b with
    | false =>
      obtain ⟨r, z, he, hg⟩ := hj1 false q hq
      refine ⟨r, z, Ev.step (fun k => ?_) he, hg⟩
      conv => lhs; unfold spec_l1Rd_grow.l0
      rw [if_pos (by omega), el, if_pos (by omega), if_pos (by omega), e, Option.bind_some, if_neg (by simp)]
    | true =>
      by_cases cn : list[list.length - 1].f1.toList = ([] : List UInt8)
      · obtain ⟨r, z, he, hg⟩ := hj1 (!(list[list.length - 1].f0 == up)) q hq
        refine ⟨r, z, Ev.step (fun k => ?_) he, hg⟩
        conv => lhs; unfold spec_l1Rd_grow.l0
        rw [if_pos (by omega), el, if_pos (by omega), if_pos (by omega), e, Option.bind_some, if_pos rfl, rdIt list _ hlt, if_pos cn]
      · obtain ⟨r, z, he, hg⟩ := hj1 (!false) q hq
        refine ⟨r, z, Ev.step (fun k => ?_) he, hg⟩
        conv => lhs; unfold spec_l1Rd_grow.l0
        rw [if_pos (by omega), el, if_pos (by omega), if_pos (by omega), e, Option.bind_some, if_pos rfl, rdIt list _ hlt, if_neg cn]
theorem grow_ev {l : List Int} (h : Code l) : ∀ (d : Nat), d ≤ 100 → ∀ (list : List It) (u p : Int), tinies list → 1 ≤ list.length → list.length + T d ≤ 256 → St l p → ∃ r q, Ev (fun k => spec_l1Rd_grow.f k l p list u (d : Int)) (r, q) ∧ G l (list.length + T d) r q := by
  intro d
  induction d with
  | zero =>
    intro hd100 list u p ht h1 hb hp
    obtain ⟨c, q, e, c0, c1, hq⟩ := below_f h hp 4 (by omega) (by omega)
    have hT := T_eq 0
    obtain ⟨r, z, he, g1, g2, g3, g4⟩ := grow_l0 h u 0 (by omega) (fun d' hd => by omega) c.toNat list q ht h1 (by rw [hT] at hb; have : c.toNat * (1 + T' 0) ≤ 3 * (1 + T' 0) := Nat.mul_le_mul_right _ (by omega); omega) hq
    rw [show ((c.toNat : Nat) : Int) = c by omega] at he
    refine ⟨r, z, Ev.step (fun k => ?_) he, g1, g2, by rw [hT]; have : c.toNat * (1 + T' 0) ≤ 3 * (1 + T' 0) := Nat.mul_le_mul_right _ (by omega); omega, g4⟩
    conv => lhs; unfold spec_l1Rd_grow.f
    rw [e, Option.bind_some]
  | succ d ihd =>
    intro hd100 list u p ht h1 hb hp
    obtain ⟨c, q, e, c0, c1, hq⟩ := below_f h hp 4 (by omega) (by omega)
    have hT := T_eq (d + 1)
    obtain ⟨r, z, he, g1, g2, g3, g4⟩ := grow_l0 h u (d + 1) hd100 (fun d' hd => by obtain rfl : d = d' := (by omega); exact ihd (by omega)) c.toNat list q ht h1 (by rw [hT] at hb; have : c.toNat * (1 + T' (d + 1)) ≤ 3 * (1 + T' (d + 1)) := Nat.mul_le_mul_right _ (by omega); omega) hq
    rw [show ((c.toNat : Nat) : Int) = c by omega] at he
    refine ⟨r, z, Ev.step (fun k => ?_) he, g1, g2, by rw [hT]; have : c.toNat * (1 + T' (d + 1)) ≤ 3 * (1 + T' (d + 1)) := Nat.mul_le_mul_right _ (by omega); omega, g4⟩
    conv => lhs; unfold spec_l1Rd_grow.f
    rw [e, Option.bind_some]
theorem tinies_set {l : List It} {x : It} (i : Nat) (h : tinies l) (hx : tiny x) : tinies (l.set i x) := by
  intro y hy
  rcases List.mem_or_eq_of_mem_set hy with h1 | h1
  · exact h y h1
  · rw [h1]; exact hx
theorem doc_ev {l : List Int} (h : Code l) (p : Int) (hp : St l p) : ∃ r q, Ev (fun k => spec_l1Rd_doc.f k l p) (r, q) ∧ G l 64 r q := by
  obtain ⟨n, q, e1, hn, hq⟩ := name_f h hp
  obtain ⟨r, q2, he, g1, g2, g3, g4⟩ := grow_ev h 2 (by omega) [(⟨(-1), n, (⟨#[]⟩ : ByteArray), ([] : List At)⟩ : It)] 0 q (by
    intro x hx
    rw [List.mem_singleton] at hx
    subst hx
    exact ⟨by show n.size ≤ 64; omega, Nat.zero_le 64, by simp, by simp⟩) (by simp) (show 1 + 39 ≤ 256 by omega) hq
  have g3 : r.length ≤ 40 := g3
  obtain ⟨b, q3, e3, hq3⟩ := once_f h g4 24 (by omega) (by omega)
  have hd : ∀ k, spec_l1Rd_doc.f k l p = (spec_l1Rd_grow.f k l q [(⟨(-1), n, (⟨#[]⟩ : ByteArray), ([] : List At)⟩ : It)] 0 2).bind fun bt501 => ((spec_l1Rd_once.f l bt501.2 24).bind fun bt505 => (if bt505.1 = true then ((spec_l1Rd_below.f l bt505.2 (bt501.1.length : Int)).bind fun bt507 => ((spec_l1Rd_below.f l bt507.2 3).bind fun bt509 => (if bt509.1 = 0 then ((spec_l1Rd_off.f k l bt509.2 (-1) bt507.1).bind fun bt511 => (if 0 ≤ bt507.1 then (if bt507.1 < (bt501.1.length : Int) then (some ((bt501.1.set (bt507.1 : Int).toNat (⟨bt511.1, (rd_T39 bt501.1 bt507.1).f1, (rd_T39 bt501.1 bt507.1).f2, (rd_T39 bt501.1 bt507.1).f3⟩ : It)), bt511.2)) else (none)) else (none))) else (if bt509.1 = 1 then ((spec_l1Rd_text.f l bt509.2).bind fun bt514 => (if 0 ≤ bt507.1 then (if bt507.1 < (bt501.1.length : Int) then (some ((bt501.1.set (bt507.1 : Int).toNat (⟨(rd_T39 bt501.1 bt507.1).f0, (rd_T39 bt501.1 bt507.1).f1, bt514.1, (rd_T39 bt501.1 bt507.1).f3⟩ : It)), bt514.2)) else (none)) else (none))) else (if bt509.1 = 2 then ((spec_l1Rd_text.f l bt509.2).bind fun bt517 => (if 0 ≤ bt507.1 then (if bt507.1 < (bt501.1.length : Int) then (some ((bt501.1.set (bt507.1 : Int).toNat (⟨(rd_T39 bt501.1 bt507.1).f0, bt517.1, (rd_T39 bt501.1 bt507.1).f2, (rd_T39 bt501.1 bt507.1).f3⟩ : It)), bt517.2)) else (none)) else (none))) else (some (bt501.1, bt509.2))))))) else (some (bt501.1, bt505.2)))) := by
    intro k
    unfold spec_l1Rd_doc.f
    rw [e1, Option.bind_some]
  cases b with
  | false =>
    refine ⟨r, q3, Ev.congr hd (Ev.bind he ?_), g1, g2, by omega, hq3⟩
    simp only [e3, Option.bind_some, Bool.false_eq_true, if_false]
    exact Ev.now _
  | true =>
    obtain ⟨i, q4, e4, i0, i1, hq4⟩ := below_f h hq3 (r.length : Int) (by omega) (by omega)
    obtain ⟨v, q5, e5, v0, v1, hq5⟩ := below_f h hq4 3 (by omega) (by omega)
    have hlt : i.toNat < r.length := by omega
    have er : rd_T39 r i = r[i.toNat] := by
      have := rdIt r i.toNat hlt
      rwa [show ((i.toNat : Nat) : Int) = i by omega] at this
    obtain ⟨t1, t2, t3, t4⟩ := g1 _ (List.getElem_mem hlt)
    by_cases c0 : v = 0
    · obtain ⟨o, q6, ho, hq6⟩ := off_f h hq5 (-1) i (by omega) (by omega) (by omega)
      refine ⟨r.set i.toNat ⟨o, r[i.toNat].f1, r[i.toNat].f2, r[i.toNat].f3⟩, q6, Ev.congr hd (Ev.bind he ?_), tinies_set _ g1 ⟨t1, t2, t3, t4⟩, by rw [List.length_set]; exact g2, by rw [List.length_set]; omega, hq6⟩
      simp only [e3, Option.bind_some, if_true, e4, e5, if_pos c0]
      refine Ev.bind ho ?_
      simp only [if_pos i0, if_pos i1, er]
      exact Ev.now _
    · obtain ⟨s, q6, es, hs, hq6⟩ := text_f h hq5
      by_cases c1 : v = 1
      · refine ⟨r.set i.toNat ⟨r[i.toNat].f0, r[i.toNat].f1, s, r[i.toNat].f3⟩, q6, Ev.congr hd (Ev.bind he ?_), tinies_set _ g1 ⟨t1, by show s.size ≤ 64; omega, t3, t4⟩, by rw [List.length_set]; exact g2, by rw [List.length_set]; omega, hq6⟩
        simp only [e3, Option.bind_some, if_true, e4, e5, if_neg c0, if_pos c1, es, if_pos i0, if_pos i1, er]
        exact Ev.now _
      · have c2 : v = 2 := by omega
        refine ⟨r.set i.toNat ⟨r[i.toNat].f0, s, r[i.toNat].f2, r[i.toNat].f3⟩, q6, Ev.congr hd (Ev.bind he ?_), tinies_set _ g1 ⟨by show s.size ≤ 64; omega, t2, t3, t4⟩, by rw [List.length_set]; exact g2, by rw [List.length_set]; omega, hq6⟩
        simp only [e3, Option.bind_some, if_true, e4, e5, if_neg c0, if_neg c1, if_pos c2, es, if_pos i0, if_pos i1, er]
        exact Ev.now _
theorem path_f {l : List Int} {p : Int} (h : Code l) (hp : St l p) : ∃ s q, spec_l1Rd_path.f l p = some (s, q) ∧ s.size ≤ 5 ∧ St l q := by
  obtain ⟨v, q, e, v0, v1, hq⟩ := below_f h hp 12 (by omega) (by omega)
  unfold spec_l1Rd_path.f
  simp only [Option.bind_some]
  rw [e]
  simp only [Option.bind_some]
  rw [if_pos v0, if_pos (by simpa using v1)]
  exact ⟨_, _, rfl, rdOf_size _ _ 5 (by decide), hq⟩
theorem rdOf_ne (y : List ByteArray) (i : Int) (h0 : 0 ≤ i) (h1 : i < y.length) (h : ∀ s ∈ y, s.toList ≠ ([] : List UInt8)) : (rdOf ByteArray.empty y i).toList ≠ ([] : List UInt8) := by
  have hlt : i.toNat < y.length := by omega
  have e : rdOf ByteArray.empty y i = y[i.toNat] := by
    unfold rdOf
    simp [hlt]
  rw [e]
  exact h _ (List.getElem_mem hlt)
/-- A text stands below an element that stands there. -/
def FlatOk (ls : List It) : Prop := ∀ x ∈ ls, x.f1.toList = ([] : List UInt8) → ∃ (j : Nat) (y : It), ls[j]? = some y ∧ x.f0 = (j : Int) ∧ y.f1.toList ≠ ([] : List UInt8)
theorem FlatOk.app {ls : List It} {x : It} (h : FlatOk ls) (hx : x.f1.toList = ([] : List UInt8) → ∃ (j : Nat) (y : It), (ls ++ [x])[j]? = some y ∧ x.f0 = (j : Int) ∧ y.f1.toList ≠ ([] : List UInt8)) : FlatOk (ls ++ [x]) := by
  intro z hz hn
  rcases List.mem_append.1 hz with h1 | h1
  · obtain ⟨j, y, hy, hu, hne⟩ := h z h1 hn
    have hlt := (List.getElem?_eq_some_iff.1 hy).1
    exact ⟨j, y, by rw [List.getElem?_append_left hlt]; exact hy, hu, hne⟩
  · rw [List.mem_singleton] at h1
    subst h1
    exact hx hn
theorem flat_l0 {l : List Int} (h : Code l) : ∀ (c : Nat) (ls : List It) (p : Int), c ≤ 7 → tinies ls → FlatOk ls → 1 ≤ ls.length → ls.length + 2 * c ≤ 64 → St l p → ∃ r q, Ev (fun k => spec_l1Rd_flat.l0 k ls (c : Int) l p) (r, q) ∧ G l 64 r q := by
  intro c
  induction c with
  | zero =>
    intro ls p hc ht hf h1 hb hp
    obtain ⟨b, q, e, hq⟩ := once_f h hp 24 (by omega) (by omega)
    have h0 : 0 < ls.length := by omega
    have er : rd_T39 ls 0 = ls[0] := rdIt ls 0 h0
    cases b with
    | false =>
      refine ⟨ls, q, Ev.step (f := fun _ => some (ls, q)) (fun k => ?_) (Ev.now _), ht, h1, by omega, hq⟩
      conv => lhs; unfold spec_l1Rd_flat.l0
      rw [if_neg (by omega), e, Option.bind_some, if_neg (by simp)]
    | true =>
      obtain ⟨t1, t2, t3, t4⟩ := ht _ (List.getElem_mem h0)
      refine ⟨ls.set 0 ⟨ls[0].f0, (⟨#[]⟩ : ByteArray), ls[0].f2, ls[0].f3⟩, q, Ev.step (f := fun _ => some (ls.set 0 ⟨ls[0].f0, (⟨#[]⟩ : ByteArray), ls[0].f2, ls[0].f3⟩, q)) (fun k => ?_) (Ev.now _), tinies_set _ ht ⟨Nat.zero_le 64, t2, t3, t4⟩, by rw [List.length_set]; exact h1, by rw [List.length_set]; omega, hq⟩
      conv => lhs; unfold spec_l1Rd_flat.l0
      rw [if_neg (by omega), e, Option.bind_some, if_pos rfl, if_pos (by omega), er]
      rfl
  | succ c ih =>
    intro ls p hc ht hf h1 hb hp
    have ew : wrap64 (((c + 1 : Nat) : Int) - 1) = (c : Int) := by rw [w64] <;> omega
    have el : wrap64 ((ls.length : Int) - 1) = ((ls.length - 1 : Nat) : Int) := by rw [w64] <;> omega
    have J3 : ∀ (q u : Int) (nm : ByteArray) (ats : List At), St l q → nm.size ≤ 5 → nm.toList ≠ ([] : List UInt8) → ats.length ≤ 3 → (∀ a ∈ ats, a.f0.size ≤ 64 ∧ a.f1.size ≤ 64) → ∃ r z, Ev (fun k => spec_l1Rd_flat.j3 k ls ((c + 1 : Nat) : Int) l q u nm (⟨#[]⟩ : ByteArray) ats) (r, z) ∧ G l 64 r z := by
      intro q u nm ats hq hnm hne ha1 ha2
      have hx : tiny (⟨u, nm, (⟨#[]⟩ : ByteArray), ats⟩ : It) := ⟨by show nm.size ≤ 64; omega, Nat.zero_le 64, by show ats.length ≤ 8; omega, ha2⟩
      have hT := tinies_app ht hx
      have hF := hf.app (x := (⟨u, nm, (⟨#[]⟩ : ByteArray), ats⟩ : It)) (fun h => absurd h hne)
      have hlen : (ls ++ [(⟨u, nm, (⟨#[]⟩ : ByteArray), ats⟩ : It)]).length = ls.length + 1 := by simp
      obtain ⟨b, q2, e2, hq2⟩ := once_f h hq 3 (by omega) (by omega)
      cases b with
      | false =>
        obtain ⟨r, z, he, hg⟩ := ih _ q2 (by omega) hT hF (by omega) (by omega) hq2
        refine ⟨r, z, Ev.step (fun k => ?_) he, hg⟩
        conv => lhs; unfold spec_l1Rd_flat.j3
        rw [if_pos (by omega), Option.bind_some, e2, Option.bind_some, if_neg (by simp), ew]
      | true =>
        obtain ⟨v, q3, e3, v0, v1, hq3⟩ := below_f h hq2 3 (by omega) (by omega)
        have hsz := rdOf_size [(⟨#[117]⟩ : ByteArray), (⟨#[118]⟩ : ByteArray), (⟨#[32, 117, 32]⟩ : ByteArray)] v 3 (by decide)
        generalize hS : rdOf ByteArray.empty [(⟨#[117]⟩ : ByteArray), (⟨#[118]⟩ : ByteArray), (⟨#[32, 117, 32]⟩ : ByteArray)] v = S at *
        have hx2 : tiny (⟨(ls.length : Int), (⟨#[]⟩ : ByteArray), S, ([] : List At)⟩ : It) := ⟨Nat.zero_le 64, by show S.size ≤ 64; omega, by simp, by simp⟩
        have hF2 := hF.app (x := (⟨(ls.length : Int), (⟨#[]⟩ : ByteArray), S, ([] : List At)⟩ : It)) (fun _ => ⟨ls.length, (⟨u, nm, (⟨#[]⟩ : ByteArray), ats⟩ : It), by simp, rfl, hne⟩)
        obtain ⟨r, z, he, hg⟩ := ih _ q3 (by omega) (tinies_app hT hx2) hF2 (by simp) (by simp <;> omega) hq3
        refine ⟨r, z, Ev.step (fun k => ?_) he, hg⟩
        conv => lhs; unfold spec_l1Rd_flat.j3
        rw [if_pos (by omega), Option.bind_some, e2, Option.bind_some, if_pos rfl, Option.bind_some, e3, Option.bind_some, if_pos v0, if_pos (by simpa using v1), hS, if_pos (by omega), ew]
    have J2 : ∀ (q u : Int), St l q → ∃ r z, Ev (fun k => spec_l1Rd_flat.j2 k ls ((c + 1 : Nat) : Int) u l q) (r, z) ∧ G l 64 r z := by
      intro q u hq
      obtain ⟨v, q2, e2, v0, v1, hq2⟩ := below_f h hq 2 (by omega) (by omega)
      obtain ⟨b, q3, e3, hq3⟩ := once_f h hq2 3 (by omega) (by omega)
      have hsz := rdOf_size [(⟨#[97]⟩ : ByteArray), (⟨#[98]⟩ : ByteArray)] v 5 (by decide)
      have hne := rdOf_ne [(⟨#[97]⟩ : ByteArray), (⟨#[98]⟩ : ByteArray)] v v0 (by simpa using v1) (by
        intro s hs
        simp only [List.mem_cons, List.not_mem_nil, or_false] at hs
        rw [Lib.toList_data]
        rcases hs with rfl | rfl <;> decide)
      generalize hN : rdOf ByteArray.empty [(⟨#[97]⟩ : ByteArray), (⟨#[98]⟩ : ByteArray)] v = nm at *
      cases b with
      | true =>
        obtain ⟨r, z, he, hg⟩ := J3 q3 u nm [] hq3 hsz hne (by simp) (by simp)
        refine ⟨r, z, Ev.step (fun k => ?_) he, hg⟩
        conv => lhs; unfold spec_l1Rd_flat.j2
        rw [Option.bind_some, e2, Option.bind_some, if_pos v0, if_pos (by simpa using v1), e3, Option.bind_some, if_pos rfl, hN]
      | false =>
        obtain ⟨w, q4, e4, w0, w1, hq4⟩ := below_f h hq3 4 (by omega) (by omega)
        have hsz2 := rdOf_size [(⟨#[49]⟩ : ByteArray), (⟨#[50]⟩ : ByteArray), (⟨#[32, 49]⟩ : ByteArray), (⟨#[51]⟩ : ByteArray)] w 5 (by decide)
        generalize hV : rdOf ByteArray.empty [(⟨#[49]⟩ : ByteArray), (⟨#[50]⟩ : ByteArray), (⟨#[32, 49]⟩ : ByteArray), (⟨#[51]⟩ : ByteArray)] w = vv at *
        obtain ⟨r, z, he, hg⟩ := J3 q4 u nm (([] : List At) ++ [(⟨(⟨#[97]⟩ : ByteArray), vv⟩ : At)]) hq4 hsz hne (by simp) (by
          intro a ha
          simp only [List.nil_append, List.mem_singleton] at ha
          subst ha
          exact ⟨by show (1 : Nat) ≤ 64; omega, by show vv.size ≤ 64; omega⟩)
        refine ⟨r, z, Ev.step (fun k => ?_) he, hg⟩
        conv => lhs; unfold spec_l1Rd_flat.j2
        rw [Option.bind_some, e2, Option.bind_some, if_pos v0, if_pos (by simpa using v1), e3, Option.bind_some, if_neg (by simp), Option.bind_some, e4, Option.bind_some, if_pos w0, if_pos (by simpa using w1), if_pos (by simp), hN, hV]
    obtain ⟨b, q, e, hq⟩ := once_f h hp 3 (by omega) (by omega)
    cases b with
    | false =>
      obtain ⟨r, z, he, hg⟩ := J2 q 0 hq
      refine ⟨r, z, Ev.step (fun k => ?_) he, hg⟩
      conv => lhs; unfold spec_l1Rd_flat.l0
      rw [if_pos (by omega), e, Option.bind_some, if_neg (by simp)]
    | true =>
      have hlt : ls.length - 1 < ls.length := by omega
      by_cases cn : ls[ls.length - 1].f1.toList = ([] : List UInt8)
      · obtain ⟨j, y, hy, hu, hne⟩ := hf _ (List.getElem_mem hlt) cn
        obtain ⟨hj, hyj⟩ := List.getElem?_eq_some_iff.1 hy
        obtain ⟨r, z, he, hg⟩ := J2 q (j : Int) hq
        have s2 : Ev (fun k => spec_l1Rd_flat.l1 k ls ((c + 1 : Nat) : Int) (j : Int) l q) (r, z) := by
          refine Ev.step (fun k => ?_) he
          conv => lhs; unfold spec_l1Rd_flat.l1
          rw [if_pos (by omega), if_pos (by omega), rdIt ls j hj, hyj, if_neg hne]
        have s1 : Ev (fun k => spec_l1Rd_flat.l1 k ls ((c + 1 : Nat) : Int) ((ls.length - 1 : Nat) : Int) l q) (r, z) := by
          refine Ev.step (fun k => ?_) s2
          conv => lhs; unfold spec_l1Rd_flat.l1
          rw [if_pos (by omega), if_pos (by omega), rdIt ls _ hlt, if_pos cn, hu]
        refine ⟨r, z, Ev.step (fun k => ?_) s1, hg⟩
        conv => lhs; unfold spec_l1Rd_flat.l0
        rw [if_pos (by omega), e, Option.bind_some, if_pos rfl, el]
      · obtain ⟨r, z, he, hg⟩ := J2 q ((ls.length - 1 : Nat) : Int) hq
        have s1 : Ev (fun k => spec_l1Rd_flat.l1 k ls ((c + 1 : Nat) : Int) ((ls.length - 1 : Nat) : Int) l q) (r, z) := by
          refine Ev.step (fun k => ?_) he
          conv => lhs; unfold spec_l1Rd_flat.l1
          rw [if_pos (by omega), if_pos (by omega), rdIt ls _ hlt, if_neg cn]
        refine ⟨r, z, Ev.step (fun k => ?_) s1, hg⟩
        conv => lhs; unfold spec_l1Rd_flat.l0
        rw [if_pos (by omega), e, Option.bind_some, if_pos rfl, el]
theorem flat_ev {l : List Int} (h : Code l) (p : Int) (hp : St l p) : ∃ r q, Ev (fun k => spec_l1Rd_flat.f k l p) (r, q) ∧ G l 64 r q := by
  obtain ⟨c, q, e, c0, c1, hq⟩ := below_f h hp 8 (by omega) (by omega)
  obtain ⟨r, z, he, hg⟩ := flat_l0 h c.toNat [(⟨(-1), (⟨#[97]⟩ : ByteArray), (⟨#[]⟩ : ByteArray), ([] : List At)⟩ : It)] q (by omega) (by
    intro x hx
    rw [List.mem_singleton] at hx
    subst hx
    exact ⟨by show (1 : Nat) ≤ 64; omega, Nat.zero_le 64, by simp, by simp⟩) (by
    intro x hx hn
    rw [List.mem_singleton] at hx
    subst hx
    rw [Lib.toList_data] at hn
    exact absurd hn (by decide)) (by simp) (by simp; omega) hq
  rw [show ((c.toNat : Nat) : Int) = c by omega] at he
  refine ⟨r, z, Ev.congr (fun k => ?_) he, hg⟩
  unfold spec_l1Rd_flat.f
  rw [e, Option.bind_some]
theorem drawSelect_ev {l : List Int} (h : Code l) : ∃ r n s, Ev (fun k => spec_DrawSelect.f k l) (r, n, s) ∧ tinies r ∧ 1 ≤ r.length ∧ r.length ≤ 64 ∧ s.size ≤ 5 := by
  have hp : St l 0 := ⟨by omega, by omega⟩
  obtain ⟨r, q, he, g1, g2, g3, g4⟩ := flat_ev h 0 hp
  obtain ⟨b, q2, e2, hq2⟩ := once_f h g4 3 (by omega) (by omega)
  have J : ∀ (ls : List It) (q : Int), tinies ls → 1 ≤ ls.length → ls.length ≤ 64 → St l q → ∃ r n s, Ev (fun k => spec_DrawSelect.j0 k ls l q) (r, n, s) ∧ tinies r ∧ 1 ≤ r.length ∧ r.length ≤ 64 ∧ s.size ≤ 5 := by
    intro ls q a1 a2 a3 hq
    obtain ⟨b, q2, e2, hq2⟩ := once_f h hq 3 (by omega) (by omega)
    cases b with
    | false =>
      obtain ⟨s, q3, e3, hs, hq3⟩ := path_f h hq2
      refine ⟨ls, 0, s, Ev.step (f := fun _ => some (ls, 0, s)) (fun k => ?_) (Ev.now _), a1, a2, a3, hs⟩
      conv => lhs; unfold spec_DrawSelect.j0
      simp only [e2, Option.bind_some, Bool.false_eq_true, if_false, e3]
    | true =>
      have ew : wrap64 ((ls.length : Int) - 1) = (ls.length : Int) - 1 := by rw [w64] <;> omega
      obtain ⟨n, q3, e3, hq3⟩ := off_f h hq2 0 ((ls.length : Int) - 1) (by omega) (by omega) (by omega)
      obtain ⟨s, q4, e4, hs, hq4⟩ := path_f h hq3
      refine ⟨ls, n, s, Ev.step (f := fun k => (spec_l1Rd_off.f k l q2 0 ((ls.length : Int) - 1)).bind fun bt541 => ((spec_l1Rd_path.f l bt541.2).bind fun bt543 => (some (ls, bt541.1, bt543.1)))) (fun k => ?_) (Ev.bind e3 ?_), a1, a2, a3, hs⟩
      · conv => lhs; unfold spec_DrawSelect.j0
        simp only [e2, Option.bind_some, if_true, ew]
      · simp only [e4, Option.bind_some]
        exact Ev.now _
  have hf : ∀ k, spec_DrawSelect.f k l = (spec_l1Rd_flat.f k l 0).bind fun bt529 => ((spec_l1Rd_once.f l bt529.2 3).bind fun bt533 => (if bt533.1 = true then ((spec_l1Rd_doc.f k l bt533.2).bind fun bt535 => (spec_DrawSelect.j0 k bt535.1 l bt535.2)) else (spec_DrawSelect.j0 k bt529.1 l bt533.2))) := fun k => rfl
  cases b with
  | false =>
    obtain ⟨r2, n, s, he2, hg⟩ := J r q2 g1 g2 g3 hq2
    refine ⟨r2, n, s, Ev.congr hf (Ev.bind he ?_), hg⟩
    simp only [e2, Option.bind_some, Bool.false_eq_true, if_false]
    exact he2
  | true =>
    obtain ⟨d, q3, hd, d1, d2, d3, d4⟩ := doc_ev h q2 hq2
    obtain ⟨r2, n, s, he2, hg⟩ := J d q3 d1 d2 d3 d4
    refine ⟨r2, n, s, Ev.congr hf (Ev.bind he ?_), hg⟩
    simp only [e2, Option.bind_some, if_true]
    exact Ev.bind hd he2
end Go.Proofs.YtpmjpbaeecnpiaaDoor.Pure

namespace Go.Proofs.YtpmjpbaeecnpiaaDoor.Pure
open Go.RowKit Go.Proofs.YtpmjpbaeecnpiaaDoor.L Go.Proofs.YtpmjpbaeecnpiaaDoorW.PrintWords Go.Proofs.YtpmjpbaeecnpiaaDoorW.PrintLast Go.Proofs.YtpmjpbaeecnpiaaDoorW.PrintMore
open DT MT
set_option linter.unusedVariables false
set_option linter.unusedSimpArgs false

theorem same_l0 (l : List Int) (hl : l.length ≤ 1048576) : ∀ (n i : Nat), i + n = l.length → Ev (fun k => laws_sameInts.l0 k l l (i : Int)) true := by
  intro n
  induction n with
  | zero =>
    intro i hi
    refine Ev.step (f := fun _ => some true) (fun k => ?_) (Ev.now _)
    conv => lhs; unfold laws_sameInts.l0
    rw [if_neg (by omega)]
  | succ n ih =>
    intro i hi
    have hlt : i < l.length := by omega
    refine Ev.step (fun k => ?_) (ih (i + 1) (by omega))
    conv => lhs; unfold laws_sameInts.l0
    rw [if_pos (by omega), if_pos (by omega), if_pos (by omega), if_pos rfl, w1n hlt (by omega)]
theorem same_ev (l : List Int) (hl : l.length ≤ 1048576) : Ev (fun k => laws_sameInts.f k l l) true := by
  refine Ev.congr (fun k => ?_) (same_l0 l hl l.length 0 (by omega))
  unfold laws_sameInts.f
  rw [if_pos rfl]
  rfl
end Go.Proofs.YtpmjpbaeecnpiaaDoor.Pure
