/- Words and contracts for the row RowFnNames: what the Go functions answer that it calls; printed by programs of the kit and of this session, and merged. -/
import Derived.Test.YtpmjpbaeecnpiaaDoorQn10
namespace Go.Proofs.YtpmjpbaeecnpiaaDoor.Pure
open Go.RowKit Go.Proofs.YtpmjpbaeecnpiaaDoor.L Go.Proofs.YtpmjpbaeecnpiaaDoorW.PrintWords Go.Proofs.YtpmjpbaeecnpiaaDoorW.PrintLast Go.Proofs.YtpmjpbaeecnpiaaDoorW.PrintMore
open DT
set_option linter.unusedVariables false
set_option linter.unusedSimpArgs false

theorem spec_deep_l0 (l : List It) (hn : l.length ≤ 200) {m : Nat} (V : Val (upV l) (elV l) m) (hm : m ≤ l.length) : ∀ (j : Nat) (d : Int), j < m → 0 ≤ d → d ≤ 300 - j → Ev (fun k => spec_l2Deep.l0 k l (j : Int) d) (d + ((chain (upV l) j).length : Int) - 1) := by
  intro j
  induction j using Nat.strongRecOn with
  | _ j ih =>
  intro d hj h0 hd
  have hlt : j < l.length := by omega
  have hup := upV_at hlt
  by_cases e : j = 0
  · subst e
    have h1 := (V.1 hj).1
    rw [chain_zero h1]
    rw [hup] at h1
    refine Ev.step (f := fun _ => some d) (fun k => ?_) (by simp; exact Ev.now _)
    conv => lhs; unfold spec_l2Deep.l0
    rw [if_pos (by omega), if_pos (by omega), rdIt l 0 hlt, if_neg (by omega)]
  · obtain ⟨h1, h2, h3⟩ := V.2 j (by omega) hj
    rw [chain_up h1 h2, List.length_cons]
    have := ih (upV l j).toNat h2 (d + 1) (by omega) (by omega) (by omega)
    have e1 : wrap64 (d + 1) = d + 1 := by rw [w64] <;> omega
    have e2 : l[j].f0 = (((upV l j).toNat : Nat) : Int) := by rw [← hup]; omega
    rw [show d + (((chain (upV l) (upV l j).toNat).length + 1 : Nat) : Int) - 1 = d + 1 + ((chain (upV l) (upV l j).toNat).length : Int) - 1 by omega]
    refine Ev.step (fun k => ?_) this
    conv => lhs; unfold spec_l2Deep.l0
    rw [if_pos (by omega), if_pos (by omega), rdIt l j hlt, if_pos (by omega), e1, e2]
theorem spec_deep (l : List It) (hn : l.length ≤ 200) {m : Nat} (V : Val (upV l) (elV l) m) (hm : m ≤ l.length) (j : Nat) (hj : j < m) : Ev (fun k => spec_l2Deep.f k l (j : Int)) (((chain (upV l) j).length : Int) - 1) := by
  have := spec_deep_l0 l hn V hm j 0 hj (by omega) (by omega)
  rw [Int.zero_add] at this
  exact this
theorem spec_climb (l : List It) {m : Nat} (V : Val (upV l) (elV l) m) (hm : m ≤ l.length) (c : Int) (i p : Nat) (nm tx : ByteArray) (ats : List At) (R : Bool) : ∀ j, j < m → (p ∈ chain (upV l) j → Ev (fun k => spec_DocOk.j6 k l c (i : Int) (p : Int) nm tx ats) R) → Ev (fun k => spec_DocOk.l2 k l c (i : Int) (j : Int) (p : Int) nm tx ats) (decide (p ∈ chain (upV l) j) && R) := by
  intro j
  induction j using Nat.strongRecOn with
  | _ j ih =>
  intro hj hR
  have hlt : j < l.length := by omega
  have hup := upV_at hlt
  by_cases c1 : j = p
  · have hm : p ∈ chain (upV l) j := by rw [chain_eq, c1]; simp
    rw [decide_eq_true hm, Bool.true_and]
    refine Ev.step (fun k => ?_) (hR hm)
    conv => lhs; unfold spec_DocOk.l2
    rw [if_pos (by omega), if_pos (by omega), if_neg (by omega)]
  · by_cases e : j = 0
    · subst e
      have h1 := (V.1 hj).1
      rw [chain_zero h1]
      rw [hup] at h1
      rw [decide_eq_false (by simp; omega), Bool.false_and]
      refine Ev.step (f := fun k => spec_DocOk.l2 k l c (i : Int) (-1) (p : Int) nm tx ats) (fun k => ?_) (Ev.step (f := fun _ => some false) (fun k => ?_) (Ev.now _))
      · conv => lhs; unfold spec_DocOk.l2
        rw [if_pos (by omega), if_neg (by omega), if_pos (by omega), if_pos (by omega), rdIt l 0 hlt, h1]
      · conv => lhs; unfold spec_DocOk.l2
        rw [if_neg (by omega), if_pos (by omega)]
    · obtain ⟨h1, h2, h3⟩ := V.2 j (by omega) hj
      have e2 : l[j].f0 = (((upV l j).toNat : Nat) : Int) := by rw [← hup]; omega
      have e3 : (p ∈ chain (upV l) j) ↔ (p ∈ chain (upV l) (upV l j).toNat) := by
        rw [chain_up h1 h2, List.mem_cons]
        exact ⟨fun h => h.resolve_left (fun h => c1 h.symm), .inr⟩
      have := ih (upV l j).toNat h2 (by omega) (fun h => hR (e3.2 h))
      rw [decide_eq_decide.2 e3]
      refine Ev.step (fun k => ?_) this
      conv => lhs; unfold spec_DocOk.l2
      rw [if_pos (by omega), if_neg (by omega), if_pos (by omega), if_pos (by omega), rdIt l j hlt, e2]
/-- The bytes that are counted ahead of the rest. -/
def bytesP (x : It) : Int := (x.f1.size : Int) + x.f2.size + bytesA (x.f3.take 20)
theorem bytesP_bound {x : It} (h : smallI x) : 0 ≤ bytesP x ∧ bytesP x ≤ bytesV x := by
  obtain ⟨h1, h2, h3, h4⟩ := h
  have h5 : ∀ (l : List At) (n : Nat), (∀ a ∈ l, smallA a) → bytesA (l.take n) ≤ bytesA l := by
    intro l
    induction l with
    | nil => intro n _; simp
    | cons a l ih =>
      intro n h
      have hb := bytesA_bound l (fun b hb => h b (by simp [hb]))
      cases n with
      | zero => simp only [List.take_zero, bytesA]; omega
      | succ n =>
        have := ih n (fun b hb => h b (by simp [hb]))
        simp only [List.take_succ_cons, bytesA]
        omega
  have h6 := h5 x.f3 20 h4
  have h7 := bytesA_bound (x.f3.take 20) (fun a ha => h4 a (List.mem_of_mem_take ha))
  unfold bytesP bytesV
  constructor <;> omega
theorem spec_sum (l : List It) (i : Nat) (p : Int) (nm tx : ByteArray) (ats : List At) (h : smallAs ats) (R : Bool) (T : Int) (hR : Ev (fun k => spec_DocOk.j3 k l T (i : Int) p nm tx ats) R) : ∀ (n j : Nat) (c : Int), j + n = (ats.take 20).length → 0 ≤ c → c ≤ 1152921504606846976 + 2097152 * j → c + bytesA ((ats.take 20).drop j) = T → Ev (fun k => spec_DocOk.l1 k l c (i : Int) (j : Int) p nm tx ats) R := by
  have hlen : (ats.take 20).length = min 20 ats.length := List.length_take
  intro n
  induction n with
  | zero =>
    intro j c hj h0 hc hT
    rw [List.drop_of_length_le (by omega), bytesA, Int.add_zero] at hT
    rw [← hT] at hR
    refine Ev.step (fun k => ?_) hR
    conv => lhs; unfold spec_DocOk.l1
    by_cases c1 : j < ats.length
    · rw [if_pos (by omega), if_neg (by omega)]
    · rw [if_neg (by omega)]
  | succ n ih =>
    intro j c hj h0 hc hT
    have hlt : j < (ats.take 20).length := by omega
    have hlt2 : j < ats.length := by omega
    rw [List.drop_eq_getElem_cons hlt, bytesA, List.getElem_take] at hT
    have hs := sm ats h j hlt2
    have e1 : wrap64 (c + (ats[j].f0.size : Int)) = c + (ats[j].f0.size : Int) := by rw [w64] <;> omega
    have e2 : wrap64 (c + (ats[j].f0.size : Int) + (ats[j].f1.size : Int)) = c + (ats[j].f0.size : Int) + (ats[j].f1.size : Int) := by rw [w64] <;> omega
    have := ih (j + 1) (c + (ats[j].f0.size : Int) + (ats[j].f1.size : Int)) (by omega) (by omega) (by omega) (by omega)
    refine Ev.step (fun k => ?_) this
    conv => lhs; unfold spec_DocOk.l1
    rw [if_pos (by omega), if_pos (by omega), if_pos (by omega), rdAt ats j hlt2, e1, e2, w1n hlt2 (by have := h.1; omega)]
section
variable (l : List It) (hl : smallD l) (hn : l.length ≤ 200)
include hl hn
theorem spec_content (i : Nat) (hlt : i < l.length) (c : Int) (R : Bool) (hp : ∀ j, j < i + 1 → PosP l j) (hR : Ev (fun k => spec_DocOk.l0 k l c ((i + 1 : Nat) : Int)) R) : Ev (fun k => spec_DocOk.j6 k l c (i : Int) l[i].f0 l[i].f1 l[i].f2 l[i].f3) (depV l i && (textV l i && goodAt l i) && R) := by
  have V : Val (upV l) (elV l) (i + 1) := pos_val hp
  have hx : smallI l[i] := hl _ (List.getElem_mem hlt)
  obtain ⟨hx1, hx2, hx3⟩ := hx
  have hup := upV_at hlt
  have hd := spec_deep l hn V (by omega) i (by omega)
  refine Ev.step (f := fun k => (spec_l2Deep.f k l (i : Int)).bind fun t153 => (if t153 ≥ 20 then (some false) else (if l[i].f1.toList = ([] : List UInt8) then (if l[i].f2.toList = ([] : List UInt8) then (spec_DocOk.j7 k l c (i : Int) true l[i].f0 l[i].f1 l[i].f2 l[i].f3) else (if (l[i].f3.length : Int) > 0 then (spec_DocOk.j7 k l c (i : Int) true l[i].f0 l[i].f1 l[i].f2 l[i].f3) else ((spec_l1Text.f k l[i].f2).bind fun t154 => (spec_DocOk.j7 k l c (i : Int) (!t154) l[i].f0 l[i].f1 l[i].f2 l[i].f3)))) else (if l[i].f2.toList = ([] : List UInt8) then ((spec_l1Qual.f k l[i].f1).bind fun t157 => (if t157 = true then ((spec_l2Attrs.f k l[i].f3).bind fun t158 => (if t158 = true then (spec_DocOk.l0 k l c (wrap64 ((i : Int) + 1))) else (some false))) else (some false))) else (some false))))) (fun k => ?_) (Ev.bind hd ?_)
  · conv => lhs; unfold spec_DocOk.j6
  · by_cases c1 : (chain (upV l) i).length ≤ 20
    · have : depV l i = true := decide_eq_true c1
      rw [this, Bool.true_and]
      rw [good_at hlt]
      unfold goodV
      cases he : elV l i with
      | true =>
        have hnm := (el_yes hlt).1 he
        have ht : textV l i = true := by unfold textV; rw [he]; rfl
        rw [ht, Bool.true_and, if_neg hnm]
        refine Ev.congr (f := fun k => (if l[i].f2.toList = ([] : List UInt8) then ((spec_l1Qual.f k l[i].f1).bind fun t157 => (if t157 = true then ((spec_l2Attrs.f k l[i].f3).bind fun t158 => (if t158 = true then (spec_DocOk.l0 k l c ((i + 1 : Nat) : Int)) else (some false))) else (some false))) else (some false))) (fun k => ?_) ?_
        · rw [if_neg (by omega), if_neg hnm, w1n hlt (by omega)]
        · by_cases c2 : l[i].f2.toList = ([] : List UInt8)
          · simp only [if_pos c2]
            refine Ev.bind (spec_qual l[i].f1 (size_len hx1)) ?_
            cases qualV l[i].f1 with
            | false => exact Ev.now _
            | true =>
              simp only [if_true, Bool.true_and]
              refine Ev.bind (spec_attrs l[i].f3 hx3) ?_
              cases attrsV l[i].f3 with
              | false => exact Ev.now _
              | true => exact hR
          · simp only [if_neg c2, Bool.and_false, Bool.false_and]
            exact Ev.now _
      | false =>
        have hnm := (el_no hlt).1 he
        rw [if_pos hnm]
        have hi0 : 0 < i := by
          rcases Nat.eq_zero_or_pos i with h | h
          · subst h
            rw [((hp 0 (by omega)).1 rfl).2] at he
            cases he
          · exact h
        have ht : textV l i = !(!elV l (i - 1) && decide (upV l (i - 1) = upV l i)) := by
          unfold textV
          rw [he, decide_eq_true hi0]
          simp
        have ew : wrap64 ((i : Int) - 1) = ((i - 1 : Nat) : Int) := by rw [w64] <;> omega
        have hlt1 : i - 1 < l.length := by omega
        have tail : ∀ b : Bool, Ev (fun k => spec_DocOk.j7 k l c (i : Int) b l[i].f0 l[i].f1 l[i].f2 l[i].f3) (textV l i && !b && R) := by
          intro b
          cases b with
          | true =>
            rw [Bool.not_true, Bool.and_false]
            refine Ev.step (f := fun _ => some false) (fun k => ?_) (Ev.now _)
            conv => lhs; unfold spec_DocOk.j7
            rw [if_pos rfl]
          | false =>
            rw [ht, Bool.not_false, Bool.and_true]
            cases hpe : elV l (i - 1) with
            | true =>
              have h2 := (el_yes hlt1).1 hpe
              simp only [Bool.not_true, Bool.not_false, Bool.false_and, Bool.true_and]
              refine Ev.step (fun k => ?_) hR
              conv => lhs; unfold spec_DocOk.j7
              rw [if_neg (by decide), ew, if_pos (by omega), if_pos (by omega), rdIt l (i - 1) hlt1, if_neg h2, w1n hlt (by omega)]
            | false =>
              have h2 := (el_no hlt1).1 hpe
              by_cases hs : upV l (i - 1) = upV l i
              · rw [decide_eq_true hs]
                rw [upV_at hlt1, hup] at hs
                refine Ev.step (f := fun _ => some false) (fun k => ?_) (Ev.now _)
                conv => lhs; unfold spec_DocOk.j7
                rw [if_neg (by decide), ew, if_pos (by omega), if_pos (by omega), rdIt l (i - 1) hlt1, if_pos h2, if_pos hs]
              · rw [decide_eq_false hs]
                rw [upV_at hlt1, hup] at hs
                simp only [Bool.not_true, Bool.not_false, Bool.and_false, Bool.true_and]
                refine Ev.step (fun k => ?_) hR
                conv => lhs; unfold spec_DocOk.j7
                rw [if_neg (by decide), ew, if_pos (by omega), if_pos (by omega), rdIt l (i - 1) hlt1, if_pos h2, if_neg hs, w1n hlt (by omega)]
        by_cases c2 : l[i].f2.toList = ([] : List UInt8)
        · rw [if_pos c2]
          refine Ev.congr (fun k => ?_) (tail true)
          rw [if_neg (by omega), if_pos hnm, if_pos c2]
        · rw [if_neg c2]
          by_cases c3 : l[i].f3.length = 0
          · rw [decide_eq_true c3, Bool.and_true]
            refine Ev.congr (f := fun k => (spec_l1Text.f k l[i].f2).bind fun t154 => (spec_DocOk.j7 k l c (i : Int) (!t154) l[i].f0 l[i].f1 l[i].f2 l[i].f3)) (fun k => ?_) ?_
            · rw [if_neg (by omega), if_pos hnm, if_neg c2, if_neg (by omega)]
            · refine Ev.bind (spec_text l[i].f2 (by omega)) ?_
              have := tail (!plainV l[i].f2)
              rw [Bool.not_not] at this
              exact this
          · rw [decide_eq_false c3, Bool.and_false]
            refine Ev.congr (fun k => ?_) (tail true)
            rw [if_neg (by omega), if_pos hnm, if_neg c2, if_pos (by omega)]
    · have : depV l i = false := decide_eq_false c1
      rw [this]
      refine Ev.congr (f := fun _ => some false) (fun k => ?_) (Ev.now _)
      rw [if_pos (by omega)]
end
theorem good_few {x : It} (h : goodV x = true) : x.f3.length ≤ 20 := by
  unfold goodV attrsV at h
  split at h
  · split at h
    · cases h
    · rw [Bool.and_eq_true, decide_eq_true_eq] at h
      omega
  · rw [Bool.and_eq_true] at h
    have h := h.2
    split at h
    · rw [Bool.and_eq_true, decide_eq_true_eq] at h
      omega
    · cases h
theorem spec_doc_l0 (l : List It) (hl : smallD l) (hn : l.length ≤ 200) : ∀ (n i : Nat) (c : Int), i + n = l.length → (∀ j, j < i → PosP l j) → 0 ≤ c → c ≤ 2500 → Ev (fun k => spec_DocOk.l0 k l c (i : Int)) (allN (stepV l) i n && decide (c + bytesD (l.drop i) ≤ 2500)) := by
  intro n
  induction n with
  | zero =>
    intro i c hi hp h0 hc
    rw [List.drop_of_length_le (by omega), allN, Bool.true_and, bytesD, Int.add_zero, decide_eq_true hc]
    refine Ev.step (f := fun _ => some true) (fun k => ?_) (Ev.now _)
    conv => lhs; unfold spec_DocOk.l0
    rw [if_neg (by omega)]
  | succ n ih =>
    intro i c hi hp h0 hc
    have hlt : i < l.length := by omega
    have hx : smallI l[i] := hl _ (List.getElem_mem hlt)
    have hb := bytesP_bound hx
    have hV := bytesV_bound hx
    have hdrop : bytesD (l.drop i) = bytesV l[i] + bytesD (l.drop (i + 1)) := by rw [List.drop_eq_getElem_cons hlt, bytesD]
    have hrest : 0 ≤ bytesD (l.drop (i + 1)) := bytesD_pos (fun x hx => hl x (List.mem_of_mem_drop hx))
    obtain ⟨hx1, hx2, hx3⟩ := hx
    have hup := upV_at hlt
    have e1 : wrap64 (c + (l[i].f1.size : Int)) = c + (l[i].f1.size : Int) := by rw [w64] <;> omega
    have e2 : wrap64 (c + (l[i].f1.size : Int) + (l[i].f2.size : Int)) = c + (l[i].f1.size : Int) + (l[i].f2.size : Int) := by rw [w64] <;> omega
    have main : Ev (fun k => spec_DocOk.j3 k l (c + bytesP l[i]) (i : Int) l[i].f0 l[i].f1 l[i].f2 l[i].f3) (allN (stepV l) i (n + 1) && decide (c + bytesD (l.drop i) ≤ 2500)) := by
      rw [allN]
      by_cases cb : c + bytesP l[i] > 2500
      · rw [decide_eq_false (show ¬ c + bytesD (l.drop i) ≤ 2500 by omega), Bool.and_false]
        refine Ev.step (f := fun _ => some false) (fun k => ?_) (Ev.now _)
        conv => lhs; unfold spec_DocOk.j3
        rw [if_pos cb]
      · by_cases hP : PosP l i
        · have hpi : ∀ j, j < i + 1 → PosP l j := fun j hj => by
            by_cases e : j = i
            · rw [e]; exact hP
            · exact hp j (by omega)
          have hc2 := spec_content l hl hn i hlt (c + bytesP l[i]) _ hpi (ih (i + 1) (c + bytesP l[i]) (by omega) hpi (by omega) (by omega))
          have hval : ((depV l i && (textV l i && goodAt l i)) && (allN (stepV l) (i + 1) n && decide (c + bytesP l[i] + bytesD (l.drop (i + 1)) ≤ 2500))) = ((stepV l i && allN (stepV l) (i + 1) n) && decide (c + bytesD (l.drop i) ≤ 2500)) := by
            have e : stepV l i = (depV l i && (textV l i && goodAt l i)) := by
              unfold stepV posV
              rw [decide_eq_true hP, Bool.true_and]
            rw [e]
            cases hg : goodAt l i with
            | false => simp
            | true =>
              rw [good_at hlt] at hg
              have hf := good_few hg
              have : bytesP l[i] = bytesV l[i] := by
                unfold bytesP bytesV
                rw [List.take_of_length_le hf]
              rw [this, show c + bytesV l[i] + bytesD (l.drop (i + 1)) = c + bytesD (l.drop i) by omega]
              simp only [Bool.and_assoc]
          rw [hval] at hc2
          by_cases h0i : i = 0
          · have hz := hP.1 h0i
            rw [← h0i] at hz
            have h1 := hz.1
            rw [hup] at h1
            have h2 := (el_yes hlt).1 hz.2
            refine Ev.step2' (fun k => ?_) hc2
            conv => lhs; unfold spec_DocOk.j3
            rw [if_neg cb, if_pos (by omega), if_pos h1, if_neg h2]
            conv => lhs; unfold spec_DocOk.j4
            rw [if_neg (by omega)]
          · obtain ⟨h1, h2, h3⟩ := hP.2 (by omega)
            have h4 := chain_lt _ _ h3
            have V : Val (upV l) (elV l) i := pos_val hp
            have ew : wrap64 ((i : Int) - 1) = ((i - 1 : Nat) : Int) := by rw [w64] <;> omega
            have ep : l[i].f0 = (((upV l i).toNat : Nat) : Int) := by rw [← hup]; omega
            have hin : inZ l[i].f0 0 ((i - 1 : Nat) : Int) = true := by
              unfold inZ
              simp
              omega
            have hlp : (upV l i).toNat < l.length := by omega
            have hq := spec_climb l V (by omega) (c + bytesP l[i]) i (upV l i).toNat l[i].f1 l[i].f2 l[i].f3 _ (i - 1) (by omega) (fun _ => by rw [← ep]; exact hc2)
            rw [decide_eq_true h3, Bool.true_and] at hq
            refine Ev.step2' (fun k => ?_) hq
            conv => lhs; unfold spec_DocOk.j3
            rw [if_neg cb, if_neg (by omega), ew, spec_in', Option.bind_some, hin, if_pos rfl, if_pos (by omega), if_pos (by omega), ep, rdIt l _ hlp, if_neg ((el_yes hlp).1 h2)]
            conv => lhs; unfold spec_DocOk.j4
            rw [if_pos (by omega), ew]
        · have e : stepV l i = false := by unfold stepV posV; rw [decide_eq_false hP]; rfl
          rw [e]
          by_cases h0i : i = 0
          · refine Ev.step (f := fun _ => some false) (fun k => ?_) (Ev.now _)
            conv => lhs; unfold spec_DocOk.j3
            rw [if_neg cb, if_pos (by omega)]
            by_cases h1 : l[i].f0 = -1
            · rw [if_pos h1]
              by_cases h2 : l[i].f1.toList = ([] : List UInt8)
              · rw [if_pos h2]
              · refine absurd ⟨fun _ => ?_, fun h => by omega⟩ hP
                subst h0i
                exact ⟨by rw [hup]; exact h1, (el_yes hlt).2 h2⟩
            · rw [if_neg h1]
          · have V : Val (upV l) (elV l) i := pos_val hp
            have ew : wrap64 ((i : Int) - 1) = ((i - 1 : Nat) : Int) := by rw [w64] <;> omega
            by_cases hin : inZ l[i].f0 0 ((i - 1 : Nat) : Int) = true
            · have hin2 := hin
              unfold inZ at hin2
              simp at hin2
              have ep : l[i].f0 = (((upV l i).toNat : Nat) : Int) := by rw [← hup] at hin2 ⊢; omega
              have hlp : (upV l i).toNat < l.length := by rw [← hup] at hin2; omega
              cases he : elV l (upV l i).toNat with
              | false =>
                refine Ev.step (f := fun _ => some false) (fun k => ?_) (Ev.now _)
                conv => lhs; unfold spec_DocOk.j3
                rw [if_neg cb, if_neg (by omega), ew, spec_in', Option.bind_some, hin, if_pos rfl, if_pos (by omega), if_pos (by omega), ep, rdIt l _ hlp, if_pos ((el_no hlp).1 he)]
              | true =>
                have hnc : ¬ (upV l i).toNat ∈ chain (upV l) (i - 1) := fun h => hP ⟨fun h => absurd h h0i, fun _ => ⟨by rw [hup]; omega, he, h⟩⟩
                have hq := spec_climb l V (by omega) (c + bytesP l[i]) i (upV l i).toNat l[i].f1 l[i].f2 l[i].f3 true (i - 1) (by omega) (fun h => absurd h hnc)
                rw [decide_eq_false hnc, Bool.false_and] at hq
                refine Ev.step2' (fun k => ?_) hq
                conv => lhs; unfold spec_DocOk.j3
                rw [if_neg cb, if_neg (by omega), ew, spec_in', Option.bind_some, hin, if_pos rfl, if_pos (by omega), if_pos (by omega), ep, rdIt l _ hlp, if_neg ((el_yes hlp).1 he)]
                conv => lhs; unfold spec_DocOk.j4
                rw [if_pos (by omega), ew]
            · refine Ev.step (f := fun _ => some false) (fun k => ?_) (Ev.now _)
              conv => lhs; unfold spec_DocOk.j3
              rw [if_neg cb, if_neg (by omega), ew, spec_in', Option.bind_some, if_neg hin]
    have hs := spec_sum l i l[i].f0 l[i].f1 l[i].f2 l[i].f3 hx3 _ (c + bytesP l[i]) main (l[i].f3.take 20).length 0 (c + (l[i].f1.size : Int) + (l[i].f2.size : Int)) (by omega) (by omega) (by omega) (by rw [List.drop_zero]; unfold bytesP; omega)
    refine Ev.step (fun k => ?_) hs
    conv => lhs; unfold spec_DocOk.l0
    rw [if_pos (by omega), if_pos (by omega), rdIt l i hlt, e1, e2]
    rfl
theorem spec_doc (l : List It) (hl : smallD l) (hb : l.length ≤ 1048576) : Ev (fun k => spec_DocOk.f k l) (docV l) := by
  have hj : Ev (fun k => spec_DocOk.j0 k l true) false := Ev.step (f := fun _ => some false) (fun k => rfl) (Ev.now _)
  unfold docV
  by_cases c1 : 1 ≤ l.length
  · by_cases c2 : l.length ≤ 200
    · rw [decide_eq_true c1, decide_eq_true c2]
      have := spec_doc_l0 l hl c2 l.length 0 0 (by omega) (fun j hj => by omega) (by omega) (by omega)
      rw [List.drop_zero, Int.zero_add] at this
      refine Ev.congr (f := fun k => spec_DocOk.j0 k l false) (fun k => ?_) (Ev.step (fun k => rfl) this)
      unfold spec_DocOk.f
      rw [if_neg (by omega), decide_eq_false (by omega)]
    · rw [decide_eq_false c2, Bool.and_false, Bool.false_and]
      refine Ev.congr (fun k => ?_) hj
      unfold spec_DocOk.f
      rw [if_neg (by omega), decide_eq_true (by omega)]
  · rw [decide_eq_false c1]
    refine Ev.congr (fun k => ?_) hj
    unfold spec_DocOk.f
    rw [if_pos (by omega)]
theorem doc_val {l : List It} (h : docV l = true) : 0 < l.length ∧ l.length ≤ 200 ∧ Val (upV l) (elV l) l.length := by
  unfold docV at h
  simp only [Bool.and_eq_true, decide_eq_true_eq] at h
  obtain ⟨⟨h1, h2⟩, h3, h4⟩ := h
  refine ⟨by omega, h2, pos_val (fun j hj => ?_)⟩
  rw [allN_iff] at h3
  exact step_pos (h3 j (by omega) (by omega))
def hasV (l : List It) (n : Int) : Bool := decide (docV l = true ∧ 0 ≤ n ∧ n < l.length)
theorem in_doc {l : List It} (h : docV l = true) (n : Int) : inZ n 0 (wrap64 ((l.length : Int) - 1)) = hasV l n := by
  have hv := doc_val h
  have ew : wrap64 ((l.length : Int) - 1) = ((l.length - 1 : Nat) : Int) := by rw [w64] <;> omega
  unfold inZ hasV
  rw [ew, Bool.eq_iff_iff]
  simp only [Bool.and_eq_true, decide_eq_true_eq]
  constructor
  · intro ⟨a, b⟩
    exact ⟨h, a, by omega⟩
  · intro ⟨_, a, b⟩
    exact ⟨a, by omega⟩
theorem impl_has_ev (l : List It) (n : Int) (hsm : smallD l) (hl : l.length ≤ 1048576) : Ev (fun k => impl_has.f k l n) (hasV l n) := by
  refine Ev.congr (f := fun k => (impl_DocOk.f k l).bind fun t => (if t = true then ((impl_in.f n 0 (wrap64 ((l.length : Int) - 1))).bind fun u => (some u)) else (some false))) (fun k => rfl) (Ev.bind (impl_doc l hsm hl) ?_)
  cases hd : docV l with
  | false =>
    have : hasV l n = false := decide_eq_false (fun h => by rw [hd] at h; exact absurd h.1 (by decide))
    rw [this]
    simp only [Bool.false_eq_true, if_false]
    exact Ev.now _
  | true =>
    simp only [if_true, impl_in', Option.bind_some, in_doc hd]
    exact Ev.now _
/-- What the first attribute of a name says. -/
def noName (nm : ByteArray) (L : List At) : Prop := ∀ j (h : j < L.length), L[j].f0.toList ≠ nm.toList
def saysB (p : ByteArray) (v : ByteArray) : ByteArray × Bool := (v, (p.toList == ([] : List UInt8)) || (v.toList != ([] : List UInt8)))
section
variable (l : List It) (hsm : smallD l) (p nm : ByteArray)
include hsm
theorem ib_l1 (n : Nat) (hn : n < l.length) (R : ByteArray × Bool) (hend : noName nm l[n].f3 → Ev (fun k => impl_bound.l0 k l (l[n].f0) p nm) R) (hfirst : ∀ i (h : i < l[n].f3.length), (∀ j (h : j < i), l[n].f3[j].f0.toList ≠ nm.toList) → l[n].f3[i].f0.toList = nm.toList → R = saysB p l[n].f3[i].f1) :
    ∀ (m i : Nat), i + m = l[n].f3.length → (∀ j (h : j < i) (h' : j < l[n].f3.length), l[n].f3[j].f0.toList ≠ nm.toList) → Ev (fun k => impl_bound.l1 k l (n : Int) p nm l[n].f3 (l[n].f3.length : Int) (i : Int)) R := by
  have hs3 := (hsm _ (List.getElem_mem hn)).2.2.1
  intro m
  induction m with
  | zero =>
    intro i hi hno
    refine Ev.step (fun k => ?_) (hend (fun j h => hno j (by omega) h))
    conv => lhs; unfold impl_bound.l1
    rw [if_neg (by omega), if_pos (by omega), if_pos (by omega), rdIt l n hn]
  | succ m ih =>
    intro i hi hno
    have hlt : i < l[n].f3.length := by omega
    by_cases c : l[n].f3[i].f0.toList = nm.toList
    · have e := hfirst i hlt (fun j h => hno j h (by omega)) c
      rw [e]
      refine Ev.step (f := fun _ => some (saysB p l[n].f3[i].f1)) (fun k => ?_) (Ev.now _)
      conv => lhs; unfold impl_bound.l1
      rw [if_pos (by omega), if_pos (by omega), if_pos (by omega), rdAt _ _ hlt, if_pos c]
      unfold saysB
      by_cases c2 : p.toList = ([] : List UInt8)
      · rw [if_pos c2, c2]; rfl
      · rw [if_neg c2]
        have : (p.toList == ([] : List UInt8)) = false := by simpa using c2
        rw [this, Bool.false_or]
    · refine Ev.step (fun k => ?_) (ih (i + 1) (by omega) (fun j h h' => by
        by_cases e : j = i
        · subst e; exact c
        · exact hno j (by omega) h'))
      conv => lhs; unfold impl_bound.l1
      rw [if_pos (by omega), if_pos (by omega), if_pos (by omega), rdAt _ _ hlt, if_neg c, w1n hlt (by omega)]
theorem sb_l1 (n : Nat) (hn : n < l.length) (R : ByteArray × Bool) (hend : noName nm l[n].f3 → Ev (fun k => spec_l3Bound.l0 k l p nm (l[n].f0)) R) (hfirst : ∀ i (h : i < l[n].f3.length), (∀ j (h : j < i), l[n].f3[j].f0.toList ≠ nm.toList) → l[n].f3[i].f0.toList = nm.toList → R = saysB p l[n].f3[i].f1) :
    ∀ (m i : Nat), i + m = l[n].f3.length → (∀ j (h : j < i) (h' : j < l[n].f3.length), l[n].f3[j].f0.toList ≠ nm.toList) → Ev (fun k => spec_l3Bound.l1 k l p nm (n : Int) (i : Int)) R := by
  have hs3 := (hsm _ (List.getElem_mem hn)).2.2.1
  intro m
  induction m with
  | zero =>
    intro i hi hno
    refine Ev.step (fun k => ?_) (hend (fun j h => hno j (by omega) h))
    conv => lhs; unfold spec_l3Bound.l1
    rw [if_pos (by omega), if_pos (by omega), rdIt l n hn, if_neg (by omega)]
  | succ m ih =>
    intro i hi hno
    have hlt : i < l[n].f3.length := by omega
    by_cases c : l[n].f3[i].f0.toList = nm.toList
    · have e := hfirst i hlt (fun j h => hno j h (by omega)) c
      rw [e]
      refine Ev.step (f := fun _ => some (saysB p l[n].f3[i].f1)) (fun k => ?_) (Ev.now _)
      conv => lhs; unfold spec_l3Bound.l1
      rw [if_pos (by omega), if_pos (by omega), rdIt l n hn, if_pos (by omega), if_pos (by omega), rdAt _ _ hlt, if_pos c]
      unfold saysB
      by_cases c2 : l[n].f3[i].f1.toList = ([] : List UInt8)
      · rw [if_pos c2, c2]
        simp
      · rw [if_neg c2]
        have : (l[n].f3[i].f1.toList != ([] : List UInt8)) = true := by simpa using c2
        rw [this, Bool.or_true]
    · refine Ev.step (fun k => ?_) (ih (i + 1) (by omega) (fun j h h' => by
        by_cases e : j = i
        · subst e; exact c
        · exact hno j (by omega) h'))
      conv => lhs; unfold spec_l3Bound.l1
      rw [if_pos (by omega), if_pos (by omega), rdIt l n hn, if_pos (by omega), if_pos (by omega), rdAt _ _ hlt, if_neg c, w1n hlt (by omega)]
end
/-- The two loops answer alike; what the first of a name says, and else as above. -/
def Bnd (l : List It) (p nm : ByteArray) (n : Int) (R : ByteArray × Bool) : Prop := Ev (fun k => impl_bound.l0 k l n p nm) R ∧ Ev (fun k => spec_l3Bound.l0 k l p nm n) R
theorem first_or (nm : ByteArray) (L : List At) : noName nm L ∨ ∃ i, ∃ h : i < L.length, (∀ j (h : j < i), L[j].f0.toList ≠ nm.toList) ∧ L[i].f0.toList = nm.toList := by
  induction L with
  | nil => exact .inl (fun j h => by simp at h)
  | cons a L ih =>
    by_cases c : a.f0.toList = nm.toList
    · exact .inr ⟨0, by simp, fun j h => by omega, c⟩
    · rcases ih with h | ⟨i, h1, h2, h3⟩
      · refine .inl (fun j hj => ?_)
        cases j with
        | zero => exact c
        | succ j => exact h j (by simpa using hj)
      · refine .inr ⟨i + 1, by simpa using h1, fun j hj => ?_, h3⟩
        cases j with
        | zero => exact c
        | succ j => exact h2 j (by omega)
theorem bnd_at (l : List It) (V : Val (upV l) (elV l) l.length) (hsm : smallD l) (p nm : ByteArray) : ∀ (n : Nat) (hn : n < l.length), ∃ R, Bnd l p nm (n : Int) R ∧ (∀ i (h : i < l[n].f3.length), (∀ j (h : j < i), l[n].f3[j].f0.toList ≠ nm.toList) → l[n].f3[i].f0.toList = nm.toList → R = saysB p l[n].f3[i].f1) ∧ (noName nm l[n].f3 → Bnd l p nm l[n].f0 R) := by
  intro n
  induction n using Nat.strongRecOn with
  | _ n ih =>
  intro hn
  have hup : upV l n = l[n].f0 := by unfold upV; rw [List.getElem?_eq_getElem hn]
  obtain ⟨R0, hR0⟩ : ∃ R0, Bnd l p nm l[n].f0 R0 := by
    by_cases c : 0 < n
    · obtain ⟨q1, q2, _⟩ := V.2 n c hn
      rw [hup] at q1 q2
      obtain ⟨R, hR, _⟩ := ih l[n].f0.toNat q2 (by omega)
      rw [show ((l[n].f0.toNat : Nat) : Int) = l[n].f0 by omega] at hR
      exact ⟨R, hR⟩
    · have c0 : n = 0 := by omega
      have q1 := (V.1 (by omega)).1
      rw [← c0, hup] at q1
      refine ⟨((⟨#[]⟩ : ByteArray), (p.toList == ([] : List UInt8))), Ev.step (f := fun _ => some ((⟨#[]⟩ : ByteArray), (p.toList == ([] : List UInt8)))) (fun k => ?_) (Ev.now _), Ev.step (f := fun _ => some ((⟨#[]⟩ : ByteArray), (p.toList == ([] : List UInt8)))) (fun k => ?_) (Ev.now _)⟩
      · conv => lhs; unfold impl_bound.l0
        rw [if_neg (by omega)]
      · conv => lhs; unfold spec_l3Bound.l0
        rw [if_neg (by omega)]
  have key : ∀ R, (noName nm l[n].f3 → R = R0) → (∀ i (h : i < l[n].f3.length), (∀ j (h : j < i), l[n].f3[j].f0.toList ≠ nm.toList) → l[n].f3[i].f0.toList = nm.toList → R = saysB p l[n].f3[i].f1) → Bnd l p nm (n : Int) R := by
    intro R h1 h2
    refine ⟨Ev.step (fun k => ?_) (ib_l1 l hsm p nm n hn R (fun h => by rw [h1 h]; exact hR0.1) h2 l[n].f3.length 0 (by omega) (fun j h => by omega)), Ev.step (fun k => ?_) (sb_l1 l hsm p nm n hn R (fun h => by rw [h1 h]; exact hR0.2) h2 l[n].f3.length 0 (by omega) (fun j h => by omega))⟩
    · conv => lhs; unfold impl_bound.l0
      rw [if_pos (by omega), if_pos (by omega), if_pos (by omega), rdIt l n hn]
      rfl
    · conv => lhs; unfold spec_l3Bound.l0
      rw [if_pos (by omega)]
      rfl
  rcases first_or nm l[n].f3 with h | ⟨i, hi, h1, h2⟩
  · exact ⟨R0, key R0 (fun _ => rfl) (fun i hi _ e => absurd e (h i hi)), fun i hi _ e => absurd e (h i hi), fun _ => hR0⟩
  · have hone : ∀ i' (h : i' < l[n].f3.length), (∀ j (h : j < i'), l[n].f3[j].f0.toList ≠ nm.toList) → l[n].f3[i'].f0.toList = nm.toList → saysB p l[n].f3[i].f1 = saysB p l[n].f3[i'].f1 := by
      intro i' hi' h1' h2'
      have : i = i' := by
        rcases Nat.lt_trichotomy i i' with c | c | c
        · exact absurd h2 (h1' i c)
        · exact c
        · exact absurd h2' (h1 i' c)
      subst this
      rfl
    exact ⟨saysB p l[n].f3[i].f1, key _ (fun h => absurd h2 (h i hi)) hone, hone, fun h => absurd h2 (h i hi)⟩
/-- The name under which a prefix is bound. -/
def nmB (p : ByteArray) : ByteArray := if p.toList = ([] : List UInt8) then ⟨#[120, 109, 108, 110, 115]⟩ else (⟨#[120, 109, 108, 110, 115, 58]⟩ : ByteArray) ++ p
def xmlB : ByteArray × Bool := ((⟨#[104, 116, 116, 112, 58, 47, 47, 119, 119, 119, 46, 119, 51, 46, 111, 114, 103, 47, 88, 77, 76, 47, 49, 57, 57, 56, 47, 110, 97, 109, 101, 115, 112, 97, 99, 101]⟩ : ByteArray), true)
theorem nm_join (p : ByteArray) : (⟨#[120, 109, 108, 110, 115]⟩ : ByteArray) ++ ((⟨#[58]⟩ : ByteArray) ++ p) = (⟨#[120, 109, 108, 110, 115, 58]⟩ : ByteArray) ++ p := by
  refine ba_ext ?_
  rw [ba_app, ba_app, ba_app]
  rfl
theorem bound_xml (l : List It) (n : Int) (p : ByteArray) (hp : p.toList = ([120, 109, 108] : List UInt8)) : Ev (fun k => impl_bound.f k l n p) xmlB ∧ Ev (fun k => spec_l3Bound.f k l n p) xmlB := by
  refine ⟨Ev.congr (f := fun _ => some xmlB) (fun k => ?_) (Ev.now _), Ev.congr (f := fun _ => some xmlB) (fun k => ?_) (Ev.now _)⟩
  · unfold impl_bound.f
    rw [if_pos hp]
    rfl
  · unfold spec_l3Bound.f
    rw [if_pos hp]
    rfl
theorem bound_any (l : List It) (n : Int) (p : ByteArray) (hps : p.size ≤ 64) (hp : ¬ p.toList = ([120, 109, 108] : List UInt8)) {R : ByteArray × Bool} (h : Bnd l p (nmB p) n R) : Ev (fun k => impl_bound.f k l n p) R ∧ Ev (fun k => spec_l3Bound.f k l n p) R := by
  have hsz : ((⟨#[58]⟩ : ByteArray) ++ p).size = 1 + p.size := by rw [ByteArray.size_append]; rfl
  unfold nmB at h
  by_cases c : p.toList = ([] : List UInt8)
  · rw [if_pos c] at h
    refine ⟨Ev.congr (f := fun k => impl_bound.j0 k l n p (⟨#[120, 109, 108, 110, 115]⟩ : ByteArray)) (fun k => ?_) (Ev.step (fun k => rfl) h.1), Ev.congr (f := fun k => spec_l3Bound.j0 k l n p (⟨#[120, 109, 108, 110, 115]⟩ : ByteArray)) (fun k => ?_) (Ev.step (fun k => rfl) h.2)⟩
    · unfold impl_bound.f
      rw [if_neg hp, if_pos c]
    · unfold spec_l3Bound.f
      rw [if_neg hp, if_pos c]
  · rw [if_neg c] at h
    refine ⟨Ev.congr (f := fun k => impl_bound.j0 k l n p ((⟨#[120, 109, 108, 110, 115, 58]⟩ : ByteArray) ++ p)) (fun k => ?_) (Ev.step (fun k => rfl) h.1), Ev.congr (f := fun k => spec_l3Bound.j0 k l n p ((⟨#[120, 109, 108, 110, 115, 58]⟩ : ByteArray) ++ p)) (fun k => ?_) (Ev.step (fun k => rfl) h.2)⟩
    · unfold impl_bound.f
      rw [if_neg hp, if_neg c, if_pos (by omega), if_pos (by omega), nm_join]
    · unfold spec_l3Bound.f
      rw [if_neg hp, if_neg c, if_pos (by omega)]
theorem unbindE {α β : Type} {g : Nat → Option α} {f : Nat → α → Option β} {a : α} {r : β} (h : Ev g a) (k : Ev (fun n => (g n).bind (f n)) r) : Ev (fun n => f n a) r := by
  obtain ⟨K1, h1⟩ := h
  obtain ⟨K2, h2⟩ := k
  refine ⟨max K1 K2, fun n hn => ?_⟩
  have a1 := h1 n (by omega)
  have a2 : (g n).bind (f n) = some r := h2 n (by omega)
  rw [a1] at a2
  exact a2
abbrev Qn : Type := S56
theorem rdQ (l : List Qn) (i : Nat) (h : i < l.length) : rd_T56 l (i : Int) = l[i] := by
  unfold rd_T56
  simp [h]
def sameQ (a b : Qn) : Bool := (a.f0.toList == b.f0.toList) && (a.f1.toList == b.f1.toList)
theorem sameQ_comm (a b : Qn) : sameQ a b = sameQ b a := by
  unfold sameQ
  rw [Bool.beq_comm (a := a.f0.toList), Bool.beq_comm (a := a.f1.toList)]
theorem index_l0 (out : List Qn) (q : Qn) (ho : out.length ≤ 1048576) : ∀ (n i : Nat), i + n = out.length → ∃ v, Ev (fun k => impl_QName_114.l0 k out (out.length : Int) (i : Int) q.f0 q.f1) v ∧ decide (v ≥ 0) = (out.drop i).any (sameQ q) := by
  intro n
  induction n with
  | zero =>
    intro i hi
    refine ⟨-1, Ev.step (f := fun _ => some (-1)) (fun k => ?_) (Ev.now _), ?_⟩
    · conv => lhs; unfold impl_QName_114.l0
      rw [if_neg (by omega)]
    · rw [List.drop_of_length_le (by omega)]
      rfl
  | succ n ih =>
    intro i hi
    have hlt : i < out.length := by omega
    rw [List.drop_eq_getElem_cons hlt, List.any_cons]
    by_cases c : sameQ q out[i] = true
    · refine ⟨(i : Int), Ev.step (f := fun _ => some (i : Int)) (fun k => ?_) (Ev.now _), ?_⟩
      · have c' := c
        unfold sameQ at c'
        conv => lhs; unfold impl_QName_114.l0
        rw [if_pos (by omega), if_pos (by omega), if_pos (by omega), rdQ out i hlt, if_pos c']
      · rw [c, Bool.true_or]
        exact decide_eq_true (by omega)
    · obtain ⟨v, hv, e⟩ := ih (i + 1) (by omega)
      refine ⟨v, Ev.step (fun k => ?_) hv, ?_⟩
      · have c' := c
        unfold sameQ at c'
        conv => lhs; unfold impl_QName_114.l0
        rw [if_pos (by omega), if_pos (by omega), if_pos (by omega), rdQ out i hlt, if_neg c', w1n hlt (by omega)]
      · rw [Bool.not_eq_true] at c
        rw [c, Bool.false_or, e]
theorem contains_ev (out : List Qn) (q : Qn) (ho : out.length ≤ 1048576) : Ev (fun k => impl_QName_99.f k out q.f0 q.f1) (out.any (sameQ q)) := by
  obtain ⟨v, hv, e⟩ := index_l0 out q ho out.length 0 (by omega)
  rw [List.drop_zero] at e
  rw [← e]
  exact Ev.bind (g := fun k => impl_QName_114.f k out q.f0 q.f1) hv (Ev.now _)
theorem split_size (s : ByteArray) : (splitV s).1.size ≤ s.size := by
  unfold splitV
  have h0 : noB.size ≤ s.size := Nat.zero_le _
  repeat' split
  all_goals first | exact h0 | (show (s.extract 0 _).size ≤ s.size; rw [ByteArray.size_extract]; omega)
def bindV (s : ByteArray) : Bool := if (splitV s).1.toList = ([120, 109, 108, 110, 115] : List UInt8) then true else if (splitV s).1.toList = ([] : List UInt8) then ((splitV s).2.1.toList == ([120, 109, 108, 110, 115] : List UInt8)) else false
theorem binding_ev (s : ByteArray) (hs : s.data.toList.length ≤ 9223372036854775806) : Ev (fun k => impl_isBinding.f k s) (bindV s) := by
  refine Ev.bind (impl_split s hs) ?_
  unfold bindV
  by_cases c1 : (splitV s).1.toList = ([120, 109, 108, 110, 115] : List UInt8)
  · simp only [if_pos c1]
    exact Ev.now _
  · simp only [if_neg c1]
    by_cases c2 : (splitV s).1.toList = ([] : List UInt8)
    · simp only [if_pos c2]
      exact Ev.now _
    · simp only [if_neg c2]
      exact Ev.now _
def apartQ (L : List Qn) : Prop := L.Pairwise fun a b => sameQ b a = false
def goodN (m : Nat) (R : List Qn × Bool) : Prop := R.1.length ≤ m ∧ apartQ R.1
theorem goodN_none (m : Nat) : goodN m (([] : List Qn), false) := ⟨Nat.zero_le _, List.Pairwise.nil⟩
theorem apart_snoc {L : List Qn} {q : Qn} (h : apartQ L) (hq : L.any (sameQ q) = false) : apartQ (L ++ [q]) := by
  unfold apartQ at h ⊢
  rw [List.pairwise_append]
  refine ⟨h, List.pairwise_singleton _ _, fun a ha b hb => ?_⟩
  rw [List.mem_singleton] at hb
  subst hb
  rw [List.any_eq_false] at hq
  have := hq a ha
  rwa [Bool.not_eq_true] at this
section
variable (r : List It) (t : Nat) (ht : t < r.length) (hat : ∀ a ∈ r[t].f3, a.f0.size ≤ 64) (h16 : r[t].f3.length ≤ 200)
theorem spec_l1_ev (out : List Qn) (q : Qn) (ho : out.length ≤ 200) (i : Int) (R : List Qn × Bool) : ∀ (n j : Nat), j + n = out.length → ((out.drop j).any (sameQ q) = true → R = (([] : List Qn), false)) →
    ((out.drop j).any (sameQ q) = false → Ev (fun k => spec_l3Attrs.l0 k r (t : Int) (out ++ [q]) (wrap64 (i + 1))) R) → Ev (fun k => spec_l3Attrs.l1 k r (t : Int) out i (j : Int) q.f0 q.f1) R := by
  intro n
  induction n with
  | zero =>
    intro j hj h1 h2
    rw [List.drop_of_length_le (by omega)] at h2
    refine Ev.step (fun k => ?_) (h2 rfl)
    conv => lhs; unfold spec_l3Attrs.l1
    rw [if_neg (by omega), if_pos (by omega)]
  | succ n ih =>
    intro j hj h1 h2
    have hlt : j < out.length := by omega
    rw [List.drop_eq_getElem_cons hlt, List.any_cons] at h1 h2
    by_cases c : sameQ q out[j] = true
    · rw [h1 (by rw [c, Bool.true_or])]
      refine Ev.step (f := fun _ => some (([] : List Qn), false)) (fun k => ?_) (Ev.now _)
      rw [sameQ_comm] at c
      unfold sameQ at c
      conv => lhs; unfold spec_l3Attrs.l1
      rw [if_pos (by omega), if_pos (by omega), rdQ out j hlt, if_pos c]
    · rw [Bool.not_eq_true] at c
      rw [c, Bool.false_or] at h1 h2
      refine Ev.step (fun k => ?_) (ih (j + 1) (by omega) h1 h2)
      rw [sameQ_comm] at c
      unfold sameQ at c
      conv => lhs; unfold spec_l3Attrs.l1
      rw [if_pos (by omega), if_pos (by omega), rdQ out j hlt, if_neg (by rw [Bool.not_eq_true]; exact c), w1n hlt (by omega)]
include ht hat h16
theorem names_l0 (hB : ∀ p : ByteArray, p.size ≤ 64 → ∃ R, Ev (fun k => impl_bound.f k r (t : Int) p) R ∧ Ev (fun k => spec_l3Bound.f k r (t : Int) p) R) : ∀ (n i : Nat) (out : List Qn), i + n = r[t].f3.length → out.length ≤ i → apartQ out →
    ∃ R, Ev (fun k => impl_attrNames.l0 k r (t : Int) out r[t].f3 (r[t].f3.length : Int) (i : Int)) R ∧ Ev (fun k => spec_l3Attrs.l0 k r (t : Int) out (i : Int)) R ∧ goodN r[t].f3.length R := by
  intro n
  induction n with
  | zero =>
    intro i out hi ho ha
    refine ⟨(out, true), Ev.step (f := fun _ => some (out, true)) (fun k => ?_) (Ev.now _), Ev.step (f := fun _ => some (out, true)) (fun k => ?_) (Ev.now _), show out.length ≤ _ by omega, ha⟩
    · conv => lhs; unfold impl_attrNames.l0
      rw [if_neg (by omega)]
    · conv => lhs; unfold spec_l3Attrs.l0
      rw [if_pos (by omega), if_pos (by omega), rdIt r t ht, if_neg (by omega)]
  | succ n ih =>
    intro i out hi ho ha
    have hlt : i < r[t].f3.length := by omega
    obtain ⟨s, hs⟩ : ∃ s, r[t].f3[i].f0 = s := ⟨_, rfl⟩
    have hsz : s.size ≤ 64 := by rw [← hs]; exact hat _ (List.getElem_mem hlt)
    have hsl : s.data.toList.length ≤ 9223372036854775806 := by rw [← sz]; omega
    have hw : wrap64 ((i : Int) + 1) = ((i + 1 : Nat) : Int) := w1n hlt (by omega)
    have hbi := binding_ev s hsl
    have hsi := impl_split s hsl
    have hss := spec_split s hsl
    have hps := split_size s
    have hI : ∀ R, Ev (fun k => (if bindV s = true then (impl_attrNames.l0 k r (t : Int) out r[t].f3 (r[t].f3.length : Int) ((i + 1 : Nat) : Int)) else (if (splitV s).1.toList = ([] : List UInt8) then ((impl_QName_99.f k out (⟨#[]⟩ : ByteArray) (splitV s).2.1).bind fun t672 => (if t672 = true then (some (([] : List Qn), false)) else (if out.length < 4398046511104 then (impl_attrNames.l0 k r (t : Int) (out ++ [(⟨(⟨#[]⟩ : ByteArray), (splitV s).2.1⟩ : Qn)]) r[t].f3 (r[t].f3.length : Int) ((i + 1 : Nat) : Int)) else (none)))) else ((impl_bound.f k r (t : Int) (splitV s).1).bind fun bt676 => (if bt676.2 = true then ((impl_QName_99.f k out bt676.1 (splitV s).2.1).bind fun t678 => (if t678 = true then (some (([] : List Qn), false)) else (if out.length < 4398046511104 then (impl_attrNames.l0 k r (t : Int) (out ++ [(⟨bt676.1, (splitV s).2.1⟩ : Qn)]) r[t].f3 (r[t].f3.length : Int) ((i + 1 : Nat) : Int)) else (none)))) else (some (([] : List Qn), false))))))) R → Ev (fun k => impl_attrNames.l0 k r (t : Int) out r[t].f3 (r[t].f3.length : Int) (i : Int)) R := by
      intro R h
      refine Ev.step (f := fun k => (impl_isBinding.f k s).bind fun t667 => (if t667 = true then (impl_attrNames.l0 k r (t : Int) out r[t].f3 (r[t].f3.length : Int) ((i + 1 : Nat) : Int)) else ((impl_Split.f k s).bind fun bt668 => (if bt668.1.toList = ([] : List UInt8) then ((impl_QName_99.f k out (⟨#[]⟩ : ByteArray) bt668.2.1).bind fun t672 => (if t672 = true then (some (([] : List Qn), false)) else (if out.length < 4398046511104 then (impl_attrNames.l0 k r (t : Int) (out ++ [(⟨(⟨#[]⟩ : ByteArray), bt668.2.1⟩ : Qn)]) r[t].f3 (r[t].f3.length : Int) ((i + 1 : Nat) : Int)) else (none)))) else ((impl_bound.f k r (t : Int) bt668.1).bind fun bt676 => (if bt676.2 = true then ((impl_QName_99.f k out bt676.1 bt668.2.1).bind fun t678 => (if t678 = true then (some (([] : List Qn), false)) else (if out.length < 4398046511104 then (impl_attrNames.l0 k r (t : Int) (out ++ [(⟨bt676.1, bt668.2.1⟩ : Qn)]) r[t].f3 (r[t].f3.length : Int) ((i + 1 : Nat) : Int)) else (none)))) else (some (([] : List Qn), false)))))))) (fun k => ?_) (Ev.bind hbi ?_)
      · conv => lhs; unfold impl_attrNames.l0
        rw [if_pos (by omega), if_pos (by omega), if_pos (by omega), rdAt _ _ hlt, hs, hw]
      · cases hb : bindV s with
        | true =>
          rw [hb] at h
          simp only [if_true] at h ⊢
          exact h
        | false =>
          rw [hb] at h
          simp only [Bool.false_eq_true, if_false] at h ⊢
          exact Ev.bind hsi h
    have hS : ∀ R, Ev (fun k => (if bindV s = true then (spec_l3Attrs.l0 k r (t : Int) out ((i + 1 : Nat) : Int)) else (if (splitV s).1.toList = ([] : List UInt8) then (spec_l3Attrs.l1 k r (t : Int) out (i : Int) 0 (⟨#[]⟩ : ByteArray) (splitV s).2.1) else ((spec_l3Bound.f k r (t : Int) (splitV s).1).bind fun bt720 => (if bt720.2 = true then (spec_l3Attrs.l1 k r (t : Int) out (i : Int) 0 bt720.1 (splitV s).2.1) else (some (([] : List Qn), false)))))) ) R → Ev (fun k => spec_l3Attrs.l0 k r (t : Int) out (i : Int)) R := by
      intro R h
      have hj1 : Ev (fun k => spec_l3Attrs.j1 k r (t : Int) out (i : Int) (splitV s).1 (splitV s).2.1 (bindV s)) R := by
        cases hb : bindV s with
        | true =>
          rw [hb] at h
          simp only [if_true] at h
          refine Ev.step (fun k => ?_) h
          conv => lhs; unfold spec_l3Attrs.j1
          rw [if_pos rfl, hw]
        | false =>
          rw [hb] at h
          simp only [Bool.false_eq_true, if_false] at h
          by_cases c2 : (splitV s).1.toList = ([] : List UInt8)
          · simp only [if_pos c2] at h
            refine Ev.step (f := fun k => spec_l3Attrs.j2 k r (t : Int) out (i : Int) (⟨#[]⟩ : ByteArray) (splitV s).2.1) (fun k => ?_) (Ev.step (fun k => ?_) h)
            · conv => lhs; unfold spec_l3Attrs.j1
              rw [if_neg (by decide), if_pos c2]
            · conv => lhs; unfold spec_l3Attrs.j2
          · simp only [if_neg c2] at h
            obtain ⟨B, _, hB2⟩ := hB (splitV s).1 (by omega)
            refine Ev.step (f := fun k => (spec_l3Bound.f k r (t : Int) (splitV s).1).bind fun bt720 => (if bt720.2 = true then (spec_l3Attrs.j2 k r (t : Int) out (i : Int) bt720.1 (splitV s).2.1) else (some (([] : List Qn), false)))) (fun k => ?_) (Ev.bind hB2 ?_)
            · conv => lhs; unfold spec_l3Attrs.j1
              rw [if_neg (by decide), if_neg c2]
            · have h' := unbindE hB2 h
              cases hb2 : B.2 with
              | true =>
                rw [hb2] at h'
                simp only [if_true] at h' ⊢
                refine Ev.step (fun k => ?_) h'
                conv => lhs; unfold spec_l3Attrs.j2
              | false =>
                rw [hb2] at h'
                simp only [Bool.false_eq_true, if_false] at h' ⊢
                exact h'
      refine Ev.step (f := fun k => (spec_Split.f k s).bind fun bt716 => (if bt716.1.toList = ([120, 109, 108, 110, 115] : List UInt8) then (spec_l3Attrs.j1 k r (t : Int) out (i : Int) bt716.1 bt716.2.1 true) else (if bt716.1.toList = ([] : List UInt8) then (spec_l3Attrs.j1 k r (t : Int) out (i : Int) bt716.1 bt716.2.1 (bt716.2.1.toList == ([120, 109, 108, 110, 115] : List UInt8))) else (spec_l3Attrs.j1 k r (t : Int) out (i : Int) bt716.1 bt716.2.1 false)))) (fun k => ?_) (Ev.bind hss ?_)
      · conv => lhs; unfold spec_l3Attrs.l0
        rw [if_pos (by omega), if_pos (by omega), rdIt r t ht, if_pos (by omega), if_pos (by omega), rdAt _ _ hlt, hs]
      · unfold bindV at hj1
        by_cases c1 : (splitV s).1.toList = ([120, 109, 108, 110, 115] : List UInt8)
        · simp only [if_pos c1] at hj1 ⊢
          exact hj1
        · simp only [if_neg c1] at hj1 ⊢
          by_cases c2 : (splitV s).1.toList = ([] : List UInt8)
          · simp only [if_pos c2] at hj1 ⊢
            exact hj1
          · simp only [if_neg c2] at hj1 ⊢
            exact hj1
    have hadd : ∀ q : Qn, ∃ R, Ev (fun k => (impl_QName_99.f k out q.f0 q.f1).bind fun t672 => (if t672 = true then (some (([] : List Qn), false)) else (if out.length < 4398046511104 then (impl_attrNames.l0 k r (t : Int) (out ++ [q]) r[t].f3 (r[t].f3.length : Int) ((i + 1 : Nat) : Int)) else (none)))) R ∧ Ev (fun k => spec_l3Attrs.l1 k r (t : Int) out (i : Int) 0 q.f0 q.f1) R ∧ goodN r[t].f3.length R := by
      intro q
      have hc := contains_ev out q (by omega)
      cases hq : out.any (sameQ q) with
      | true =>
        rw [hq] at hc
        refine ⟨(([] : List Qn), false), Ev.bind hc ?_, spec_l1_ev r t out q (by omega) (i : Int) _ out.length 0 (by omega) (fun _ => rfl) (fun h => by rw [List.drop_zero, hq] at h; cases h), goodN_none _⟩
        simp only [if_true]
        exact Ev.now _
      | false =>
        rw [hq] at hc
        obtain ⟨R, r1, r2, r3⟩ := ih (i + 1) (out ++ [q]) (by omega) (by rw [List.length_append, List.length_singleton]; omega) (apart_snoc ha hq)
        refine ⟨R, Ev.bind hc ?_, spec_l1_ev r t out q (by omega) (i : Int) _ out.length 0 (by omega) (fun h => by rw [List.drop_zero, hq] at h; cases h) (fun _ => by rw [hw]; exact r2), r3⟩
        simp only [Bool.false_eq_true, if_false, if_pos (show out.length < 4398046511104 by omega)]
        exact r1
    cases hb : bindV s with
    | true =>
      obtain ⟨R, r1, r2, r3⟩ := ih (i + 1) out (by omega) (by omega) ha
      refine ⟨R, hI R ?_, hS R ?_, r3⟩
      · rw [hb]
        simp only [if_true]
        exact r1
      · rw [hb]
        simp only [if_true]
        exact r2
    | false =>
      by_cases c2 : (splitV s).1.toList = ([] : List UInt8)
      · obtain ⟨R, r1, r2, r3⟩ := hadd (⟨(⟨#[]⟩ : ByteArray), (splitV s).2.1⟩ : Qn)
        refine ⟨R, hI R ?_, hS R ?_, r3⟩
        · rw [hb]
          simp only [Bool.false_eq_true, if_false, if_pos c2]
          exact r1
        · rw [hb]
          simp only [Bool.false_eq_true, if_false, if_pos c2]
          exact r2
      · obtain ⟨B, hB1, hB2⟩ := hB (splitV s).1 (by omega)
        cases hb2 : B.2 with
        | false =>
          refine ⟨_, hI _ ?_, hS _ ?_, goodN_none _⟩
          · rw [hb]
            simp only [Bool.false_eq_true, if_false, if_neg c2]
            refine Ev.bind hB1 ?_
            simp only [hb2, Bool.false_eq_true, if_false]
            exact Ev.now _
          · rw [hb]
            simp only [Bool.false_eq_true, if_false, if_neg c2]
            refine Ev.bind hB2 ?_
            simp only [hb2, Bool.false_eq_true, if_false]
            exact Ev.now _
        | true =>
          obtain ⟨R, r1, r2, r3⟩ := hadd (⟨B.1, (splitV s).2.1⟩ : Qn)
          refine ⟨R, hI R ?_, hS R ?_, r3⟩
          · rw [hb]
            simp only [Bool.false_eq_true, if_false, if_neg c2]
            refine Ev.bind hB1 ?_
            simp only [hb2, if_true]
            exact r1
          · rw [hb]
            simp only [Bool.false_eq_true, if_false, if_neg c2]
            refine Ev.bind hB2 ?_
            simp only [hb2, if_true]
            exact r2
end
end Go.Proofs.YtpmjpbaeecnpiaaDoor.Pure

namespace Go.Proofs.YtpmjpbaeecnpiaaDoor.Pure
open Go.RowKit Go.Proofs.YtpmjpbaeecnpiaaDoor.L Go.Proofs.YtpmjpbaeecnpiaaDoorW.PrintWords Go.Proofs.YtpmjpbaeecnpiaaDoorW.PrintLast Go.Proofs.YtpmjpbaeecnpiaaDoorW.PrintMore
set_option linter.unusedVariables false
set_option linter.unusedSimpArgs false

def Code (l : List Int) : Prop := l.length ≤ 140737488351232 ∧ ∀ x ∈ l, 0 ≤ x ∧ x ≤ 255
def St (l : List Int) (p : Int) : Prop := 0 ≤ p ∧ p ≤ l.length
theorem code_of {l : List Int} (h1 : l.length * 1 ≤ 140737488351232) (h2 : ∀ x ∈ l, (Lit.int .u8 x).wf = true) : Code l :=
  ⟨by omega, fun x hx => by
    have := h2 x hx
    simpa [Lit.wf, IntKind.min, IntKind.max, IntKind.signed, IntKind.bits] using this⟩
theorem rd_byte {l : List Int} (h : Code l) (i : Int) : 0 ≤ rd l i ∧ rd l i ≤ 255 := by
  unfold rd
  rw [List.getD_eq_getElem?_getD]
  rcases e : l[i.toNat]? with _ | x
  · simp
  · exact h.2 x (List.mem_of_getElem? e)
theorem next_f {l : List Int} {p : Int} (h : Code l) (hp : St l p) : ∃ v q, spec_l1Rd_next.f l p = some (v, q) ∧ 0 ≤ v ∧ v ≤ 255 ∧ St l q := by
  have hl := h.1
  obtain ⟨p0, p1⟩ := hp
  unfold spec_l1Rd_next.f
  by_cases c : p ≥ (l.length : Int)
  · rw [if_pos c]; exact ⟨0, p, rfl, by omega, by omega, p0, p1⟩
  · have w1 : wrap64 (p + 1) = p + 1 := by rw [w64] <;> omega
    have w2 : wrap64 (p + 1 - 1) = p := by rw [w64] <;> omega
    have hb := rd_byte h p
    have w3 : wrap64 (rd l p) = rd l p := by rw [w64] <;> omega
    rw [if_neg c, w1, w2, if_pos (by omega), if_pos (by omega), w3]
    exact ⟨_, _, rfl, hb.1, hb.2, by omega, by omega⟩
theorem below_f {l : List Int} {p : Int} (h : Code l) (hp : St l p) (n : Int) (h1 : 1 ≤ n) (h2 : n ≤ 256) : ∃ v q, spec_l1Rd_below.f l p n = some (v, q) ∧ 0 ≤ v ∧ v < n ∧ St l q := by
  unfold spec_l1Rd_below.f
  by_cases c : n ≤ 1
  · rw [if_pos c]; exact ⟨0, p, rfl, by omega, by omega, hp⟩
  · obtain ⟨v, q, e, v0, v1, hq⟩ := next_f h hp
    rw [if_neg c, if_pos h2, e]
    simp only [Option.bind_some]
    rw [if_neg (by omega), Int.tmod_eq_emod_of_nonneg v0]
    exact ⟨_, _, rfl, Int.emod_nonneg _ (by omega), Int.emod_lt_of_pos _ (by omega), hq⟩
theorem once_f {l : List Int} {p : Int} (h : Code l) (hp : St l p) (n : Int) (h1 : 1 ≤ n) (h2 : n ≤ 256) : ∃ v q, spec_l1Rd_once.f l p n = some (v, q) ∧ St l q := by
  obtain ⟨v, q, e, _, _, hq⟩ := below_f h hp n h1 h2
  unfold spec_l1Rd_once.f
  rw [e]
  exact ⟨_, _, rfl, hq⟩
theorem rdOf_size (y : List ByteArray) (i : Int) (n : Nat) (h : ∀ s ∈ y, s.size ≤ n) : (rdOf ByteArray.empty y i).size ≤ n := by
  unfold rdOf
  rw [List.getD_eq_getElem?_getD]
  rcases e : y[i.toNat]? with _ | x
  · simp only [Option.getD_none]; exact Nat.zero_le _
  · exact h x (List.mem_of_getElem? e)

theorem text_f {l : List Int} {p : Int} (h : Code l) (hp : St l p) : ∃ s q, spec_l1Rd_text.f l p = some (s, q) ∧ s.size ≤ 4 ∧ St l q := by
  obtain ⟨v, q, e, v0, v1, hq⟩ := below_f h hp 14 (by omega) (by omega)
  unfold spec_l1Rd_text.f
  simp only [Option.bind_some]
  rw [e]
  simp only [Option.bind_some]
  rw [if_pos v0, if_pos (by simpa using v1)]
  exact ⟨_, _, rfl, rdOf_size _ _ 4 (by decide), hq⟩
theorem name_f {l : List Int} {p : Int} (h : Code l) (hp : St l p) : ∃ s q, spec_l1Rd_name.f l p = some (s, q) ∧ s.size ≤ 5 ∧ St l q := by
  obtain ⟨v, q, e, v0, v1, hq⟩ := below_f h hp 7 (by omega) (by omega)
  unfold spec_l1Rd_name.f
  simp only [Option.bind_some]
  rw [e]
  simp only [Option.bind_some]
  rw [if_pos v0, if_pos (by simpa using v1)]
  exact ⟨_, _, rfl, rdOf_size _ _ 5 (by decide), hq⟩
theorem word_l0 {l : List Int} (h : Code l) : ∀ (n : Nat) (x i p : Int), St l p → 0 ≤ i → i + n = 8 → ∃ v q, Ev (fun k => spec_l1Rd_word.l0 k x i l p) (v, q) ∧ St l q := by
  intro n
  induction n with
  | zero =>
    intro x i p hp hi hn
    refine ⟨x, p, Ev.step (f := fun _ => some (x, p)) (fun k => ?_) (Ev.now _), hp⟩
    conv => lhs; unfold spec_l1Rd_word.l0
    rw [if_neg (by omega)]
  | succ n ih =>
    intro x i p hp hi hn
    obtain ⟨v, q, e, _, _, hq⟩ := next_f h hp
    obtain ⟨v2, q2, he, hq2⟩ := ih (Go.bits .or .u64 (IntKind.u64.wrap (x * 256)) (IntKind.u64.wrap v)) (i + 1) q hq (by omega) (by omega)
    refine ⟨v2, q2, Ev.step (fun k => ?_) he, hq2⟩
    conv => lhs; unfold spec_l1Rd_word.l0
    rw [if_pos (by omega), e, Option.bind_some, w64 (by omega) (by omega)]
theorem word_f {l : List Int} {p : Int} (h : Code l) (hp : St l p) : ∃ v q, Ev (fun k => spec_l1Rd_word.f k l p) (v, q) ∧ St l q := word_l0 h 8 0 0 p hp (by omega) (by omega)
theorem near_f {l : List Int} {p : Int} (h : Code l) (hp : St l p) (a b : Int) (ha : -1 ≤ a) (hb : b ≤ 1048576) (ha2 : a ≤ 1048576) : ∃ v q, Ev (fun k => spec_l1Rd_near.f k l p a b) (v, q) ∧ St l q := by
  obtain ⟨v, q, e, v0, v1, hq⟩ := below_f h hp 8 (by omega) (by omega)
  have hf : ∀ k, spec_l1Rd_near.f k l p a b = if v = 0 then (some (a, q)) else (if v = 1 then (some (b, q)) else (if b < a then (some (a, q)) else ((spec_l1Rd_word.f k l q).bind fun bt425 => (if (IntKind.u64.wrap (wrap64 ((wrap64 (b - a)) + 1))) = 0 then (none) else (some (wrap64 (a + (wrap64 (Int.tmod (bt425.1 / 2) (IntKind.u64.wrap (wrap64 ((wrap64 (b - a)) + 1)))))), bt425.2)))))) := by
    intro k
    unfold spec_l1Rd_near.f
    rw [e, Option.bind_some]
  by_cases c1 : v = 0
  · exact ⟨a, q, Ev.congr (f := fun _ => some (a, q)) (fun k => by rw [hf, if_pos c1]) (Ev.now _), hq⟩
  · by_cases c2 : v = 1
    · exact ⟨b, q, Ev.congr (f := fun _ => some (b, q)) (fun k => by rw [hf, if_neg c1, if_pos c2]) (Ev.now _), hq⟩
    · by_cases c3 : b < a
      · exact ⟨a, q, Ev.congr (f := fun _ => some (a, q)) (fun k => by rw [hf, if_neg c1, if_neg c2, if_pos c3]) (Ev.now _), hq⟩
      · obtain ⟨x, r, hx, hr⟩ := word_f h hq
        have e1 : wrap64 (wrap64 (b - a) + 1) = b - a + 1 := by rw [w64 (n := b - a) (by omega) (by omega), w64] <;> omega
        have e2 : IntKind.u64.wrap (b - a + 1) = b - a + 1 := by
          simp only [IntKind.wrap, IntKind.signed, IntKind.bits]
          simp
          omega
        refine ⟨wrap64 (a + (wrap64 (Int.tmod (x / 2) (b - a + 1)))), r, Ev.congr (fun k => by rw [hf, if_neg c1, if_neg c2, if_neg c3]) (Ev.bind hx ?_), hr⟩
        simp only [e1, e2, if_neg (show ¬ (b - a + 1 = 0) by omega)]
        exact Ev.now _
theorem off_f {l : List Int} {p : Int} (h : Code l) (hp : St l p) (a b : Int) (ha : -1 ≤ a) (hb : b ≤ 1048576) (ha2 : a ≤ 1048576) : ∃ v q, Ev (fun k => spec_l1Rd_off.f k l p a b) (v, q) ∧ St l q := by
  obtain ⟨c, q, e, hq⟩ := once_f h hp 24 (by omega) (by omega)
  have hf : ∀ k, spec_l1Rd_off.f k l p a b = if c = true then ((some (([wrap64 (a - 1), wrap64 (b + 1), (-9223372036854775808), 9223372036854775807] : List Int) : List Int)).bind fun y429 => ((spec_l1Rd_below.f l q 4).bind fun bt432 => (if 0 ≤ bt432.1 then (if bt432.1 < (y429.length : Int) then (some (rd y429 bt432.1, bt432.2)) else (none)) else (none)))) else ((spec_l1Rd_near.f k l q a b).bind fun bt435 => (some (bt435.1, bt435.2))) := by
    intro k
    unfold spec_l1Rd_off.f
    rw [e, Option.bind_some]
  cases c with
  | true =>
    obtain ⟨v, r, e2, v0, v1, hr⟩ := below_f h hq 4 (by omega) (by omega)
    refine ⟨rd [wrap64 (a - 1), wrap64 (b + 1), (-9223372036854775808), 9223372036854775807] v, r, Ev.congr (f := fun _ => some (rd [wrap64 (a - 1), wrap64 (b + 1), (-9223372036854775808), 9223372036854775807] v, r)) (fun k => ?_) (Ev.now _), hr⟩
    rw [hf, if_pos rfl, Option.bind_some, e2, Option.bind_some, if_pos v0, if_pos (by simpa using v1)]
  | false =>
    obtain ⟨v, r, hv, hr⟩ := near_f h hq a b ha hb ha2
    refine ⟨v, r, Ev.congr (fun k => by rw [hf, if_neg (by decide)]) (Ev.bind hv (Ev.now _)), hr⟩
def tiny (x : It) : Prop := x.f1.size ≤ 64 ∧ x.f2.size ≤ 64 ∧ x.f3.length ≤ 8 ∧ ∀ a ∈ x.f3, a.f0.size ≤ 64 ∧ a.f1.size ≤ 64
def tinies (l : List It) : Prop := ∀ x ∈ l, tiny x
def G (l : List Int) (B : Nat) (r : List It) (q : Int) : Prop := tinies r ∧ 1 ≤ r.length ∧ r.length ≤ B ∧ St l q
def mk (u : Int) (nm tx : ByteArray) (ats : List At) : It := ⟨u, nm, tx, ats⟩
theorem tinies_app {l : List It} {x : It} (h : tinies l) (hx : tiny x) : tinies (l ++ [x]) := by
  intro y hy
  rcases List.mem_append.1 hy with h1 | h1
  · exact h y h1
  · rw [List.mem_singleton] at h1
    rw [h1]
    exact hx
theorem grow_l1 {l : List Int} (h : Code l) (x1 : List It) (up deep x9 : Int) (nm : ByteArray) (B : Nat)
    (J : ∀ (p : Int) (ats : List At), St l p → ats.length ≤ 3 → (∀ a ∈ ats, a.f0.size ≤ 64 ∧ a.f1.size ≤ 64) → ∃ r q, Ev (fun k => spec_l1Rd_grow.j3 k x1 up deep x9 l p up nm (⟨#[]⟩ : ByteArray) ats) (r, q) ∧ G l B r q) :
    ∀ (m : Nat) (p : Int) (ats : List At), St l p → ats.length + m ≤ 3 → (∀ a ∈ ats, a.f0.size ≤ 64 ∧ a.f1.size ≤ 64) → ∃ r q, Ev (fun k => spec_l1Rd_grow.l1 k x1 up deep x9 (m : Int) l p up nm (⟨#[]⟩ : ByteArray) ats) (r, q) ∧ G l B r q := by
  intro m
  induction m with
  | zero =>
    intro p ats hp hm ha
    have hsm : smallAs ats := ⟨by omega, fun a h => ⟨by have := (ha a h).1; omega, by have := (ha a h).2; omega⟩⟩
    have hat := spec_attrs ats hsm
    cases hv : attrsV ats with
    | true =>
      rw [hv] at hat
      obtain ⟨r, q, he, hg⟩ := J p ats hp (by omega) ha
      refine ⟨r, q, Ev.step (f := fun k => (spec_l2Attrs.f k ats).bind fun t483 => (if t483 = true then (spec_l1Rd_grow.j3 k x1 up deep x9 l p up nm (⟨#[]⟩ : ByteArray) ats) else (if 1 ≤ (ats.length : Int) then (spec_l1Rd_grow.j3 k x1 up deep x9 l p up nm (⟨#[]⟩ : ByteArray) (ats.take (1 : Int).toNat)) else (none)))) (fun k => ?_) (Ev.bind hat he), hg⟩
      conv => lhs; unfold spec_l1Rd_grow.l1
      rw [if_neg (by omega)]
    | false =>
      rw [hv] at hat
      have h1 : 1 ≤ ats.length := by
        rcases Nat.eq_zero_or_pos ats.length with e | e
        · rw [List.length_eq_zero_iff] at e
          rw [e] at hv
          exact absurd hv (by decide)
        · exact e
      obtain ⟨r, q, he, hg⟩ := J p (ats.take (1 : Int).toNat) hp (by rw [List.length_take]; omega) (fun a h => ha a (List.mem_of_mem_take h))
      refine ⟨r, q, Ev.step (f := fun k => (spec_l2Attrs.f k ats).bind fun t483 => (if t483 = true then (spec_l1Rd_grow.j3 k x1 up deep x9 l p up nm (⟨#[]⟩ : ByteArray) ats) else (if 1 ≤ (ats.length : Int) then (spec_l1Rd_grow.j3 k x1 up deep x9 l p up nm (⟨#[]⟩ : ByteArray) (ats.take (1 : Int).toNat)) else (none)))) (fun k => ?_) (Ev.bind hat ?_), hg⟩
      · conv => lhs; unfold spec_l1Rd_grow.l1
        rw [if_neg (by omega)]
      · simp only [Bool.false_eq_true, if_false, if_pos (show (1 : Int) ≤ (ats.length : Int) by omega)]
        exact he
  | succ m ih =>
    intro p ats hp hm ha
    obtain ⟨n, q, e1, hn, hq⟩ := name_f h hp
    obtain ⟨c, q2, e2, hq2⟩ := once_f h hq 4 (by omega) (by omega)
    obtain ⟨t, q3, e3, ht, hq3⟩ := text_f h hq2
    have ew : wrap64 (((m + 1 : Nat) : Int) - 1) = (m : Int) := by rw [w64] <;> omega
    have hadd : ∀ nn : ByteArray, nn.size ≤ 64 → ∀ a ∈ ats ++ [(⟨nn, t⟩ : At)], a.f0.size ≤ 64 ∧ a.f1.size ≤ 64 := by
      intro nn hnn a hm
      rcases List.mem_append.1 hm with h1 | h1
      · exact ha a h1
      · rw [List.mem_singleton] at h1
        subst h1
        exact ⟨hnn, by show t.size ≤ 64; omega⟩
    cases c with
    | true =>
      have hs : ((⟨#[112, 58]⟩ : ByteArray) ++ n).size ≤ 64 := by rw [ByteArray.size_append]; show 2 + n.size ≤ 64; omega
      obtain ⟨r, z, he, hg⟩ := ih q3 (ats ++ [(⟨(⟨#[112, 58]⟩ : ByteArray) ++ n, t⟩ : At)]) hq3 (by simp; omega) (hadd _ hs)
      refine ⟨r, z, Ev.step (fun k => ?_) he, hg⟩
      conv => lhs; unfold spec_l1Rd_grow.l1
      rw [if_pos (by omega), e1, Option.bind_some, e2, Option.bind_some, if_pos rfl, if_pos (by simp only; omega), e3, Option.bind_some, if_pos (by omega), ew]
    | false =>
      obtain ⟨r, z, he, hg⟩ := ih q3 (ats ++ [(⟨n, t⟩ : At)]) hq3 (by simp; omega) (hadd _ (by omega))
      refine ⟨r, z, Ev.step (fun k => ?_) he, hg⟩
      conv => lhs; unfold spec_l1Rd_grow.l1
      rw [if_pos (by omega), e1, Option.bind_some, e2, Option.bind_some, if_neg (by simp), e3, Option.bind_some, if_pos (by omega), ew]
/-- How many items more. -/
def T : Nat → Nat
  | 0 => 3
  | d + 1 => 3 * (1 + T d)
def T' : Nat → Nat
  | 0 => 0
  | d + 1 => T d
theorem T_eq (d : Nat) : T d = 3 * (1 + T' d) := by cases d <;> rfl
theorem grow_l0 {l : List Int} (h : Code l) (up : Int) (d : Nat) (hd100 : d ≤ 100)
    (IH : ∀ d', d = d' + 1 → ∀ (list : List It) (u p : Int), tinies list → 1 ≤ list.length → list.length + T d' ≤ 256 → St l p → ∃ r q, Ev (fun k => spec_l1Rd_grow.f k l p list u (d' : Int)) (r, q) ∧ G l (list.length + T d') r q) :
    ∀ (c : Nat) (list : List It) (p : Int), tinies list → 1 ≤ list.length → list.length + c * (1 + T' d) ≤ 256 → St l p → ∃ r q, Ev (fun k => spec_l1Rd_grow.l0 k list up (d : Int) (c : Int) l p) (r, q) ∧ G l (list.length + c * (1 + T' d)) r q := by
  intro c
  induction c with
  | zero =>
    intro list p ht h1 hb hp
    refine ⟨list, p, Ev.step (f := fun _ => some (list, p)) (fun k => ?_) (Ev.now _), ht, h1, by omega, hp⟩
    conv => lhs; unfold spec_l1Rd_grow.l0
    rw [if_neg (by omega)]
  | succ c ih =>
    intro list p ht h1 hb hp
    rw [Nat.succ_mul] at hb ⊢
    have hcb : c ≤ c * (1 + T' d) := Nat.le_mul_of_pos_right _ (by omega)
    have ew : wrap64 (((c + 1 : Nat) : Int) - 1) = (c : Int) := by rw [w64] <;> omega
    have el : wrap64 ((list.length : Int) - 1) = ((list.length - 1 : Nat) : Int) := by rw [w64] <;> omega
    have hlt : list.length - 1 < list.length := by omega
    generalize hTT : T' d = TT at *
    -- the rest
    have next : ∀ (ls : List It) (q : Int), tinies ls → 1 ≤ ls.length → ls.length ≤ list.length + (1 + TT) → St l q → ∃ r z, Ev (fun k => spec_l1Rd_grow.l0 k ls up (d : Int) (c : Int) l q) (r, z) ∧ G l (list.length + (c * (1 + TT) + (1 + TT))) r z := by
      intro ls q a1 a2 a3 a4
      obtain ⟨r, z, he, g1, g2, g3, g4⟩ := ih ls q a1 a2 (by omega) a4
      exact ⟨r, z, he, g1, g2, by omega, g4⟩
    have hj3 : ∀ (nm : ByteArray), nm.size ≤ 5 → ∀ (q : Int) (ats : List At), St l q → ats.length ≤ 3 → (∀ a ∈ ats, a.f0.size ≤ 64 ∧ a.f1.size ≤ 64) → ∃ r z, Ev (fun k => spec_l1Rd_grow.j3 k list up (d : Int) ((c + 1 : Nat) : Int) l q up nm (⟨#[]⟩ : ByteArray) ats) (r, z) ∧ G l (list.length + (c * (1 + TT) + (1 + TT))) r z := by
      intro nm hnm q ats hq ha1 ha2
      have hx : tiny (⟨up, nm, (⟨#[]⟩ : ByteArray), ats⟩ : It) := ⟨by show nm.size ≤ 64; omega, Nat.zero_le 64, by show ats.length ≤ 8; omega, ha2⟩
      have hT := tinies_app ht hx
      have hlen : (list ++ [(⟨up, nm, (⟨#[]⟩ : ByteArray), ats⟩ : It)]).length = list.length + 1 := by simp
      by_cases cd : (d : Int) > 0
      · obtain ⟨b, q2, e2, hq2⟩ := once_f h hq 2 (by omega) (by omega)
        cases b with
        | true =>
          obtain ⟨d', hd'⟩ : ∃ d', d = d' + 1 := ⟨d - 1, by omega⟩
          have hTd : TT = T d' := by rw [← hTT, hd']; rfl
          obtain ⟨r1, z1, he1, g1, g2, g3, g4⟩ := IH d' hd' (list ++ [(⟨up, nm, (⟨#[]⟩ : ByteArray), ats⟩ : It)]) (list.length : Int) q2 hT (by omega) (by rw [hlen, ← hTd]; omega) hq2
          obtain ⟨r, z, he, hg⟩ := next r1 z1 g1 g2 (by rw [hlen, ← hTd] at g3; omega) g4
          have ed : wrap64 ((d : Int) - 1) = (d' : Int) := by rw [w64] <;> omega
          refine ⟨r, z, Ev.step (f := fun k => (spec_l1Rd_grow.f k l q2 (list ++ [(⟨up, nm, (⟨#[]⟩ : ByteArray), ats⟩ : It)]) (list.length : Int) (d' : Int)).bind fun bt => (spec_l1Rd_grow.l0 k bt.1 up (d : Int) (c : Int) l bt.2)) (fun k => ?_) (Ev.bind he1 he), hg⟩
          conv => lhs; unfold spec_l1Rd_grow.j3
          rw [if_pos (by omega), Option.bind_some, if_pos cd, e2, Option.bind_some, if_pos rfl, ed, ew]
        | false =>
          obtain ⟨r, z, he, hg⟩ := next _ q2 hT (by omega) (by omega) hq2
          refine ⟨r, z, Ev.step (fun k => ?_) he, hg⟩
          conv => lhs; unfold spec_l1Rd_grow.j3
          rw [if_pos (by omega), Option.bind_some, if_pos cd, e2, Option.bind_some, if_neg (by simp), ew]
      · obtain ⟨r, z, he, hg⟩ := next _ q hT (by omega) (by omega) hq
        refine ⟨r, z, Ev.step (fun k => ?_) he, hg⟩
        conv => lhs; unfold spec_l1Rd_grow.j3
        rw [if_pos (by omega), Option.bind_some, if_neg cd, ew]
    have hj1 : ∀ (b : Bool) (q : Int), St l q → ∃ r z, Ev (fun k => spec_l1Rd_grow.j1 k list up (d : Int) ((c + 1 : Nat) : Int) b l q) (r, z) ∧ G l (list.length + (c * (1 + TT) + (1 + TT))) r z := by
      intro b q hq
      cases b with
      | true =>
        obtain ⟨s, q2, e2, hs, hq2⟩ := text_f h hq
        by_cases cs : s.toList = ([] : List UInt8)
        · obtain ⟨r, z, he, hg⟩ := next list q2 ht h1 (by omega) hq2
          refine ⟨r, z, Ev.step (fun k => ?_) he, hg⟩
          conv => lhs; unfold spec_l1Rd_grow.j1
          rw [if_pos rfl, e2, Option.bind_some, if_pos cs, ew]
        · have hx : tiny (⟨up, (⟨#[]⟩ : ByteArray), s, ([] : List At)⟩ : It) := ⟨Nat.zero_le 64, by show s.size ≤ 64; omega, by simp, by simp⟩
          obtain ⟨r, z, he, hg⟩ := next _ q2 (tinies_app ht hx) (by simp) (by simp <;> omega) hq2
          refine ⟨r, z, Ev.step (fun k => ?_) he, hg⟩
          conv => lhs; unfold spec_l1Rd_grow.j1
          rw [if_pos rfl, e2, Option.bind_some, if_neg cs, if_pos (by omega), ew]
      | false =>
        obtain ⟨n, q2, e2, hn, hq2⟩ := name_f h hq
        obtain ⟨m, q3, e3, m0, m1, hq3⟩ := below_f h hq2 3 (by omega) (by omega)
        obtain ⟨r, z, he, hg⟩ := grow_l1 h list up (d : Int) ((c + 1 : Nat) : Int) n (list.length + (c * (1 + TT) + (1 + TT))) (hj3 n hn) m.toNat q3 [] hq3 (by simp; omega) (by simp)
        rw [show ((m.toNat : Nat) : Int) = m by omega] at he
        refine ⟨r, z, Ev.step (fun k => ?_) he, hg⟩
        conv => lhs; unfold spec_l1Rd_grow.j1
        rw [if_neg (by simp), e2, Option.bind_some, e3, Option.bind_some]
    obtain ⟨b, q, e, hq⟩ := once_f h hp 3 (by omega) (by omega)
    cases b with
    | false =>
      obtain ⟨r, z, he, hg⟩ := hj1 false q hq
      refine ⟨r, z, Ev.step (fun k => ?_) he, hg⟩
      conv => lhs; unfold spec_l1Rd_grow.l0
      rw [if_pos (by omega), el, if_pos (by omega), if_pos (by omega), e, Option.bind_some, if_neg (by simp)]
    | true =>
      by_cases cn : list[list.length - 1].f1.toList = ([] : List UInt8)
      · obtain ⟨r, z, he, hg⟩ := hj1 (!(list[list.length - 1].f0 == up)) q hq
        refine ⟨r, z, Ev.step (fun k => ?_) he, hg⟩
        conv => lhs; unfold spec_l1Rd_grow.l0
        rw [if_pos (by omega), el, if_pos (by omega), if_pos (by omega), e, Option.bind_some, if_pos rfl, rdIt list _ hlt, if_pos cn]
      · obtain ⟨r, z, he, hg⟩ := hj1 (!false) q hq
        refine ⟨r, z, Ev.step (fun k => ?_) he, hg⟩
        conv => lhs; unfold spec_l1Rd_grow.l0
        rw [if_pos (by omega), el, if_pos (by omega), if_pos (by omega), e, Option.bind_some, if_pos rfl, rdIt list _ hlt, if_neg cn]
theorem grow_ev {l : List Int} (h : Code l) : ∀ (d : Nat), d ≤ 100 → ∀ (list : List It) (u p : Int), tinies list → 1 ≤ list.length → list.length + T d ≤ 256 → St l p → ∃ r q, Ev (fun k => spec_l1Rd_grow.f k l p list u (d : Int)) (r, q) ∧ G l (list.length + T d) r q := by
  intro d
  induction d with
  | zero =>
    intro hd100 list u p ht h1 hb hp
    obtain ⟨c, q, e, c0, c1, hq⟩ := below_f h hp 4 (by omega) (by omega)
    have hT := T_eq 0
    obtain ⟨r, z, he, g1, g2, g3, g4⟩ := grow_l0 h u 0 (by omega) (fun d' hd => by omega) c.toNat list q ht h1 (by rw [hT] at hb; have : c.toNat * (1 + T' 0) ≤ 3 * (1 + T' 0) := Nat.mul_le_mul_right _ (by omega); omega) hq
    rw [show ((c.toNat : Nat) : Int) = c by omega] at he
    refine ⟨r, z, Ev.step (fun k => ?_) he, g1, g2, by rw [hT]; have : c.toNat * (1 + T' 0) ≤ 3 * (1 + T' 0) := Nat.mul_le_mul_right _ (by omega); omega, g4⟩
    conv => lhs; unfold spec_l1Rd_grow.f
    rw [e, Option.bind_some]
  | succ d ihd =>
    intro hd100 list u p ht h1 hb hp
    obtain ⟨c, q, e, c0, c1, hq⟩ := below_f h hp 4 (by omega) (by omega)
    have hT := T_eq (d + 1)
    obtain ⟨r, z, he, g1, g2, g3, g4⟩ := grow_l0 h u (d + 1) hd100 (fun d' hd => by obtain rfl : d = d' := (by omega); exact ihd (by omega)) c.toNat list q ht h1 (by rw [hT] at hb; have : c.toNat * (1 + T' (d + 1)) ≤ 3 * (1 + T' (d + 1)) := Nat.mul_le_mul_right _ (by omega); omega) hq
    rw [show ((c.toNat : Nat) : Int) = c by omega] at he
    refine ⟨r, z, Ev.step (fun k => ?_) he, g1, g2, by rw [hT]; have : c.toNat * (1 + T' (d + 1)) ≤ 3 * (1 + T' (d + 1)) := Nat.mul_le_mul_right _ (by omega); omega, g4⟩
    conv => lhs; unfold spec_l1Rd_grow.f
    rw [e, Option.bind_some]
theorem tinies_set {l : List It} {x : It} (i : Nat) (h : tinies l) (hx : tiny x) : tinies (l.set i x) := by
  intro y hy
  rcases List.mem_or_eq_of_mem_set hy with h1 | h1
  · exact h y h1
  · rw [h1]; exact hx
theorem doc_ev {l : List Int} (h : Code l) (p : Int) (hp : St l p) : ∃ r q, Ev (fun k => spec_l1Rd_doc.f k l p) (r, q) ∧ G l 64 r q := by
  obtain ⟨n, q, e1, hn, hq⟩ := name_f h hp
  obtain ⟨r, q2, he, g1, g2, g3, g4⟩ := grow_ev h 2 (by omega) [(⟨(-1), n, (⟨#[]⟩ : ByteArray), ([] : List At)⟩ : It)] 0 q (by
    intro x hx
    rw [List.mem_singleton] at hx
    subst hx
    exact ⟨by show n.size ≤ 64; omega, Nat.zero_le 64, by simp, by simp⟩) (by simp) (show 1 + 39 ≤ 256 by omega) hq
  have g3 : r.length ≤ 40 := g3
  obtain ⟨b, q3, e3, hq3⟩ := once_f h g4 24 (by omega) (by omega)
  have hd : ∀ k, spec_l1Rd_doc.f k l p = (spec_l1Rd_grow.f k l q [(⟨(-1), n, (⟨#[]⟩ : ByteArray), ([] : List At)⟩ : It)] 0 2).bind fun bt501 => ((spec_l1Rd_once.f l bt501.2 24).bind fun bt505 => (if bt505.1 = true then ((spec_l1Rd_below.f l bt505.2 (bt501.1.length : Int)).bind fun bt507 => ((spec_l1Rd_below.f l bt507.2 3).bind fun bt509 => (if bt509.1 = 0 then ((spec_l1Rd_off.f k l bt509.2 (-1) bt507.1).bind fun bt511 => (if 0 ≤ bt507.1 then (if bt507.1 < (bt501.1.length : Int) then (some ((bt501.1.set (bt507.1 : Int).toNat (⟨bt511.1, (rd_T39 bt501.1 bt507.1).f1, (rd_T39 bt501.1 bt507.1).f2, (rd_T39 bt501.1 bt507.1).f3⟩ : It)), bt511.2)) else (none)) else (none))) else (if bt509.1 = 1 then ((spec_l1Rd_text.f l bt509.2).bind fun bt514 => (if 0 ≤ bt507.1 then (if bt507.1 < (bt501.1.length : Int) then (some ((bt501.1.set (bt507.1 : Int).toNat (⟨(rd_T39 bt501.1 bt507.1).f0, (rd_T39 bt501.1 bt507.1).f1, bt514.1, (rd_T39 bt501.1 bt507.1).f3⟩ : It)), bt514.2)) else (none)) else (none))) else (if bt509.1 = 2 then ((spec_l1Rd_text.f l bt509.2).bind fun bt517 => (if 0 ≤ bt507.1 then (if bt507.1 < (bt501.1.length : Int) then (some ((bt501.1.set (bt507.1 : Int).toNat (⟨(rd_T39 bt501.1 bt507.1).f0, bt517.1, (rd_T39 bt501.1 bt507.1).f2, (rd_T39 bt501.1 bt507.1).f3⟩ : It)), bt517.2)) else (none)) else (none))) else (some (bt501.1, bt509.2))))))) else (some (bt501.1, bt505.2)))) := by
    intro k
    unfold spec_l1Rd_doc.f
    rw [e1, Option.bind_some]
  cases b with
  | false =>
    refine ⟨r, q3, Ev.congr hd (Ev.bind he ?_), g1, g2, by omega, hq3⟩
    simp only [e3, Option.bind_some, Bool.false_eq_true, if_false]
    exact Ev.now _
  | true =>
    obtain ⟨i, q4, e4, i0, i1, hq4⟩ := below_f h hq3 (r.length : Int) (by omega) (by omega)
    obtain ⟨v, q5, e5, v0, v1, hq5⟩ := below_f h hq4 3 (by omega) (by omega)
    have hlt : i.toNat < r.length := by omega
    have er : rd_T39 r i = r[i.toNat] := by
      have := rdIt r i.toNat hlt
      rwa [show ((i.toNat : Nat) : Int) = i by omega] at this
    obtain ⟨t1, t2, t3, t4⟩ := g1 _ (List.getElem_mem hlt)
    by_cases c0 : v = 0
    · obtain ⟨o, q6, ho, hq6⟩ := off_f h hq5 (-1) i (by omega) (by omega) (by omega)
      refine ⟨r.set i.toNat ⟨o, r[i.toNat].f1, r[i.toNat].f2, r[i.toNat].f3⟩, q6, Ev.congr hd (Ev.bind he ?_), tinies_set _ g1 ⟨t1, t2, t3, t4⟩, by rw [List.length_set]; exact g2, by rw [List.length_set]; omega, hq6⟩
      simp only [e3, Option.bind_some, if_true, e4, e5, if_pos c0]
      refine Ev.bind ho ?_
      simp only [if_pos i0, if_pos i1, er]
      exact Ev.now _
    · obtain ⟨s, q6, es, hs, hq6⟩ := text_f h hq5
      by_cases c1 : v = 1
      · refine ⟨r.set i.toNat ⟨r[i.toNat].f0, r[i.toNat].f1, s, r[i.toNat].f3⟩, q6, Ev.congr hd (Ev.bind he ?_), tinies_set _ g1 ⟨t1, by show s.size ≤ 64; omega, t3, t4⟩, by rw [List.length_set]; exact g2, by rw [List.length_set]; omega, hq6⟩
        simp only [e3, Option.bind_some, if_true, e4, e5, if_neg c0, if_pos c1, es, if_pos i0, if_pos i1, er]
        exact Ev.now _
      · have c2 : v = 2 := by omega
        refine ⟨r.set i.toNat ⟨r[i.toNat].f0, s, r[i.toNat].f2, r[i.toNat].f3⟩, q6, Ev.congr hd (Ev.bind he ?_), tinies_set _ g1 ⟨by show s.size ≤ 64; omega, t2, t3, t4⟩, by rw [List.length_set]; exact g2, by rw [List.length_set]; omega, hq6⟩
        simp only [e3, Option.bind_some, if_true, e4, e5, if_neg c0, if_neg c1, if_pos c2, es, if_pos i0, if_pos i1, er]
        exact Ev.now _
def wide (x : It) : Prop := x.f1.size ≤ 64 ∧ x.f2.size ≤ 64 ∧ x.f3.length ≤ 16 ∧ ∀ a ∈ x.f3, a.f0.size ≤ 64 ∧ a.f1.size ≤ 64
theorem tiny_wide {x : It} (h : tiny x) : wide x := ⟨h.1, h.2.1, Nat.le_trans h.2.2.1 (by decide), h.2.2.2⟩
theorem wide_small {x : It} (h : wide x) : smallI x := by
  obtain ⟨h1, h2, h3, h4⟩ := h
  refine ⟨by omega, by omega, by omega, fun a ha => ?_⟩
  obtain ⟨h5, h6⟩ := h4 a ha
  exact ⟨by omega, by omega⟩
def Qs (i : Nat) (l : List It) : Prop := ∀ j (h : j < l.length), wide l[j] ∧ (i ≤ j → tiny l[j])
theorem Qs.next {i : Nat} {l : List It} (h : Qs i l) : Qs (i + 1) l := fun j hj => ⟨(h j hj).1, fun hi => (h j hj).2 (by omega)⟩
theorem Qs.set {i : Nat} {l : List It} {x : It} (h : Qs i l) (hx : wide x) : Qs (i + 1) (l.set i x) := by
  intro j hj
  rw [List.length_set] at hj
  by_cases c : i = j
  · subst c
    rw [List.getElem_set_self]
    exact ⟨hx, fun h => by omega⟩
  · rw [List.getElem_set_ne c]
    exact ⟨(h j hj).1, fun hi => (h j hj).2 (by omega)⟩
theorem Qs.put {i : Nat} {l : List It} {x : It} (h : Qs i l) (hx : tiny x) : Qs i (l.set i x) := by
  intro j hj
  rw [List.length_set] at hj
  by_cases c : i = j
  · subst c
    rw [List.getElem_set_self]
    exact ⟨tiny_wide hx, fun _ => hx⟩
  · rw [List.getElem_set_ne c]
    exact h j hj
def PP (l : List Int) (m : Nat) (g : Nat → Option (List It × Int)) : Prop := ∃ r q, Ev g (r, q) ∧ r.length = m ∧ (∀ x ∈ r, wide x) ∧ St l q
theorem PP.step {l : List Int} {m : Nat} {f g : Nat → Option (List It × Int)} (h : PP l m f) (e : ∀ k, g (k + 1) = f k) : PP l m g := by
  obtain ⟨r, q, h1, h2⟩ := h
  exact ⟨r, q, Ev.step e h1, h2⟩
section
variable {l : List Int} (h : Code l) (m : Nat) (i : Nat) (hi : i < m)
include h hi
theorem spaces_j3 (hnext : ∀ (x : List It) (p : Int), x.length = m → Qs (i + 1) x → St l p → PP l m (fun k => spec_l1Rd_spaces.l0 k x (wrap64 ((i : Int) + 1)) l p)) (x : List It) (hx : x.length = m) (hq : Qs i x) (b : Bool) (p : Int) (hp : St l p) :
    PP l m (fun k => spec_l1Rd_spaces.j3 k x (i : Int) b l p) := by
  have hlt : i < x.length := by omega
  cases b with
  | false =>
    refine (hnext x p hx hq.next hp).step (fun k => ?_)
    conv => lhs; unfold spec_l1Rd_spaces.j3
    rw [if_neg (by decide)]
  | true =>
    obtain ⟨v1, p1, e1, a1, b1, hp1⟩ := below_f h hp 3 (by omega) (by omega)
    obtain ⟨v2, p2, e2, a2, b2, hp2⟩ := below_f h hp1 3 (by omega) (by omega)
    obtain ⟨v3, p3, e3, a3, b3, hp3⟩ := below_f h hp2 4 (by omega) (by omega)
    obtain ⟨c, p4, e4, hp4⟩ := once_f h hp3 4 (by omega) (by omega)
    have ht := (hq i hlt).2 (Nat.le_refl _)
    have s1 : (rdOf ByteArray.empty [(⟨#[117, 49]⟩ : ByteArray), (⟨#[117, 50]⟩ : ByteArray), (⟨#[]⟩ : ByteArray)] v1).size ≤ 64 := rdOf_size _ _ _ (by simp; decide)
    have s2 : (rdOf ByteArray.empty [(⟨#[117, 49]⟩ : ByteArray), (⟨#[]⟩ : ByteArray), (⟨#[117, 51]⟩ : ByteArray)] v2).size ≤ 64 := rdOf_size _ _ _ (by simp; decide)
    generalize hm1 : rdOf ByteArray.empty [(⟨#[117, 49]⟩ : ByteArray), (⟨#[117, 50]⟩ : ByteArray), (⟨#[]⟩ : ByteArray)] v1 = t1 at s1
    generalize hm2 : rdOf ByteArray.empty [(⟨#[117, 49]⟩ : ByteArray), (⟨#[]⟩ : ByteArray), (⟨#[117, 51]⟩ : ByteArray)] v2 = t2 at s2
    obtain ⟨M, hM⟩ : ∃ M : List At, M = [(⟨(⟨#[120, 109, 108, 110, 115, 58, 112]⟩ : ByteArray), t1⟩ : At), (⟨(⟨#[120, 109, 108, 110, 115]⟩ : ByteArray), t2⟩ : At), (⟨(⟨#[120, 109, 108, 110, 115, 58, 113]⟩ : ByteArray), (⟨#[117, 49]⟩ : ByteArray)⟩ : At)] := ⟨_, rfl⟩
    have hMl : M.length = 3 := by rw [hM]; rfl
    have hMs : ∀ a ∈ M, a.f0.size ≤ 64 ∧ a.f1.size ≤ 64 := by
      rw [hM]
      intro a ha
      simp only [List.mem_cons, List.not_mem_nil, or_false] at ha
      rcases ha with rfl | rfl | rfl
      · exact ⟨(show (7 : Nat) ≤ 64 by decide), s1⟩
      · exact ⟨(show (5 : Nat) ≤ 64 by decide), s2⟩
      · exact ⟨(show (7 : Nat) ≤ 64 by decide), (show (2 : Nat) ≤ 64 by decide)⟩
    have er : rd_T39 x (i : Int) = x[i] := rdIt x i hlt
    have hT3 := ht.2.2.1
    have htk : (M.take v3.toNat).length ≤ 3 := by rw [List.length_take]; omega
    have hy : wide (⟨x[i].f0, x[i].f1, x[i].f2, ([] ++ M.take v3.toNat) ++ x[i].f3⟩ : It) := by
      refine ⟨ht.1, ht.2.1, ?_, fun a ha => ?_⟩
      · show (([] ++ M.take v3.toNat) ++ x[i].f3).length ≤ 16
        rw [List.nil_append, List.length_append]
        omega
      · rcases List.mem_append.1 (show a ∈ ([] ++ M.take v3.toNat) ++ x[i].f3 from ha) with h1 | h1
        · rw [List.nil_append] at h1
          exact hMs a (List.mem_of_mem_take h1)
        · exact ht.2.2.2 a h1
    have hf : ∀ k, spec_l1Rd_spaces.j3 (k + 1) x (i : Int) true l p = if c = true then spec_l1Rd_spaces.l0 k ((x.set i (⟨x[i].f0, x[i].f1, x[i].f2, ([] ++ M.take v3.toNat) ++ x[i].f3⟩ : It)).set i (⟨x[i].f0, x[i].f1, x[i].f2, (([] ++ M.take v3.toNat) ++ x[i].f3) ++ [(⟨(⟨#[113, 58, 122]⟩ : ByteArray), (⟨#[49]⟩ : ByteArray)⟩ : At), (⟨(⟨#[112, 58, 122]⟩ : ByteArray), (⟨#[50]⟩ : ByteArray)⟩ : At)]⟩ : It)) (wrap64 ((i : Int) + 1)) l p4 else spec_l1Rd_spaces.l0 k (x.set i (⟨x[i].f0, x[i].f1, x[i].f2, ([] ++ M.take v3.toNat) ++ x[i].f3⟩ : It)) (wrap64 ((i : Int) + 1)) l p4 := by
      intro k
      have er2 : rd_T39 (x.set i (⟨x[i].f0, x[i].f1, x[i].f2, ([] ++ M.take v3.toNat) ++ x[i].f3⟩ : It)) (i : Int) = (⟨x[i].f0, x[i].f1, x[i].f2, ([] ++ M.take v3.toNat) ++ x[i].f3⟩ : It) := by
        rw [rdIt _ i (by rw [List.length_set]; exact hlt), List.getElem_set_self]
      conv => lhs; unfold spec_l1Rd_spaces.j3
      rw [if_pos rfl, Option.bind_some, e1, Option.bind_some, if_pos a1, if_pos (by simpa using b1), Option.bind_some, e2, Option.bind_some, if_pos a2, if_pos (by simpa using b2), Option.bind_some]
      simp only [hm1, hm2]
      rw [← hM, e3, Option.bind_some, Option.bind_some, if_pos a3, if_pos (by rw [hMl]; omega), Option.bind_some, if_pos (show ([] : List At).length + (M.take v3.toNat).length < 4398046511104 by rw [List.length_nil]; omega), Option.bind_some, if_pos (by omega), if_pos (by omega), er, if_pos (show (([] : List At) ++ M.take v3.toNat).length + x[i].f3.length < 4398046511104 by rw [List.nil_append]; omega), Option.bind_some, e4, Option.bind_some, Int.toNat_natCast]
      cases c with
      | false => rfl
      | true =>
        simp only [if_true, Option.bind_some, er2]
        rw [if_pos (show ((([] : List At) ++ M.take v3.toNat) ++ x[i].f3).length + [(⟨(⟨#[113, 58, 122]⟩ : ByteArray), (⟨#[49]⟩ : ByteArray)⟩ : At), (⟨(⟨#[112, 58, 122]⟩ : ByteArray), (⟨#[50]⟩ : ByteArray)⟩ : At)].length < 4398046511104 by rw [List.nil_append, List.length_append, List.length_cons, List.length_cons, List.length_nil]; omega)]
    cases c with
    | false =>
      refine (hnext (x.set i (⟨x[i].f0, x[i].f1, x[i].f2, ([] ++ M.take v3.toNat) ++ x[i].f3⟩ : It)) p4 (by rw [List.length_set]; exact hx) (hq.set hy) hp4).step (fun k => ?_)
      rw [hf]
      rfl
    | true =>
      have hz : wide (⟨x[i].f0, x[i].f1, x[i].f2, (([] ++ M.take v3.toNat) ++ x[i].f3) ++ [(⟨(⟨#[113, 58, 122]⟩ : ByteArray), (⟨#[49]⟩ : ByteArray)⟩ : At), (⟨(⟨#[112, 58, 122]⟩ : ByteArray), (⟨#[50]⟩ : ByteArray)⟩ : At)]⟩ : It) := by
        refine ⟨ht.1, ht.2.1, ?_, fun a ha => ?_⟩
        · show (([] ++ M.take v3.toNat) ++ x[i].f3 ++ [(⟨(⟨#[113, 58, 122]⟩ : ByteArray), (⟨#[49]⟩ : ByteArray)⟩ : At), (⟨(⟨#[112, 58, 122]⟩ : ByteArray), (⟨#[50]⟩ : ByteArray)⟩ : At)]).length ≤ 16
          rw [List.nil_append, List.length_append, List.length_append, List.length_cons, List.length_cons, List.length_nil]
          omega
        · rcases List.mem_append.1 (show a ∈ (([] ++ M.take v3.toNat) ++ x[i].f3) ++ [(⟨(⟨#[113, 58, 122]⟩ : ByteArray), (⟨#[49]⟩ : ByteArray)⟩ : At), (⟨(⟨#[112, 58, 122]⟩ : ByteArray), (⟨#[50]⟩ : ByteArray)⟩ : At)] from ha) with h1 | h1
          · exact hy.2.2.2 a h1
          · simp only [List.mem_cons, List.not_mem_nil, or_false] at h1
            rcases h1 with rfl | rfl
            · exact ⟨(show (3 : Nat) ≤ 64 by decide), (show (1 : Nat) ≤ 64 by decide)⟩
            · exact ⟨(show (3 : Nat) ≤ 64 by decide), (show (1 : Nat) ≤ 64 by decide)⟩
      refine (hnext ((x.set i (⟨x[i].f0, x[i].f1, x[i].f2, ([] ++ M.take v3.toNat) ++ x[i].f3⟩ : It)).set i (⟨x[i].f0, x[i].f1, x[i].f2, (([] ++ M.take v3.toNat) ++ x[i].f3) ++ [(⟨(⟨#[113, 58, 122]⟩ : ByteArray), (⟨#[49]⟩ : ByteArray)⟩ : At), (⟨(⟨#[112, 58, 122]⟩ : ByteArray), (⟨#[50]⟩ : ByteArray)⟩ : At)]⟩ : It)) p4 (by rw [List.length_set, List.length_set]; exact hx) (by rw [List.set_set]; exact hq.set hz) hp4).step (fun k => ?_)
      rw [hf]
      rfl
theorem spaces_j2 (hnext : ∀ (x : List It) (p : Int), x.length = m → Qs (i + 1) x → St l p → PP l m (fun k => spec_l1Rd_spaces.l0 k x (wrap64 ((i : Int) + 1)) l p)) (x : List It) (hx : x.length = m) (hq : Qs i x) (p : Int) (hp : St l p) :
    PP l m (fun k => spec_l1Rd_spaces.j2 k x (i : Int) l p) := by
  obtain ⟨c, q, e, hq2⟩ := once_f h hp 4 (by omega) (by omega)
  by_cases c0 : (i : Int) = 0
  · refine (spaces_j3 h m i hi hnext x hx hq true p hp).step (fun k => ?_)
    conv => lhs; unfold spec_l1Rd_spaces.j2
    rw [if_pos c0]
  · refine (spaces_j3 h m i hi hnext x hx hq c q hq2).step (fun k => ?_)
    conv => lhs; unfold spec_l1Rd_spaces.j2
    rw [if_neg c0, e, Option.bind_some]
theorem spaces_j1 (hnext : ∀ (x : List It) (p : Int), x.length = m → Qs (i + 1) x → St l p → PP l m (fun k => spec_l1Rd_spaces.l0 k x (wrap64 ((i : Int) + 1)) l p)) (x : List It) (hx : x.length = m) (hq : Qs i x) (b : Bool) (p : Int) (hp : St l p) :
    PP l m (fun k => spec_l1Rd_spaces.j1 k x (i : Int) b l p) := by
  have hlt : i < x.length := by omega
  cases b with
  | false =>
    refine (spaces_j2 h m i hi hnext x hx hq p hp).step (fun k => ?_)
    conv => lhs; unfold spec_l1Rd_spaces.j1
    rw [if_neg (by decide)]
  | true =>
    obtain ⟨v1, p1, e1, a1, b1, hp1⟩ := below_f h hp 4 (by omega) (by omega)
    have s1 : (rdOf ByteArray.empty [(⟨#[112, 58, 97]⟩ : ByteArray), (⟨#[113, 58, 98]⟩ : ByteArray), (⟨#[97]⟩ : ByteArray), (⟨#[120, 109, 108, 58, 99]⟩ : ByteArray)] v1).size ≤ 64 := rdOf_size _ _ _ (by simp; decide)
    have ht := (hq i hlt).2 (Nat.le_refl _)
    refine (spaces_j2 h m i hi hnext (x.set i (⟨x[i].f0, rdOf ByteArray.empty [(⟨#[112, 58, 97]⟩ : ByteArray), (⟨#[113, 58, 98]⟩ : ByteArray), (⟨#[97]⟩ : ByteArray), (⟨#[120, 109, 108, 58, 99]⟩ : ByteArray)] v1, x[i].f2, x[i].f3⟩ : It)) (by rw [List.length_set]; exact hx) (hq.put ⟨s1, ht.2.1, ht.2.2.1, ht.2.2.2⟩) p1 hp1).step (fun k => ?_)
    conv => lhs; unfold spec_l1Rd_spaces.j1
    rw [if_pos rfl, Option.bind_some, e1, Option.bind_some, if_pos a1, if_pos (by simpa using b1), if_pos (by omega), if_pos (by omega), rdIt x i hlt, Int.toNat_natCast]
end
theorem spaces_l0 {l : List Int} (h : Code l) (m : Nat) (hm : m ≤ 64) : ∀ (n i : Nat) (x : List It) (p : Int), i + n = m → x.length = m → Qs i x → St l p → PP l m (fun k => spec_l1Rd_spaces.l0 k x (i : Int) l p) := by
  intro n
  induction n with
  | zero =>
    intro i x p hi hx hq hp
    refine ⟨x, p, Ev.step (f := fun _ => some (x, p)) (fun k => ?_) (Ev.now _), hx, fun y hy => ?_, hp⟩
    · conv => lhs; unfold spec_l1Rd_spaces.l0
      rw [if_neg (by omega)]
    · obtain ⟨j, hj, rfl⟩ := List.getElem_of_mem hy
      exact (hq j hj).1
  | succ n ih =>
    intro i x p hi hx hq hp
    have hlt : i < x.length := by omega
    have hnext : ∀ (x : List It) (p : Int), x.length = m → Qs (i + 1) x → St l p → PP l m (fun k => spec_l1Rd_spaces.l0 k x (wrap64 ((i : Int) + 1)) l p) := by
      intro x p hx hq hp
      rw [show wrap64 ((i : Int) + 1) = ((i + 1 : Nat) : Int) by rw [w64] <;> omega]
      exact ih (i + 1) x p (by omega) hx hq hp
    obtain ⟨c, q, e, hq2⟩ := once_f h hp 3 (by omega) (by omega)
    by_cases c1 : x[i].f1.toList = ([] : List UInt8)
    · refine (hnext x p hx hq.next hp).step (fun k => ?_)
      conv => lhs; unfold spec_l1Rd_spaces.l0
      rw [if_pos (by omega), if_pos (by omega), rdIt x i hlt, if_pos c1]
    · cases c with
      | false =>
        refine (spaces_j1 h m i (by omega) hnext x hx hq false q hq2).step (fun k => ?_)
        conv => lhs; unfold spec_l1Rd_spaces.l0
        rw [if_pos (by omega), if_pos (by omega), rdIt x i hlt, if_neg c1, e, Option.bind_some, if_neg (show ¬ (false = true) by decide)]
      | true =>
        have hsz := (hq i hlt).1.1
        have hqv := spec_qual x[i].f1 (by rw [← sz]; omega)
        obtain ⟨r, q3, h1, h2⟩ := spaces_j1 h m i (by omega) hnext x hx hq (qualV x[i].f1) q hq2
        refine ⟨r, q3, Ev.step (f := fun k => (spec_l1Qual.f k x[i].f1).bind fun t => spec_l1Rd_spaces.j1 k x (i : Int) t l q) (fun k => ?_) (Ev.bind hqv h1), h2⟩
        conv => lhs; unfold spec_l1Rd_spaces.l0
        rw [if_pos (by omega), if_pos (by omega), rdIt x i hlt, if_neg c1, e, Option.bind_some, if_pos rfl]
theorem spaces_ev {l : List Int} (h : Code l) (p : Int) (hp : St l p) : ∃ r q, Ev (fun k => spec_l1Rd_spaces.f k l p) (r, q) ∧ 1 ≤ r.length ∧ r.length ≤ 64 ∧ (∀ x ∈ r, wide x) ∧ St l q := by
  obtain ⟨r, q, hd, ht, g1, g2, g3⟩ := doc_ev h p hp
  have g2 : r.length ≤ 64 := g2
  obtain ⟨r2, q2, h1, h2, h3, h4⟩ := spaces_l0 h r.length g2 r.length 0 r q (by omega) rfl (fun j hj => ⟨tiny_wide (ht _ (List.getElem_mem hj)), fun _ => ht _ (List.getElem_mem hj)⟩) g3
  exact ⟨r2, q2, Ev.bind hd h1, by omega, by omega, h3, h4⟩
end Go.Proofs.YtpmjpbaeecnpiaaDoor.Pure

namespace Go.Proofs.YtpmjpbaeecnpiaaDoor.Pure
open Go.RowKit Go.Proofs.YtpmjpbaeecnpiaaDoor.L Go.Proofs.YtpmjpbaeecnpiaaDoorW.PrintWords Go.Proofs.YtpmjpbaeecnpiaaDoorW.PrintLast Go.Proofs.YtpmjpbaeecnpiaaDoorW.PrintMore
open DT
set_option linter.unusedVariables false
set_option linter.unusedSimpArgs false

def wides (r : List It) : Prop := ∀ x ∈ r, wide x
/-- What stands at an item, if it has a name. -/
def nameAt (r : List It) (t : Nat) (x : It) (q : Qn) : Prop :=
  (x.f1.toList = ([] : List UInt8) ∧ q = ⟨⟨#[]⟩, ⟨#[]⟩⟩) ∨
  (x.f1.toList ≠ ([] : List UInt8) ∧ ∃ B A, Ev (fun k => impl_bound.f k r (t : Int) (splitV x.f1).1) B ∧ B.2 = true ∧ q = ⟨B.1, (splitV x.f1).2.1⟩ ∧ Ev (fun k => impl_attrNames.f k r (t : Int)) A ∧ A.2 = true ∧ goodN x.f3.length A)
section
variable (r : List It) (V : Val (upV r) (elV r) r.length) (hw : wides r)
include V hw
theorem bound_at (t : Nat) (ht : t < r.length) (p : ByteArray) (hp : p.size ≤ 64) : ∃ R, Ev (fun k => impl_bound.f k r (t : Int) p) R ∧ Ev (fun k => spec_l3Bound.f k r (t : Int) p) R := by
  by_cases cx : p.toList = ([120, 109, 108] : List UInt8)
  · exact ⟨xmlB, bound_xml r t p cx⟩
  · obtain ⟨R, hB, _⟩ := bnd_at r V (fun x hx => wide_small (hw x hx)) p (nmB p) t ht
    exact ⟨R, bound_any r t p hp cx hB⟩
theorem attrs_at (t : Nat) (ht : t < r.length) : ∃ R, Ev (fun k => impl_attrNames.f k r (t : Int)) R ∧ Ev (fun k => spec_l3Attrs.f k r (t : Int)) R ∧ goodN r[t].f3.length R := by
  obtain ⟨w1, w2, w3, w4⟩ := hw _ (List.getElem_mem ht)
  obtain ⟨R, r1, r2, r3⟩ := names_l0 r t ht (fun a ha => (w4 a ha).1) (by omega) (fun p hp => bound_at r V hw t ht p hp) r[t].f3.length 0 [] (by omega) (by simp) List.Pairwise.nil
  refine ⟨R, Ev.congr (fun k => ?_) r1, r2, r3⟩
  unfold impl_attrNames.f
  rw [if_pos (by omega), if_pos (by omega), rdIt r t ht]
  rfl
theorem of_l0 (hl : r.length ≤ 200) : ∀ (n i : Nat) (out : List Qn), i + n = r.length → out.length = i → (∀ j (h : j < out.length) (h' : j < r.length), nameAt r j r[j] out[j]) →
    ∃ R, Ev (fun k => impl_NamesOf.l0 k r out r (r.length : Int) (i : Int)) R ∧ Ev (fun k => spec_NamesOf.l0 k r out (i : Int)) R ∧ (R.2 = true → R.1.length = r.length ∧ ∀ j (h : j < R.1.length) (h' : j < r.length), nameAt r j r[j] R.1[j]) := by
  intro n
  induction n with
  | zero =>
    intro i out hi ho hf
    refine ⟨(out, true), Ev.step (f := fun _ => some (out, true)) (fun k => ?_) (Ev.now _), Ev.step (f := fun _ => some (out, true)) (fun k => ?_) (Ev.now _), fun _ => ⟨show out.length = r.length by omega, hf⟩⟩
    · conv => lhs; unfold impl_NamesOf.l0
      rw [if_neg (by omega)]
    · conv => lhs; unfold spec_NamesOf.l0
      rw [if_neg (by omega)]
  | succ n ih =>
    intro i out hi ho hf
    have hlt : i < r.length := by omega
    have hwr : wrap64 ((i : Int) + 1) = ((i + 1 : Nat) : Int) := w1n hlt (by omega)
    have hnext : ∀ q : Qn, nameAt r i r[i] q → ∃ R, Ev (fun k => impl_NamesOf.l0 k r (out ++ [q]) r (r.length : Int) ((i + 1 : Nat) : Int)) R ∧ Ev (fun k => spec_NamesOf.l0 k r (out ++ [q]) ((i + 1 : Nat) : Int)) R ∧ (R.2 = true → R.1.length = r.length ∧ ∀ j (h : j < R.1.length) (h' : j < r.length), nameAt r j r[j] R.1[j]) := by
      intro q hq
      refine ih (i + 1) (out ++ [q]) (by omega) (by rw [List.length_append, List.length_singleton]; omega) (fun j h h' => ?_)
      rw [List.length_append, List.length_singleton] at h
      by_cases c : j < out.length
      · rw [List.getElem_append_left c]
        exact hf j c h'
      · have e : j = i := by omega
        subst e
        rw [List.getElem_append_right (by omega)]
        simp only [ho, Nat.sub_self, List.getElem_cons_zero]
        exact hq
    by_cases c : r[i].f1.toList = ([] : List UInt8)
    · obtain ⟨R, r1, r2, r3⟩ := hnext ⟨⟨#[]⟩, ⟨#[]⟩⟩ (.inl ⟨c, rfl⟩)
      refine ⟨R, Ev.step (fun k => ?_) r1, Ev.step (fun k => ?_) r2, r3⟩
      · conv => lhs; unfold impl_NamesOf.l0
        rw [if_pos (by omega), if_pos (by omega), if_pos (by omega), rdIt r i hlt, if_pos c, if_pos (by omega), hwr]
      · conv => lhs; unfold spec_NamesOf.l0
        rw [if_pos (by omega), if_pos (by omega), rdIt r i hlt, if_pos c, if_pos (by omega), hwr]
    · obtain ⟨s, hs⟩ : ∃ s, r[i].f1 = s := ⟨_, rfl⟩
      have hsz : s.size ≤ 64 := by rw [← hs]; exact (hw _ (List.getElem_mem hlt)).1
      have hsl : s.data.toList.length ≤ 9223372036854775806 := by rw [← sz]; omega
      have hsi := impl_split s hsl
      have hss := spec_split s hsl
      have hps := split_size s
      obtain ⟨B, b1, b2⟩ := bound_at r V hw i hlt (splitV s).1 (by omega)
      obtain ⟨A, a1, a2, a3⟩ := attrs_at r V hw i hlt
      have hI : ∀ R, Ev (fun k => (if B.2 = true then (if A.2 = true then (if out.length < 4398046511104 then (impl_NamesOf.l0 k r (out ++ [(⟨B.1, (splitV s).2.1⟩ : Qn)]) r (r.length : Int) ((i + 1 : Nat) : Int)) else (none)) else (some (([] : List Qn), false))) else (some (([] : List Qn), false)))) R → Ev (fun k => impl_NamesOf.l0 k r out r (r.length : Int) (i : Int)) R := by
        intro R h
        refine Ev.step (f := fun k => (impl_Split.f k s).bind fun bt692 => ((impl_bound.f k r (i : Int) bt692.1).bind fun bt695 => ((impl_attrNames.f k r (i : Int)).bind fun bt697 => (if bt695.2 = true then (if bt697.2 = true then (if out.length < 4398046511104 then (impl_NamesOf.l0 k r (out ++ [(⟨bt695.1, bt692.2.1⟩ : Qn)]) r (r.length : Int) ((i + 1 : Nat) : Int)) else (none)) else (some (([] : List Qn), false))) else (some (([] : List Qn), false)))))) (fun k => ?_) (Ev.bind hsi (Ev.bind b1 (Ev.bind a1 h)))
        conv => lhs; unfold impl_NamesOf.l0
        rw [if_pos (by omega), if_pos (by omega), if_pos (by omega), rdIt r i hlt, if_neg c, hs, hwr]
      have hS : ∀ R, Ev (fun k => (if B.2 = true then (if A.2 = true then (if out.length < 4398046511104 then (spec_NamesOf.l0 k r (out ++ [(⟨B.1, (splitV s).2.1⟩ : Qn)]) ((i + 1 : Nat) : Int)) else (none)) else (some (([] : List Qn), false))) else (some (([] : List Qn), false)))) R → Ev (fun k => spec_NamesOf.l0 k r out (i : Int)) R := by
        intro R h
        refine Ev.step (f := fun k => (spec_Split.f k s).bind fun bt735 => ((spec_l3Bound.f k r (i : Int) bt735.1).bind fun bt738 => ((spec_l3Attrs.f k r (i : Int)).bind fun bt740 => (if bt738.2 = true then (if bt740.2 = true then (if out.length < 4398046511104 then (spec_NamesOf.l0 k r (out ++ [(⟨bt738.1, bt735.2.1⟩ : Qn)]) ((i + 1 : Nat) : Int)) else (none)) else (some (([] : List Qn), false))) else (some (([] : List Qn), false)))))) (fun k => ?_) (Ev.bind hss (Ev.bind b2 (Ev.bind a2 h)))
        conv => lhs; unfold spec_NamesOf.l0
        rw [if_pos (by omega), if_pos (by omega), rdIt r i hlt, if_neg c, hs, hwr]
      cases hb : B.2 with
      | false =>
        refine ⟨(([] : List Qn), false), hI _ ?_, hS _ ?_, fun h => by cases h⟩
        · simp only [hb, Bool.false_eq_true, if_false]
          exact Ev.now _
        · simp only [hb, Bool.false_eq_true, if_false]
          exact Ev.now _
      | true =>
        cases hA : A.2 with
        | false =>
          refine ⟨(([] : List Qn), false), hI _ ?_, hS _ ?_, fun h => by cases h⟩
          · simp only [hb, hA, if_true, Bool.false_eq_true, if_false]
            exact Ev.now _
          · simp only [hb, hA, if_true, Bool.false_eq_true, if_false]
            exact Ev.now _
        | true =>
          obtain ⟨R, r1, r2, r3⟩ := hnext ⟨B.1, (splitV s).2.1⟩ (.inr ⟨c, B, A, by rw [hs]; exact b1, hb, by rw [hs], a1, hA, a3⟩)
          refine ⟨R, hI _ ?_, hS _ ?_, r3⟩
          · simp only [hb, hA, if_true, if_pos (show out.length < 4398046511104 by omega)]
            exact r1
          · simp only [hb, hA, if_true, if_pos (show out.length < 4398046511104 by omega)]
            exact r2
end
/-- The law's look at one item's attributes. -/
theorem nl1 (r : List It) (x : List Qn) (i : Nat) (L : List Qn) (hL : L.length ≤ 200) (ha : apartQ L) (hn : Ev (fun k => laws_FnNames.l0 k r x (wrap64 ((i : Int) + 1))) true) : ∀ (n a : Nat), a + n = L.length → Ev (fun k => laws_FnNames.l1 k r x (i : Int) L (a : Int)) true := by
  intro n
  induction n with
  | zero =>
    intro a h
    refine Ev.step (fun k => ?_) hn
    conv => lhs; unfold laws_FnNames.l1
    rw [if_neg (by omega)]
  | succ n ih =>
    intro a h
    have hlt : a < L.length := by omega
    have hwa : wrap64 ((a : Int) + 1) = ((a + 1 : Nat) : Int) := w1n hlt (by omega)
    have h2 : ∀ (m b : Nat), b + m = a → Ev (fun k => laws_FnNames.l2 k r x (i : Int) L (a : Int) (b : Int)) true := by
      intro m
      induction m with
      | zero =>
        intro b hb
        refine Ev.step (fun k => ?_) (ih (a + 1) (by omega))
        conv => lhs; unfold laws_FnNames.l2
        rw [if_neg (by omega), hwa]
      | succ m ih2 =>
        intro b hb
        have hbl : b < L.length := by omega
        have hne : ¬ ((L[a].f0.toList == L[b].f0.toList) && (L[a].f1.toList == L[b].f1.toList)) = true := by
          have := (List.pairwise_iff_getElem.1 ha) b a hbl hlt (by omega)
          unfold sameQ at this
          rw [this]
          decide
        refine Ev.step (fun k => ?_) (ih2 (b + 1) (by omega))
        conv => lhs; unfold laws_FnNames.l2
        rw [if_pos (by omega), if_pos (by omega), if_pos (by omega), if_pos (by omega), if_pos (by omega), rdQ L a hlt, rdQ L b hbl, if_neg hne, w1n hbl (by omega)]
    refine Ev.step (fun k => ?_) (h2 a 0 (by omega))
    conv => lhs; unfold laws_FnNames.l1
    rw [if_pos (by omega)]
    rfl
theorem nl0 (r : List It) (hd : docV r = true) (hsm : smallD r) (hw : wides r) (x : List Qn) (hx : x.length = r.length) (hf : ∀ j (h : j < x.length) (h' : j < r.length), nameAt r j r[j] x[j]) : ∀ (n i : Nat), i + n = r.length → Ev (fun k => laws_FnNames.l0 k r x (i : Int)) true := by
  obtain ⟨_, hl, V⟩ := doc_val hd
  intro n
  induction n with
  | zero =>
    intro i hi
    refine Ev.step (f := fun _ => some true) (fun k => ?_) (Ev.now _)
    conv => lhs; unfold laws_FnNames.l0
    rw [if_neg (by omega)]
  | succ n ih =>
    intro i hi
    have hlt : i < r.length := by omega
    have hlx : i < x.length := by omega
    have hwr : wrap64 ((i : Int) + 1) = ((i + 1 : Nat) : Int) := w1n hlt (by omega)
    have hi2 := ih (i + 1) (by omega)
    rcases hf i hlx hlt with ⟨c, e⟩ | ⟨c, B, A, b1, b2, e, a1, a2, a3⟩
    · refine Ev.step (fun k => ?_) hi2
      conv => lhs; unfold laws_FnNames.l0
      rw [if_pos (by omega), if_pos (by omega), rdIt r i hlt, if_pos c, if_pos (by omega), rdQ x i hlx, e, hwr]
      rw [if_neg (by
        have e_ : (⟨#[]⟩ : ByteArray).toList = ([] : List UInt8) := Lib.toList_data _
        simp only [e_]
        decide)]
    · have hhas : hasV r (i : Int) = true := decide_eq_true ⟨hd, by omega, by omega⟩
      have hh := impl_has_ev r (i : Int) hsm (by omega)
      rw [hhas] at hh
      have hB : Ev (fun k => impl_BoundAt.f k r (i : Int) (splitV r[i].f1).1) (B.1, B.2) := by
        refine Ev.congr (f := fun k => (impl_has.f k r (i : Int)).bind fun t659 => (if t659 = true then ((impl_bound.f k r (i : Int) (splitV r[i].f1).1).bind fun bt660 => (some (bt660.1, bt660.2))) else (some ((⟨#[]⟩ : ByteArray), false)))) (fun k => rfl) (Ev.bind hh ?_)
        simp only [if_true]
        exact Ev.bind b1 (Ev.now _)
      have hA : Ev (fun k => impl_AttrNames.f k r (i : Int)) (A.1, A.2) := by
        refine Ev.congr (f := fun k => (impl_has.f k r (i : Int)).bind fun t747 => (if t747 = true then ((impl_attrNames.f k r (i : Int)).bind fun bt748 => (some (bt748.1, bt748.2))) else (some (([] : List Qn), false)))) (fun k => rfl) (Ev.bind hh ?_)
        simp only [if_true]
        exact Ev.bind a1 (Ev.now _)
      have hsl : r[i].f1.data.toList.length ≤ 9223372036854775806 := by
        have := (hw _ (List.getElem_mem hlt)).1
        rw [← sz]; omega
      have h16 := (hw _ (List.getElem_mem hlt)).2.2.1
      have hlen : A.1.length ≤ r[i].f3.length := a3.1
      refine Ev.step (f := fun k => (impl_Split.f k r[i].f1).bind fun bt767 => ((impl_BoundAt.f k r (i : Int) bt767.1).bind fun bt770 => ((impl_AttrNames.f k r (i : Int)).bind fun bt772 => (if bt770.2 = true then (if x[i].f0.toList = bt770.1.toList then (if x[i].f1.toList = bt767.2.1.toList then (if bt772.2 = true then (laws_FnNames.j2 k r x (i : Int) bt772.1 (decide ((bt772.1.length : Int) > (r[i].f3.length : Int)))) else (laws_FnNames.j2 k r x (i : Int) bt772.1 true)) else (laws_FnNames.j2 k r x (i : Int) bt772.1 true)) else (laws_FnNames.j2 k r x (i : Int) bt772.1 true)) else (laws_FnNames.j2 k r x (i : Int) bt772.1 true))))) (fun k => ?_) (Ev.bind (impl_split _ hsl) (Ev.bind hB (Ev.bind hA ?_)))
      · have hxi : ((i : Int) < (x.length : Int)) := by omega
        conv => lhs; unfold laws_FnNames.l0
        rw [if_pos (by omega), if_pos (by omega), rdIt r i hlt, if_neg c]
        simp only [if_pos hxi, rdQ x i hlx]
      · have hgt : decide ((A.1.length : Int) > (r[i].f3.length : Int)) = false := decide_eq_false (by omega)
        simp only [b2, a2, e, if_true, hgt]
        refine Ev.step (fun k => ?_) (nl1 r x i A.1 (by omega) a3.2 (by rw [hwr]; exact hi2) A.1.length 0 (by omega))
        conv => lhs; unfold laws_FnNames.j2
        rw [if_neg (by decide)]
        rfl
theorem FnNames : laws_FnNames.Pure := by
  intro code h1 h2 h3
  have hC := code_of h2 h3
  by_cases hbig : (code.length : Int) > 1048576
  · refine ⟨0, ?_⟩
    unfold laws_FnNames.f laws_big.f
    rw [Option.bind_some, if_pos (decide_eq_true hbig)]
  obtain ⟨r, q, hd, g0, g1, ht, g3⟩ := spaces_ev hC 0 ⟨by omega, by omega⟩
  have hsm : smallD r := fun x hx => wide_small (ht x hx)
  have hdraw : Ev (fun k => spec_DrawNamesOf.f k code) r := Ev.congr (f := fun k => (spec_l1Rd_spaces.f k code 0).bind fun bt650 => (some bt650.1)) (fun k => rfl) (Ev.bind hd (Ev.now _))
  obtain ⟨R, hi, hs, hloop⟩ : ∃ R, Ev (fun k => impl_NamesOf.f k r) R ∧ Ev (fun k => spec_NamesOf.f k r) R ∧ (R.2 = true → Ev (fun k => laws_FnNames.l0 k r R.1 0) true) := by
    cases hdv : docV r with
    | false =>
      refine ⟨(([] : List Qn), false), Ev.bind (impl_doc r hsm (by omega)) ?_, Ev.bind (spec_doc r hsm (by omega)) ?_, fun h => by cases h⟩
      · rw [hdv]
        simp only [Bool.false_eq_true, if_false]
        exact Ev.now _
      · rw [hdv]
        simp only [Bool.false_eq_true, if_false]
        exact Ev.now _
    | true =>
      obtain ⟨_, hl, V⟩ := doc_val hdv
      obtain ⟨R, r1, r2, r3⟩ := of_l0 r V ht hl r.length 0 [] (by omega) rfl (fun j h => by simp at h)
      refine ⟨R, Ev.bind (impl_doc r hsm (by omega)) ?_, Ev.bind (spec_doc r hsm (by omega)) ?_, fun h => ?_⟩
      · rw [hdv]
        simp only [if_true]
        exact r1
      · rw [hdv]
        simp only [if_true]
        exact r2
      · obtain ⟨h4, h5⟩ := r3 h
        exact nl0 r hdv hsm ht R.1 h4 h5 r.length 0 (by omega)
  have : Ev (fun k => laws_FnNames.f k code) true := by
    unfold laws_FnNames.f laws_big.f
    simp only [Option.bind_some]
    have hb : decide ((code.length : Int) > 1048576) = false := decide_eq_false hbig
    rw [hb]
    simp only [Bool.false_eq_true, if_false]
    refine Ev.bind hdraw (Ev.bind hi (Ev.bind hs ?_))
    simp only [bne_self_eq_false, Bool.false_eq_true, if_false, if_true]
    cases hR : R.2 with
    | false =>
      refine Ev.step (f := fun _ => some true) (fun k => ?_) (Ev.now _)
      show (if true = true then (if (false == false) = true then (some ((R.1.length : Int) == (R.1.length : Int))) else (some false)) else (laws_FnNames.l0 k r R.1 0)) = some true
      rw [if_pos rfl, if_pos (show (false == false) = true from rfl), beq_self_eq_true]
    | true =>
      refine Ev.step (fun k => ?_) (hloop hR)
      show (if false = true then (if (true == true) = true then (some ((R.1.length : Int) == (R.1.length : Int))) else (some false)) else (laws_FnNames.l0 k r R.1 0)) = _
      rw [if_neg (by decide)]
  exact this.rounds
end Go.Proofs.YtpmjpbaeecnpiaaDoor.Pure
