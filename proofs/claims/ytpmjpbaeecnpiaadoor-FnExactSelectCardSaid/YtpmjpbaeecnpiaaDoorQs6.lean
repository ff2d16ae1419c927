/- Words and contracts for the row RowFnExactSelect: what the Go functions answer that it calls; printed by programs of the kit and of this session, and merged. -/
import Derived.Test.YtpmjpbaeecnpiaaDoorQs5
namespace Go.Proofs.YtpmjpbaeecnpiaaDoor.Pure
open Go.RowKit Go.Proofs.YtpmjpbaeecnpiaaDoor.L Go.Proofs.YtpmjpbaeecnpiaaDoor.O Go.Proofs.YtpmjpbaeecnpiaaDoorW.PrintWords Go.Proofs.YtpmjpbaeecnpiaaDoorW.PrintLast Go.Proofs.YtpmjpbaeecnpiaaDoorW.PrintMore
set_option linter.unusedVariables false
set_option linter.unusedSimpArgs false

abbrev LIt : Type := S63
abbrev LAt : Type := S113
theorem rdLI (l : List LIt) (i : Nat) (h : i < l.length) : rd_T63 l (i : Int) = l[i] := by
  unfold rd_T63
  simp [h]
theorem rdLA (l : List LAt) (i : Nat) (h : i < l.length) : rd_T113 l (i : Int) = l[i] := by
  unfold rd_T113
  simp [h]
theorem wsub {c : Int} {m : Nat} (h0 : 0 ≤ c) (h1 : c ≤ 1048576) (hm : m ≤ 9223372036854775807) : wrap64 (c - (m : Int)) = c - m := by rw [w64] <;> omega
theorem mxLen : maxLen = 9223372036854775807 := by decide
def convA (x : LAt) : At := ⟨x.f0, x.f1⟩
def convI (x : LIt) : It := ⟨x.f0, x.f1, x.f2, x.f3.map convA⟩
/-! #### sizes -/
theorem szAttr (x : LAt) (ok : okAttr x) (c : Int) (h0 : 0 ≤ c) (h1 : c ≤ 1048576) :
    ∃ v, laws_szAttr.f x.f0 x.f1 c = some v ∧ (v < 0 ∨ (0 ≤ v ∧ v ≤ c ∧ smallA (convA x))) := by
  unfold okAttr at ok
  rw [mxLen] at ok
  have hw := wsub h0 h1 ok.1
  unfold laws_szAttr.f
  rw [hw]
  by_cases c0 : c - (x.f0.size : Int) < 0
  · exact ⟨-1, by rw [if_pos c0], .inl (by decide)⟩
  · have hw2 := wsub (c := c - (x.f0.size : Int)) (by omega) (by omega) ok.2
    rw [if_neg c0, hw2]
    by_cases c1 : c - (x.f0.size : Int) - (x.f1.size : Int) < 0
    · exact ⟨-1, by rw [if_pos c1], .inl (by decide)⟩
    · exact ⟨c - (x.f0.size : Int) - (x.f1.size : Int), by rw [if_neg c1], .inr ⟨by omega, by omega, show x.f0.size ≤ 1048576 by omega, show x.f1.size ≤ 1048576 by omega⟩⟩
theorem szAS_l0 (l : List LAt) (hl : l.length ≤ 9223372036854775807) (hs : ∀ s ∈ l, okAttr s) : ∀ (n i : Nat) (c : Int), i + n = l.length → 0 ≤ c → c ≤ 1048576 →
    ∃ v, Ev (fun k => laws_szAttrS.l0 k l c (i : Int)) v ∧ (v < 0 ∨ (0 ≤ v ∧ v ≤ c ∧ ∀ s ∈ l.drop i, smallA (convA s))) := by
  intro n
  induction n with
  | zero =>
    intro i c hi h0 h1
    refine ⟨c, Ev.step (f := fun _ => some c) (fun k => ?_) (Ev.now _), .inr ⟨h0, Int.le_refl _, ?_⟩⟩
    · unfold laws_szAttrS.l0
      rw [if_neg (by omega)]
    · rw [List.drop_of_length_le (by omega)]; intro s hs; cases hs
  | succ n ih =>
    intro i c hi h0 h1
    have hlt : i < l.length := by omega
    obtain ⟨v, hv, hr⟩ := szAttr l[i] (hs _ (List.getElem_mem hlt)) c h0 h1
    have hf : ∀ k, laws_szAttrS.l0 (k + 1) l c (i : Int) = if v < 0 then (some (-1)) else (laws_szAttrS.l0 k l v ((i + 1 : Nat) : Int)) := by
      intro k
      conv => lhs; unfold laws_szAttrS.l0
      rw [if_pos (by omega), if_pos (by omega), rdLA l i hlt, w1n hlt hl, hv, Option.bind_some]
    rcases hr with h | ⟨a, b, d⟩
    · refine ⟨-1, Ev.step hf ?_, .inl (by decide)⟩
      simp only [if_pos h]
      exact Ev.now _
    · obtain ⟨v2, hv2, hr2⟩ := ih (i + 1) v (by omega) a (by omega)
      refine ⟨v2, Ev.step hf ?_, ?_⟩
      · simp only [if_neg (show ¬ v < 0 by omega)]
        exact hv2
      · rcases hr2 with h | ⟨a2, b2, d2⟩
        · exact .inl h
        · refine .inr ⟨a2, by omega, fun s hs => ?_⟩
          rw [List.drop_eq_getElem_cons hlt] at hs
          rcases List.mem_cons.1 hs with e | e
          · subst e; exact d
          · exact d2 s e
theorem szAS (l : List LAt) (hl : l.length ≤ 9223372036854775807) (hs : ∀ s ∈ l, okAttr s) (c : Int) (h0 : 0 ≤ c) (h1 : c ≤ 1048576) :
    ∃ v, Ev (fun k => laws_szAttrS.f k l c) v ∧ (v < 0 ∨ (0 ≤ v ∧ v ≤ c ∧ smallAs (l.map convA))) := by
  have hw := wsub h0 h1 hl
  by_cases c0 : c - (l.length : Int) < 0
  · refine ⟨-1, Ev.congr (f := fun _ => some (-1)) (fun k => ?_) (Ev.now _), .inl (by decide)⟩
    unfold laws_szAttrS.f
    rw [hw, if_pos c0]
  · obtain ⟨v, hv, hr⟩ := szAS_l0 l hl hs l.length 0 (c - (l.length : Int)) (by omega) (by omega) (by omega)
    refine ⟨v, Ev.congr (f := fun k => laws_szAttrS.l0 k l (c - (l.length : Int)) ((0 : Nat) : Int)) (fun k => ?_) hv, ?_⟩
    · unfold laws_szAttrS.f
      rw [hw, if_neg c0]
      rfl
    · rcases hr with h | ⟨a, b, d⟩
      · exact .inl h
      · refine .inr ⟨a, by omega, by rw [List.length_map]; omega, fun y hy => ?_⟩
        obtain ⟨z, hz, rfl⟩ := List.mem_map.1 hy
        exact d z (by simpa using hz)
theorem szItem (x : LIt) (ok : okItem x) (c : Int) (h0 : 0 ≤ c) (h1 : c ≤ 1048576) :
    ∃ v, Ev (fun k => laws_szItem.f k x.f0 x.f1 x.f2 x.f3 c) v ∧ (v < 0 ∨ (0 ≤ v ∧ v ≤ c ∧ smallI (convI x))) := by
  obtain ⟨o1, o2, o3, o4⟩ := ok
  rw [mxLen] at o1 o2 o3
  have hw := wsub h0 h1 o1
  by_cases c0 : c - (x.f1.size : Int) < 0
  · refine ⟨-1, Ev.congr (f := fun _ => some (-1)) (fun k => ?_) (Ev.now _), .inl (by decide)⟩
    unfold laws_szItem.f
    rw [hw, if_pos c0]
  · have hw2 := wsub (c := c - (x.f1.size : Int)) (by omega) (by omega) o2
    by_cases c1 : c - (x.f1.size : Int) - (x.f2.size : Int) < 0
    · refine ⟨-1, Ev.congr (f := fun _ => some (-1)) (fun k => ?_) (Ev.now _), .inl (by decide)⟩
      unfold laws_szItem.f
      rw [hw, if_neg c0, hw2, if_pos c1]
    · obtain ⟨v, hv, hr⟩ := szAS x.f3 o3 o4 (c - (x.f1.size : Int) - (x.f2.size : Int)) (by omega) (by omega)
      have hf : ∀ k, laws_szItem.f k x.f0 x.f1 x.f2 x.f3 c = (laws_szAttrS.f k x.f3 (c - (x.f1.size : Int) - (x.f2.size : Int))).bind fun t105 => (if t105 < 0 then (some (-1)) else (some t105)) := by
        intro k
        unfold laws_szItem.f
        rw [hw, if_neg c0, hw2, if_neg c1]
      rcases hr with h | ⟨a, b, d⟩
      · refine ⟨-1, Ev.congr hf (Ev.bind hv ?_), .inl (by decide)⟩
        simp only [if_pos h]
        exact Ev.now _
      · refine ⟨v, Ev.congr hf (Ev.bind hv ?_), .inr ⟨a, by omega, show x.f1.size ≤ 1048576 by omega, show x.f2.size ≤ 1048576 by omega, d⟩⟩
        simp only [if_neg (show ¬ v < 0 by omega)]
        exact Ev.now _
theorem szIS_l0 (l : List LIt) (hl : l.length ≤ 9223372036854775807) (hs : ∀ s ∈ l, okItem s) : ∀ (n i : Nat) (c : Int), i + n = l.length → 0 ≤ c → c ≤ 1048576 →
    ∃ v, Ev (fun k => laws_szItemS.l0 k l c (i : Int)) v ∧ (v < 0 ∨ (0 ≤ v ∧ v ≤ c ∧ ∀ s ∈ l.drop i, smallI (convI s))) := by
  intro n
  induction n with
  | zero =>
    intro i c hi h0 h1
    refine ⟨c, Ev.step (f := fun _ => some c) (fun k => ?_) (Ev.now _), .inr ⟨h0, Int.le_refl _, ?_⟩⟩
    · unfold laws_szItemS.l0
      rw [if_neg (by omega)]
    · rw [List.drop_of_length_le (by omega)]; intro s hs; cases hs
  | succ n ih =>
    intro i c hi h0 h1
    have hlt : i < l.length := by omega
    obtain ⟨v, hv, hr⟩ := szItem l[i] (hs _ (List.getElem_mem hlt)) c h0 h1
    have hf : ∀ k, laws_szItemS.l0 (k + 1) l c (i : Int) = (laws_szItem.f k l[i].f0 l[i].f1 l[i].f2 l[i].f3 c).bind fun t107 => (if t107 < 0 then (some (-1)) else (laws_szItemS.l0 k l t107 ((i + 1 : Nat) : Int))) := by
      intro k
      conv => lhs; unfold laws_szItemS.l0
      rw [if_pos (by omega), if_pos (by omega), rdLI l i hlt, w1n hlt hl]
    rcases hr with h | ⟨a, b, d⟩
    · refine ⟨-1, Ev.step hf (Ev.bind hv ?_), .inl (by decide)⟩
      simp only [if_pos h]
      exact Ev.now _
    · obtain ⟨v2, hv2, hr2⟩ := ih (i + 1) v (by omega) a (by omega)
      refine ⟨v2, Ev.step hf (Ev.bind hv ?_), ?_⟩
      · simp only [if_neg (show ¬ v < 0 by omega)]
        exact hv2
      · rcases hr2 with h | ⟨a2, b2, d2⟩
        · exact .inl h
        · refine .inr ⟨a2, by omega, fun s hs => ?_⟩
          rw [List.drop_eq_getElem_cons hlt] at hs
          rcases List.mem_cons.1 hs with e | e
          · subst e; exact d
          · exact d2 s e
theorem szIS (l : List LIt) (hl : l.length ≤ 9223372036854775807) (hs : ∀ s ∈ l, okItem s) :
    ∃ v, Ev (fun k => laws_szItemS.f k l 1048576) v ∧ (v < 0 ∨ (0 ≤ v ∧ l.length ≤ 1048576 ∧ ∀ s ∈ l, smallI (convI s))) := by
  have hw := wsub (c := 1048576) (by decide) (by decide) hl
  by_cases c0 : (1048576 : Int) - (l.length : Int) < 0
  · refine ⟨-1, Ev.congr (f := fun _ => some (-1)) (fun k => ?_) (Ev.now _), .inl (by decide)⟩
    unfold laws_szItemS.f
    rw [hw, if_pos c0]
  · obtain ⟨v, hv, hr⟩ := szIS_l0 l hl hs l.length 0 (1048576 - (l.length : Int)) (by omega) (by omega) (by omega)
    refine ⟨v, Ev.congr (f := fun k => laws_szItemS.l0 k l (1048576 - (l.length : Int)) ((0 : Nat) : Int)) (fun k => ?_) hv, ?_⟩
    · unfold laws_szItemS.f
      rw [hw, if_neg c0]
      rfl
    · rcases hr with h | ⟨a, b, d⟩
      · exact .inl h
      · exact .inr ⟨a, by omega, by simpa using d⟩
/-! #### copies -/
theorem set_mid {α : Type} (u : List α) (z v : α) (r : List α) : (u ++ z :: r).set u.length v = u ++ v :: r := by
  induction u with
  | nil => rfl
  | cons a u ih => simp [ih]
theorem set_copy {α β : Type} (f : α → β) (l : List α) (z : β) (i m : Nat) (h : i < l.length) : ((l.take i).map f ++ List.replicate (m + 1) z).set i (f l[i]) = (l.take (i + 1)).map f ++ List.replicate m z := by
  have hl : ((l.take i).map f).length = i := by simp; omega
  have := set_mid ((l.take i).map f) z (f l[i]) (List.replicate m z)
  rw [hl] at this
  rw [List.replicate_succ, this]
  rw [List.take_succ_eq_append_getElem h, List.map_append]
  simp
theorem toA_l0 (l : List LAt) (hl : l.length ≤ 9223372036854775807) : ∀ (n i : Nat), i + n = l.length →
    Ev (fun k => laws_toAttrS.l0 k l ((l.take i).map convA ++ List.replicate n z46) (i : Int)) (l.map convA) := by
  intro n
  induction n with
  | zero =>
    intro i hi
    have e : (l.take i).map convA ++ List.replicate 0 z46 = l.map convA := by rw [List.take_of_length_le (by omega)]; simp
    rw [e]
    refine Ev.step (f := fun _ => some (l.map convA)) (fun k => ?_) (Ev.now _)
    unfold laws_toAttrS.l0
    rw [if_neg (by omega)]
  | succ n ih =>
    intro i hi
    have hlt : i < l.length := by omega
    refine Ev.step (f := fun k => laws_toAttrS.l0 k l ((l.take (i + 1)).map convA ++ List.replicate n z46) ((i + 1 : Nat) : Int)) (fun k => ?_) (ih (i + 1) (by omega))
    conv => lhs; unfold laws_toAttrS.l0
    have hlen : ((l.take i).map convA ++ List.replicate (n + 1) z46).length = l.length := by simp; omega
    unfold laws_toAttr.f
    rw [if_pos (by omega), if_pos (by omega), Option.bind_some, hlen, if_pos (by omega), rdLA l i hlt, w1n hlt hl, Int.toNat_natCast]
    have := set_copy convA l z46 i n hlt
    rw [show convA l[i] = (⟨l[i].f0, l[i].f1⟩ : At) from rfl] at this
    rw [this]
theorem toA (l : List LAt) (hl : l.length ≤ 1048576) : Ev (fun k => laws_toAttrS.f k l) (l.map convA) := by
  refine Ev.congr (f := fun k => laws_toAttrS.l0 k l ((l.take 0).map convA ++ List.replicate l.length z46) ((0 : Nat) : Int)) (fun k => ?_) (toA_l0 l (by omega) l.length 0 (by omega))
  unfold laws_toAttrS.f
  rw [if_pos (by omega), Int.toNat_natCast, if_pos (by omega)]
  simp
theorem toI_l0 (l : List LIt) (hl : l.length ≤ 1048576) (hs : ∀ s ∈ l, smallI (convI s)) : ∀ (n i : Nat), i + n = l.length →
    Ev (fun k => laws_toItemS.l0 k l ((l.take i).map convI ++ List.replicate n z39) (i : Int)) (l.map convI) := by
  intro n
  induction n with
  | zero =>
    intro i hi
    have e : (l.take i).map convI ++ List.replicate 0 z39 = l.map convI := by rw [List.take_of_length_le (by omega)]; simp
    rw [e]
    refine Ev.step (f := fun _ => some (l.map convI)) (fun k => ?_) (Ev.now _)
    unfold laws_toItemS.l0
    rw [if_neg (by omega)]
  | succ n ih =>
    intro i hi
    have hlt : i < l.length := by omega
    have hsm := hs _ (List.getElem_mem hlt)
    have ht := toA l[i].f3 (by have := hsm.2.2.1; simpa [convI] using this)
    have hlen : ((l.take i).map convI ++ List.replicate (n + 1) z39).length = l.length := by simp; omega
    have hset := set_copy convI l z39 i n hlt
    refine Ev.step (f := fun k => (laws_toAttrS.f k l[i].f3).bind fun t289 => laws_toItemS.l0 k l (((l.take i).map convI ++ List.replicate (n + 1) z39).set i (⟨l[i].f0, l[i].f1, l[i].f2, t289⟩ : It)) ((i + 1 : Nat) : Int)) (fun k => ?_) (Ev.bind ht ?_)
    · conv => lhs; unfold laws_toItemS.l0
      rw [if_pos (by omega), if_pos (by omega), rdLI l i hlt]
      unfold laws_toItem.f
      cases laws_toAttrS.f k l[i].f3 with
      | none => rfl
      | some t =>
        simp only [Option.bind_some]
        rw [hlen, if_pos (by omega), w1n hlt (by omega), Int.toNat_natCast]
    · rw [show (⟨l[i].f0, l[i].f1, l[i].f2, l[i].f3.map convA⟩ : It) = convI l[i] from rfl, hset]
      exact ih (i + 1) (by omega)
theorem toIS (l : List LIt) (hl : l.length ≤ 1048576) (hs : ∀ s ∈ l, smallI (convI s)) : Ev (fun k => laws_toItemS.f k l) (l.map convI) := by
  refine Ev.congr (f := fun k => laws_toItemS.l0 k l ((l.take 0).map convI ++ List.replicate l.length z39) ((0 : Nat) : Int)) (fun k => ?_) (toI_l0 l hl hs l.length 0 (by omega))
  unfold laws_toItemS.f
  rw [if_pos (by omega), Int.toNat_natCast, if_pos (by omega)]
  simp
/-! #### equal to themselves -/
theorem eqA_l0 (l : List At) (hl : l.length ≤ 1048576) : ∀ (n i : Nat), i + n = l.length → Ev (fun k => laws_eqAttrS.l0 k l l (i : Int)) true := by
  intro n
  induction n with
  | zero =>
    intro i hi
    refine Ev.step (f := fun _ => some true) (fun k => ?_) (Ev.now _)
    conv => lhs; unfold laws_eqAttrS.l0
    rw [if_neg (by omega)]
  | succ n ih =>
    intro i hi
    have hlt : i < l.length := by omega
    refine Ev.step (fun k => ?_) (ih (i + 1) (by omega))
    conv => lhs; unfold laws_eqAttrS.l0 laws_eqAttr.f
    rw [if_pos (by omega), if_pos (by omega), if_pos (by omega), if_pos rfl, if_pos rfl, Option.bind_some, if_pos rfl, w1n hlt (by omega)]
theorem eqA (l : List At) (hl : l.length ≤ 1048576) : Ev (fun k => laws_eqAttrS.f k l l) true := by
  refine Ev.congr (fun k => ?_) (eqA_l0 l hl l.length 0 (by omega))
  unfold laws_eqAttrS.f
  rw [if_pos rfl]
  rfl
theorem eqI_l0 (l : List It) (hl : l.length ≤ 1048576) (hs : ∀ s ∈ l, smallI s) : ∀ (n i : Nat), i + n = l.length → Ev (fun k => laws_eqItemS.l0 k l l (i : Int)) true := by
  intro n
  induction n with
  | zero =>
    intro i hi
    refine Ev.step (f := fun _ => some true) (fun k => ?_) (Ev.now _)
    conv => lhs; unfold laws_eqItemS.l0
    rw [if_neg (by omega)]
  | succ n ih =>
    intro i hi
    have hlt : i < l.length := by omega
    have ha := eqA l[i].f3 (hs _ (List.getElem_mem hlt)).2.2.1
    refine Ev.step (f := fun k => (laws_eqAttrS.f k l[i].f3 l[i].f3).bind fun t => (if t = true then (laws_eqItemS.l0 k l l ((i + 1 : Nat) : Int)) else (some false))) (fun k => ?_) (Ev.bind ha ?_)
    · conv => lhs; unfold laws_eqItemS.l0
      rw [if_pos (by omega), if_pos (by omega), if_pos (by omega), rdIt l i hlt]
      unfold laws_eqItem.f
      rw [if_pos rfl, if_pos rfl, if_pos rfl, w1n hlt (by omega)]
      cases laws_eqAttrS.f k l[i].f3 l[i].f3 with
      | none => rfl
      | some t => cases t <;> rfl
    · simp only [if_true]
      exact ih (i + 1) (by omega)
theorem eqIS (l : List It) (hl : l.length ≤ 1048576) (hs : ∀ s ∈ l, smallI s) : Ev (fun k => laws_eqItemS.f k l l) true := by
  refine Ev.congr (fun k => ?_) (eqI_l0 l hl hs l.length 0 (by omega))
  unfold laws_eqItemS.f
  rw [if_pos rfl]
  rfl
theorem ba_size_app (a b : ByteArray) : (a ++ b).size = a.size + b.size := ByteArray.size_append
theorem digit_size (x : Int) : (strOfNums [x]).size = 1 := by
  unfold strOfNums
  rfl
theorem markText_l0 : ∀ (a : Nat) (s : ByteArray), s.size + a ≤ 4611686018427387904 → ∃ r, Ev (fun k => laws_markText.l0 k (a : Int) s) r := by
  intro a
  induction a using Nat.strongRecOn with
  | _ a ih =>
  intro s hs
  by_cases c : 0 < a
  · have e1 : wrap64 (Int.tdiv (a : Int) 10) = ((a / 10 : Nat) : Int) := by
      rw [show Int.tdiv (a : Int) 10 = ((a / 10 : Nat) : Int) from rfl]
      rw [w64] <;> omega
    obtain ⟨r, hr⟩ := ih (a / 10) (by omega) (strOfNums [(wrap64 (48 + (Int.tmod (a : Int) 10))) % 256] ++ s) (by rw [ba_size_app, digit_size]; omega)
    refine ⟨r, Ev.step (fun k => ?_) hr⟩
    conv => lhs; unfold laws_markText.l0
    rw [if_pos (by omega), Option.bind_some, if_pos (by rw [digit_size]; omega), e1]
  · refine ⟨(⟨#[109]⟩ : ByteArray) ++ s, Ev.step (f := fun _ => some ((⟨#[109]⟩ : ByteArray) ++ s)) (fun k => ?_) (Ev.now _)⟩
    conv => lhs; unfold laws_markText.l0
    rw [if_neg (by omega), if_pos (by omega)]
theorem markText_ev (a : Int) (h0 : 0 ≤ a) (h1 : a ≤ 4611686018427387904) : ∃ r, Ev (fun k => laws_markText.f k a) r := by
  by_cases c : a ≤ 0
  · refine ⟨⟨#[109, 48]⟩, Ev.congr (f := fun _ => some ⟨#[109, 48]⟩) (fun k => ?_) (Ev.now _)⟩
    unfold laws_markText.f
    rw [if_pos c]
  · obtain ⟨r, hr⟩ := markText_l0 a.toNat ⟨#[]⟩ (by simp only [ByteArray.size]; simp; omega)
    refine ⟨r, Ev.congr (fun k => ?_) hr⟩
    unfold laws_markText.f
    rw [if_neg c, show ((a.toNat : Nat) : Int) = a by omega]
theorem markA_l0 : ∀ (n : Nat) (l : List At) (i : Nat) (a : Int), i + n = l.length → l.length ≤ 1048576 → 0 ≤ a → a + 2 * n ≤ 4611686018427387904 → ∃ r, Ev (fun k => laws_markAttrS.l0 k l a (i : Int)) r ∧ r.1 = a + 2 * n := by
  intro n
  induction n with
  | zero =>
    intro l i a hi hl h0 h1
    refine ⟨(a, l), Ev.step (f := fun _ => some (a, l)) (fun k => ?_) (Ev.now _), by simp⟩
    conv => lhs; unfold laws_markAttrS.l0
    rw [if_neg (by omega)]
  | succ n ih =>
    intro l i a hi hl h0 h1
    have hlt : i < l.length := by omega
    obtain ⟨t1, ht1⟩ := markText_ev a h0 (by omega)
    obtain ⟨t2, ht2⟩ := markText_ev (a + 1) (by omega) (by omega)
    have e1 : wrap64 (a + 1) = a + 1 := by rw [w64] <;> omega
    have e2 : wrap64 (a + 1 + 1) = a + 1 + 1 := by rw [w64] <;> omega
    generalize hl1 : l.set ((i : Int)).toNat (⟨t1, (rd_T46 l (i : Int)).f1⟩ : At) = l1
    have hll1 : l1.length = l.length := by rw [← hl1, List.length_set]
    generalize hl2 : l1.set ((i : Int)).toNat (⟨(rd_T46 l1 (i : Int)).f0, t2⟩ : At) = l2
    have hll2 : l2.length = l.length := by rw [← hl2, List.length_set, hll1]
    obtain ⟨r, hr, hr1⟩ := ih l2 (i + 1) (a + 1 + 1) (by omega) (by omega) (by omega) (by omega)
    refine ⟨r, Ev.step (f := fun k => (laws_markText.f k a).bind fun t417 => (laws_markText.f k (a + 1)).bind fun t419 => (laws_markAttrS.l0 k ((l.set ((i : Int)).toNat (⟨t417, (rd_T46 l (i : Int)).f1⟩ : At)).set ((i : Int)).toNat (⟨(rd_T46 (l.set ((i : Int)).toNat (⟨t417, (rd_T46 l (i : Int)).f1⟩ : At)) (i : Int)).f0, t419⟩ : At)) (a + 1 + 1) ((i + 1 : Nat) : Int))) (fun k => ?_) (Ev.bind ht1 (Ev.bind ht2 ?_)), by rw [hr1]; omega⟩
    · conv => lhs; unfold laws_markAttrS.l0
      rw [if_pos (by omega), e1, e2, w1n hlt (by omega)]
      congr 1
    · rw [hl1, hl2]
      exact hr
theorem markI_go : ∀ (l : List It) (a : Int), (∀ x ∈ l, smallI x) → 0 ≤ a → a + 4194304 * l.length ≤ 4611686018427387904 → ∃ r, Ev (fun k => laws_markItemS.go k l a) r ∧ 0 ≤ r
  | [], a, _, h0, _ => ⟨a, Ev.now _, h0⟩
  | x :: l, a, hs, h0, h1 => by
    simp only [List.length_cons] at h1
    have hx := (hs x (by simp)).2.2.1
    have e1 : wrap64 (a + 1) = a + 1 := by rw [w64] <;> omega
    have e2 : wrap64 (a + 1 + 1) = a + 1 + 1 := by rw [w64] <;> omega
    have e3 : wrap64 (a + 1 + 1 + 1) = a + 1 + 1 + 1 := by rw [w64] <;> omega
    obtain ⟨t1, ht1⟩ := markText_ev (a + 1) (by omega) (by omega)
    obtain ⟨t2, ht2⟩ := markText_ev (a + 1 + 1) (by omega) (by omega)
    obtain ⟨p, hp, hp1⟩ := markA_l0 x.f3.length x.f3 0 (a + 1 + 1 + 1) (by omega) hx (by omega) (by omega)
    obtain ⟨r, hr, hr0⟩ := markI_go l p.1 (fun y hy => hs y (by simp [hy])) (by omega) (by omega)
    refine ⟨r, ?_, hr0⟩
    unfold laws_markItemS.go
    simp only [e1, e2, e3]
    refine Ev.bind ht1 (Ev.bind ht2 (Ev.bind hp hr))
theorem markIS (l : List It) (hl : l.length ≤ 1048576) (hs : ∀ x ∈ l, smallI x) : ∃ r, Ev (fun k => laws_markItemS.f k l 1) r ∧ 0 ≤ r := markI_go l 1 hs (by omega) (by omega)
/-! numbers -/
def markL (n : Nat) : List Int := (List.range n).map (fun j => ((j + 1 : Nat) : Int))
theorem markL_len (n : Nat) : (markL n).length = n := by simp [markL]
theorem markL_next (n : Nat) : markL (n + 1) = markL n ++ [((n + 1 : Nat) : Int)] := by
  unfold markL
  rw [List.range_succ, List.map_append]
  rfl
theorem markZ_l0 (l : List Int) (hl : l.length ≤ 1048576) : ∀ (n i : Nat), i + n = l.length → Ev (fun k => laws_markInt64S.l0 k (markL i ++ l.drop i) ((i + 1 : Nat) : Int) (i : Int)) (((l.length + 1 : Nat) : Int), markL l.length) := by
  intro n
  induction n with
  | zero =>
    intro i hi
    rw [show i = l.length by omega, List.drop_length, List.append_nil]
    refine Ev.step (f := fun _ => some (((l.length + 1 : Nat) : Int), markL l.length)) (fun k => ?_) (Ev.now _)
    conv => lhs; unfold laws_markInt64S.l0
    rw [if_neg (by rw [markL_len]; omega)]
  | succ n ih =>
    intro i hi
    have hlt : i < l.length := by omega
    have hlen : (markL i ++ l.drop i).length = l.length := by rw [List.length_append, markL_len, List.length_drop]; omega
    have hset : (markL i ++ l.drop i).set i ((i + 1 : Nat) : Int) = markL (i + 1) ++ l.drop (i + 1) := by
      have := set_mid (markL i) l[i] ((i + 1 : Nat) : Int) (l.drop (i + 1))
      rw [markL_len, ← List.drop_eq_getElem_cons hlt] at this
      rw [this, markL_next, List.append_assoc]
      rfl
    refine Ev.step (fun k => ?_) (ih (i + 1) (by omega))
    conv => lhs; unfold laws_markInt64S.l0
    rw [if_pos (by omega), if_pos (by omega), Int.toNat_natCast, hset, w1n hlt (by omega), w1n (i := i + 1) (m := i + 2) (by omega) (by omega)]
theorem markZ (l : List Int) (hl : l.length ≤ 1048576) : Ev (fun k => laws_markInt64S.f k l 1) (((l.length + 1 : Nat) : Int), markL l.length) := by
  have := markZ_l0 l hl l.length 0 (by omega)
  exact this
theorem heldZ_l0 (m : Nat) (hm : m ≤ 1048576) : ∀ (n i : Nat), i + n = m → Ev (fun k => laws_heldInt64S.l0 k (markL m) ((i + 1 : Nat) : Int) (i : Int)) ((m + 1 : Nat) : Int) := by
  intro n
  induction n with
  | zero =>
    intro i hi
    rw [show i = m by omega]
    refine Ev.step (f := fun _ => some ((m + 1 : Nat) : Int)) (fun k => ?_) (Ev.now _)
    conv => lhs; unfold laws_heldInt64S.l0
    rw [if_neg (by rw [markL_len]; omega)]
  | succ n ih =>
    intro i hi
    have hlt : i < (markL m).length := by rw [markL_len]; omega
    refine Ev.step (fun k => ?_) (ih (i + 1) (by omega))
    conv => lhs; unfold laws_heldInt64S.l0
    rw [if_pos (by omega), if_pos (by omega), rdZ _ i hlt, if_pos (by simp [markL]), w1n hlt (by rw [markL_len]; omega), w1n (i := i + 1) (m := i + 2) (by omega) (by omega)]
theorem heldZ (m : Nat) (hm : m ≤ 1048576) : Ev (fun k => laws_heldInt64S.f k (markL m) 1) ((m + 1 : Nat) : Int) := heldZ_l0 m hm m 0 (by omega)
theorem eqZ_l0 (l : List Int) (hl : l.length ≤ 1048576) : ∀ (n i : Nat), i + n = l.length → Ev (fun k => laws_eqInt64S.l0 k l l (i : Int)) true := by
  intro n
  induction n with
  | zero =>
    intro i hi
    refine Ev.step (f := fun _ => some true) (fun k => ?_) (Ev.now _)
    conv => lhs; unfold laws_eqInt64S.l0
    rw [if_neg (by omega)]
  | succ n ih =>
    intro i hi
    have hlt : i < l.length := by omega
    refine Ev.step (fun k => ?_) (ih (i + 1) (by omega))
    conv => lhs; unfold laws_eqInt64S.l0
    rw [if_pos (by omega), if_pos (by omega), if_pos (by omega), if_pos rfl, w1n hlt (by omega)]
theorem eqZ (l : List Int) (hl : l.length ≤ 1048576) : Ev (fun k => laws_eqInt64S.f k l l) true := by
  refine Ev.congr (fun k => ?_) (eqZ_l0 l hl l.length 0 (by omega))
  unfold laws_eqInt64S.f
  rw [if_pos rfl]
  rfl
end Go.Proofs.YtpmjpbaeecnpiaaDoor.Pure

namespace Go.Proofs.YtpmjpbaeecnpiaaDoor.L
open Go.RowKit Go.Proofs.YtpmjpbaeecnpiaaDoor.O Go.Proofs.YtpmjpbaeecnpiaaDoorW.PrintWords Go.Proofs.YtpmjpbaeecnpiaaDoorW.PrintLast Go.Proofs.YtpmjpbaeecnpiaaDoorW.PrintMore
set_option linter.unusedVariables false
def laws_FnExactSelect.Pure : Prop := ∀ (l : List S63) (n : Int) (a : ByteArray), l.length ≤ 9223372036854775807 → (∀ x ∈ l, okItem x) → ∃ k, laws_FnExactSelect.f k l n a = some true
theorem laws_FnExactSelect.walk (P : laws_FnExactSelect.Pure) (A0 : Option Addr) (c0 : Nat) (l : List S63) (n : Int) (a : ByteArray) (w : World) (hT : Gl w) (hr : Kd.C k63 w A0 l.length l) (hc : l.length ≤ c0) (hl : l.length ≤ 9223372036854775807) (ok : ∀ x ∈ l, okItem x) :
    Calls Tryd.prog 3 #[.slice A0 l.length c0, .int .i64 n, .string a] w fun e w' => e = .returned (.bool true) ∧ Below w.heap.size w w' := by
  obtain ⟨k, h⟩ := P l n a hl ok
  refine (laws_FnExactSelect.calls k A0 c0 l n a true w hT hr hc h).mono ?_
  rintro e w' ⟨rfl, hd⟩
  exact ⟨rfl, hd⟩
end Go.Proofs.YtpmjpbaeecnpiaaDoor.L

namespace Go.Proofs.YtpmjpbaeecnpiaaDoor.Pure
open Go.RowKit Go.Proofs.YtpmjpbaeecnpiaaDoor.L Go.Proofs.YtpmjpbaeecnpiaaDoor.O Go.Proofs.YtpmjpbaeecnpiaaDoorW.PrintWords Go.Proofs.YtpmjpbaeecnpiaaDoorW.PrintLast Go.Proofs.YtpmjpbaeecnpiaaDoorW.PrintMore
open DT MT
set_option linter.unusedVariables false
set_option linter.unusedSimpArgs false

theorem doc_val {l : List It} (h : docV l = true) : 0 < l.length ∧ l.length ≤ 200 ∧ Val (upV l) (elV l) l.length := by
  unfold docV at h
  simp only [Bool.and_eq_true, decide_eq_true_eq] at h
  obtain ⟨⟨h1, h2⟩, h3, h4⟩ := h
  refine ⟨by omega, h2, pos_val (fun j hj => ?_)⟩
  rw [allN_iff] at h3
  exact step_pos (h3 j (by omega) (by omega))
theorem seg_count : ∀ (l acc : List UInt8), (segs acc l).length ≤ l.length + 1
  | [], acc => by simp [segs]
  | b :: t, acc => by
    rw [segs]
    by_cases c : b = 47
    · rw [if_pos c, List.length_cons, List.length_cons]
      have := seg_count t []
      omega
    · rw [if_neg c, List.length_cons]
      have := seg_count t (acc ++ [b])
      omega
theorem steps_few (l : List UInt8) (hs : l.length ≤ 1048570) : (specSteps l).1.length ≤ 1048576 := by
  have hd : ∀ b : Bool, (if b = true then l.drop 2 else l).length ≤ l.length := by
    intro b
    cases b with
    | true => simp only [if_true, List.length_drop]; omega
    | false => exact Nat.le_refl _
  have hql := hd (deepS l)
  unfold specSteps
  generalize (if deepS l = true then l.drop 2 else l) = q at *
  unfold stepsV
  have := seg_count q []
  by_cases c : (segs [] q).all nameB = true
  · rw [if_pos c]
    simp only [List.nil_append, List.length_map]
    omega
  · rw [if_neg c]
    simp
/-- What is selected. -/
def selV (l : List It) (n : Int) (s : ByteArray) : List Int :=
  if docV l = true ∧ 0 ≤ n ∧ n < l.length ∧ elV l n.toNat = true ∧ pathB s.data.toList = true then ((List.range l.length).filter (finB l (startB l n.toNat (specSteps s.data.toList).2.1) (specSteps s.data.toList).1)).map Int.ofNat else []
theorem selV_len (l : List It) (n : Int) (s : ByteArray) (hl : l.length ≤ 1048576) : (selV l n s).length ≤ 1048576 := by
  unfold selV
  split
  · rw [List.length_map]
    have := List.length_filter_le (finB l (startB l n.toNat (specSteps s.data.toList).2.1) (specSteps s.data.toList).1) (List.range l.length)
    rw [List.length_range] at this
    omega
  · simp
theorem path_len {l : List UInt8} (h : pathB l = true) : l.length ≤ 20000 := by
  unfold pathB at h
  simp only [Bool.and_eq_true, decide_eq_true_eq] at h
  exact h.2
theorem impl_select (l : List It) (n : Int) (s : ByteArray) (hl : l.length ≤ 1048576) (hsm : smallD l) (hs : s.data.toList.length ≤ 1048576) : Ev (fun k => impl_Select.f k l n s) (selV l n s) := by
  have hst := impl_steps s hs
  obtain ⟨q1, q2⟩ := steps_alike s
  refine Ev.congr (f := fun k => (impl_stepsOf.f k s).bind fun bt392 => (if bt392.2.2 = true then ((impl_isElement.f k l n).bind fun t397 => (if t397 = true then ((impl_led.f k l n bt392.1 bt392.2.1).bind fun t398 => (some t398)) else (some ([] : List Int)))) else (some ([] : List Int)))) (fun k => rfl) (Ev.bind hst ?_)
  unfold selV
  rw [q1]
  cases hp : pathB s.data.toList with
  | false =>
    simp only [Bool.false_eq_true, and_false, if_false]
    exact Ev.now _
  | true =>
    obtain ⟨q3, q4⟩ := q2 hp
    simp only [if_true, and_true]
    have hdoc := impl_doc l hsm hl
    have hel : Ev (fun k => impl_isElement.f k l n) (decide (docV l = true ∧ 0 ≤ n ∧ n < l.length ∧ elV l n.toNat = true)) := by
      cases hd : docV l with
      | false =>
        rw [hd] at hdoc
        simp only [Bool.false_eq_true, false_and, decide_false]
        refine Ev.congr (f := fun k => ((impl_DocOk.f k l).bind fun t360 => (if t360 = true then ((impl_in.f n 0 (wrap64 ((l.length : Int) - 1))).bind fun t361 => (some t361)) else (some false))).bind fun t362 => (if t362 = true then (if 0 ≤ n then (if n < (l.length : Int) then (some (((rd_T39 l n).f1).toList != ([] : List UInt8))) else (none)) else (none)) else (some false))) (fun k => rfl) (Ev.bind (Ev.bind hdoc (Ev.now _)) ?_)
        exact Ev.now _
      | true =>
        rw [hd] at hdoc
        have hv := doc_val hd
        have ew : wrap64 ((l.length : Int) - 1) = ((l.length - 1 : Nat) : Int) := by rw [w64] <;> omega
        refine Ev.congr (f := fun k => ((impl_DocOk.f k l).bind fun t360 => (if t360 = true then ((impl_in.f n 0 (wrap64 ((l.length : Int) - 1))).bind fun t361 => (some t361)) else (some false))).bind fun t362 => (if t362 = true then (if 0 ≤ n then (if n < (l.length : Int) then (some (((rd_T39 l n).f1).toList != ([] : List UInt8))) else (none)) else (none)) else (some false))) (fun k => rfl) (Ev.bind (Ev.bind hdoc (show Ev _ (inZ n 0 ((l.length - 1 : Nat) : Int)) by
          simp only [if_true, ew, impl_in', Option.bind_some]
          exact Ev.now _)) ?_)
        by_cases c : 0 ≤ n ∧ n < l.length
        · have hin : inZ n 0 ((l.length - 1 : Nat) : Int) = true := by unfold inZ; simp; omega
          have hlt : n.toNat < l.length := by omega
          have er : rd_T39 l n = l[n.toNat] := by
            have := rdIt l n.toNat hlt
            rwa [show ((n.toNat : Nat) : Int) = n by omega] at this
          rw [hin]
          simp only [if_true, if_pos c.1, if_pos c.2, er, true_and]
          have e : (l[n.toNat].f1.toList != ([] : List UInt8)) = decide (0 ≤ n ∧ n < l.length ∧ elV l n.toNat = true) := by
            rw [Bool.eq_iff_iff, bne_iff_ne, decide_eq_true_eq, el_yes hlt]
            exact ⟨fun h => ⟨c.1, c.2, h⟩, fun h => h.2.2⟩
          rw [e]
          exact Ev.now _
        · have hin : inZ n 0 ((l.length - 1 : Nat) : Int) = false := by
            rw [Bool.eq_false_iff]
            unfold inZ
            simp
            omega
          rw [hin, decide_eq_false (fun h => c ⟨h.2.1, h.2.2.1⟩)]
          exact Ev.now _
    refine Ev.bind hel ?_
    by_cases c : docV l = true ∧ 0 ≤ n ∧ n < l.length ∧ elV l n.toNat = true
    · rw [decide_eq_true c, if_pos c]
      simp only [if_true]
      obtain ⟨h1, h2, h3⟩ := doc_val c.1
      have hfew := steps_few s.data.toList (by have := path_len hp; omega)
      rw [q3, q4]
      have := impl_led_is l h3 h2 n.toNat (specSteps s.data.toList).1 hfew (specSteps s.data.toList).2.1
      rw [show ((n.toNat : Nat) : Int) = n by omega] at this
      exact Ev.bind this (Ev.now _)
    · rw [decide_eq_false c, if_neg c]
      exact Ev.now _
theorem spec_select (l : List It) (n : Int) (s : ByteArray) (hl : l.length ≤ 1048576) (hsm : smallD l) (hs : s.data.toList.length ≤ 1048576) : Ev (fun k => spec_Select.f k l n s) (selV l n s) := by
  have hdoc := spec_doc l hsm hl
  unfold selV
  refine Ev.congr (f := fun k => (spec_DocOk.f k l).bind fun t257 => (if t257 = true then ((spec_l1In.f n 0 (wrap64 ((l.length : Int) - 1))).bind fun t258 => (if t258 = true then (if 0 ≤ n then (if n < (l.length : Int) then (if ((rd_T39 l n).f1).toList = ([] : List UInt8) then (some (([] : List Int))) else ((spec_PathOk.f k s).bind fun t263 => (if t263 = true then ((spec_l11Select.f k l n s).bind fun t264 => (some t264)) else (some (([] : List Int)))))) else (none)) else (none)) else (some (([] : List Int))))) else (some (([] : List Int))))) (fun k => rfl) (Ev.bind hdoc ?_)
  cases hd : docV l with
  | false =>
    simp only [Bool.false_eq_true, false_and, if_false]
    exact Ev.now _
  | true =>
    have hv := doc_val hd
    have ew : wrap64 ((l.length : Int) - 1) = ((l.length - 1 : Nat) : Int) := by rw [w64] <;> omega
    simp only [if_true, ew, spec_in', Option.bind_some, true_and]
    by_cases c : 0 ≤ n ∧ n < l.length
    · have hin : inZ n 0 ((l.length - 1 : Nat) : Int) = true := by unfold inZ; simp; omega
      have hlt : n.toNat < l.length := by omega
      have en : ((n.toNat : Nat) : Int) = n := by omega
      have er : rd_T39 l n = l[n.toNat] := by
        have := rdIt l n.toNat hlt
        rwa [en] at this
      simp only [hin, if_true, if_pos c.1, if_pos c.2, er, c.1, c.2, true_and]
      cases he : elV l n.toNat with
      | false =>
        simp only [if_pos ((el_no hlt).1 he), Bool.false_eq_true, false_and, if_false]
        exact Ev.now _
      | true =>
        simp only [if_neg ((el_yes hlt).1 he), true_and]
        refine Ev.bind (spec_path s hs) ?_
        cases hp : pathB s.data.toList with
        | false =>
          simp only [Bool.false_eq_true, if_false]
          exact Ev.now _
        | true =>
          simp only [if_true]
          have hfew := steps_few s.data.toList (by have := path_len hp; omega)
          have := spec_led l hv.2.1 hv.2.2 n.toNat hlt s hs hfew
          rw [en] at this
          exact Ev.bind this (Ev.now _)
    · have hin : inZ n 0 ((l.length - 1 : Nat) : Int) = false := by
        rw [Bool.eq_false_iff]
        unfold inZ
        simp
        omega
      simp only [hin, Bool.false_eq_true, if_false]
      rw [if_neg (fun h => c ⟨h.1, h.2.1⟩)]
      exact Ev.now _
theorem FnExactSelect : laws_FnExactSelect.Pure := by
  intro l n a hl hs
  by_cases hbig : (a.size : Int) > 1048576
  · refine ⟨0, ?_⟩
    unfold laws_FnExactSelect.f
    rw [if_pos hbig]
  have ha : a.data.toList.length ≤ 1048576 := by rw [← sz]; omega
  obtain ⟨v, hv, hr⟩ := szIS l hl hs
  have : Ev (fun k => laws_FnExactSelect.f k l n a) true := by
    refine Ev.congr (f := fun k => (laws_szItemS.f k l 1048576).bind fun t423 => (if t423 < 0 then (some true) else ((laws_toItemS.f k l).bind fun t424 => ((spec_Select.f k t424 n a).bind fun t427 => ((laws_toItemS.f k l).bind fun t430 => ((impl_Select.f k t430 n a).bind fun t433 => ((laws_eqInt64S.f k t433 t427).bind fun t436 => (if t436 = true then ((laws_toItemS.f k l).bind fun t437 => ((laws_eqItemS.f k t430 t437).bind fun t440 => (if t440 = true then ((laws_markItemS.f k t430 1).bind fun t441 => (if t441 < 0 then (laws_FnExactSelect.j0 k l n a t427 t433 true) else ((laws_eqInt64S.f k t433 t427).bind fun t442 => (laws_FnExactSelect.j0 k l n a t427 t433 (!t442))))) else (some false)))) else (some false))))))))) (fun k => ?_) (Ev.bind hv ?_)
    · unfold laws_FnExactSelect.f
      rw [if_neg hbig]
    rcases hr with h | ⟨h0, h1, h2⟩
    · simp only [if_pos h]
      exact Ev.now _
    · have hcl : (l.map convI).length ≤ 1048576 := by rw [List.length_map]; exact h1
      have hcs : smallD (l.map convI) := fun x hx => by
        obtain ⟨y, hy, rfl⟩ := List.mem_map.1 hx
        exact h2 y hy
      have hto := toIS l h1 h2
      have him := impl_select (l.map convI) n a hcl hcs ha
      have hsp := spec_select (l.map convI) n a hcl hcs ha
      have heqI := eqIS (l.map convI) hcl hcs
      obtain ⟨m, hm, hm0⟩ := markIS (l.map convI) hcl hcs
      have hsl := selV_len (l.map convI) n a hcl
      generalize hS : selV (l.map convI) n a = S at *
      have heq := eqZ S hsl
      have hmk := markZ S hsl
      have hhd := heldZ S.length hsl
      simp only [if_neg (show ¬ v < 0 by omega)]
      refine Ev.bind hto (Ev.bind hsp (Ev.bind hto (Ev.bind him (Ev.bind heq ?_))))
      simp only [if_true]
      refine Ev.bind hto (Ev.bind heqI ?_)
      simp only [if_true]
      refine Ev.bind hm ?_
      simp only [if_neg (show ¬ m < 0 by omega)]
      refine Ev.bind heq ?_
      simp only [Bool.not_true]
      refine Ev.step (f := fun k => (laws_markInt64S.f k S 1).bind fun bt443 => ((laws_heldInt64S.f k bt443.2 1).bind fun t445 => (if t445 < 0 then (some false) else (if t445 = bt443.1 then ((laws_toItemS.f k l).bind fun t446 => ((impl_Select.f k t446 n a).bind fun t449 => ((laws_eqInt64S.f k t449 S).bind fun t452 => (if t452 = true then ((laws_heldInt64S.f k bt443.2 1).bind fun t453 => (if t453 < 0 then (some false) else (if t453 = bt443.1 then (some true) else (some false)))) else (some false))))) else (some false))))) (fun k => rfl) (Ev.bind hmk (Ev.bind hhd ?_))
      · simp only [if_neg (show ¬ ((S.length + 1 : Nat) : Int) < 0 by omega), if_true]
        refine Ev.bind hto (Ev.bind him (Ev.bind heq ?_))
        simp only [if_true]
        refine Ev.bind hhd ?_
        simp only [if_neg (show ¬ ((S.length + 1 : Nat) : Int) < 0 by omega), if_true]
        exact Ev.now _
  exact this.rounds
end Go.Proofs.YtpmjpbaeecnpiaaDoor.Pure
