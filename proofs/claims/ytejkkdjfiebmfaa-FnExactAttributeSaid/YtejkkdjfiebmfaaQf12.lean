/- Words and contracts for the row RowFnExactAttribute: what the Go functions answer that it calls; printed by programs of the kit and of this session, and merged. -/
import Derived.Test.YtejkkdjfiebmfaaQf11
namespace Go.Proofs.Ytejkkdjfiebmfaa.Pure
open Go.RowKit Go.Proofs.Ytejkkdjfiebmfaa.L Go.Proofs.Ytejkkdjfiebmfaa.O Go.Proofs.YtejkkdjfiebmfaaW.PrintWords Go.Proofs.YtejkkdjfiebmfaaW.PrintLast Go.Proofs.YtejkkdjfiebmfaaW.PrintMore
set_option linter.unusedVariables false
set_option linter.unusedSimpArgs false

theorem rdB (l : List ByteArray) (i : Nat) (h : i < l.length) : rdOf ByteArray.empty l (i : Int) = l[i] := by
  unfold rdOf
  simp [h]
theorem w64s {i m : Nat} (h : i < m) (hm : m ≤ 9223372036854775807) : wrap64 ((i : Int) + 1) = ((i + 1 : Nat) : Int) := by rw [w64] <;> omega
theorem szS_l0 (l : List ByteArray) (hl : l.length ≤ 9223372036854775807) (hs : ∀ s ∈ l, s.size ≤ 9223372036854775807) : ∀ (n i : Nat) (c : Int), i + n = l.length → 0 ≤ c → c ≤ 1048576 →
    ∃ v, Ev (fun k => laws_szStringS.l0 k l c (i : Int)) v ∧ (v < 0 ∨ (0 ≤ v ∧ v ≤ c ∧ ∀ s ∈ l.drop i, s.size ≤ 1048576)) := by
  intro n
  induction n with
  | zero =>
    intro i c hi h0 h1
    refine ⟨c, Ev.step (f := fun _ => some c) (fun k => ?_) (Ev.now _), .inr ⟨h0, Int.le_refl _, ?_⟩⟩
    · unfold laws_szStringS.l0
      rw [if_neg (by omega)]
    · rw [List.drop_of_length_le (by omega)]; intro s hs; cases hs
  | succ n ih =>
    intro i c hi h0 h1
    have hlt : i < l.length := by omega
    have hsz := hs l[i] (List.getElem_mem hlt)
    have hw := wsub h0 h1 hsz
    by_cases c0 : c - (l[i].size : Int) < 0
    · refine ⟨-1, Ev.step (f := fun _ => some (-1)) (fun k => ?_) (Ev.now _), .inl (by decide)⟩
      conv => lhs; unfold laws_szStringS.l0
      rw [if_pos (by omega), if_pos (by omega), rdB l i hlt, hw, if_pos c0]
    · obtain ⟨v, hv, hr⟩ := ih (i + 1) (c - (l[i].size : Int)) (by omega) (by omega) (by omega)
      refine ⟨v, Ev.step (f := fun k => laws_szStringS.l0 k l (c - (l[i].size : Int)) ((i + 1 : Nat) : Int)) (fun k => ?_) hv, ?_⟩
      · conv => lhs; unfold laws_szStringS.l0
        rw [if_pos (by omega), if_pos (by omega), rdB l i hlt, hw, if_neg c0, w64s hlt hl]
      · rcases hr with h | ⟨a, b, d⟩
        · exact .inl h
        · refine .inr ⟨a, by omega, fun s hs => ?_⟩
          rw [List.drop_eq_getElem_cons hlt] at hs
          rcases List.mem_cons.1 hs with e | e
          · subst e; omega
          · exact d s e
def smallS (l : List ByteArray) : Prop := l.length ≤ 1048576 ∧ ∀ s ∈ l, s.size ≤ 1048576
theorem szS (l : List ByteArray) (hl : l.length ≤ 9223372036854775807) (hs : ∀ s ∈ l, s.size ≤ 9223372036854775807) (c : Int) (h0 : 0 ≤ c) (h1 : c ≤ 1048576) :
    ∃ v, Ev (fun k => laws_szStringS.f k l c) v ∧ (v < 0 ∨ (0 ≤ v ∧ v ≤ c ∧ smallS l)) := by
  have hw := wsub h0 h1 hl
  by_cases c0 : c - (l.length : Int) < 0
  · refine ⟨-1, Ev.congr (f := fun _ => some (-1)) (fun k => ?_) (Ev.now _), .inl (by decide)⟩
    unfold laws_szStringS.f
    rw [hw, if_pos c0]
  · obtain ⟨v, hv, hr⟩ := szS_l0 l hl hs l.length 0 (c - (l.length : Int)) (by omega) (by omega) (by omega)
    refine ⟨v, Ev.congr (f := fun k => laws_szStringS.l0 k l (c - (l.length : Int)) ((0 : Nat) : Int)) (fun k => ?_) hv, ?_⟩
    · unfold laws_szStringS.f
      rw [hw, if_neg c0]
      rfl
    · rcases hr with h | ⟨a, b, d⟩
      · exact .inl h
      · exact .inr ⟨a, by omega, by omega, by simpa using d⟩
theorem toS_l0 (l : List ByteArray) (hl : l.length ≤ 9223372036854775807) : ∀ (n i : Nat), i + n = l.length →
    Ev (fun k => laws_toStringS.l0 k l ((l.take i).map id ++ List.replicate n (⟨#[]⟩ : ByteArray)) (i : Int)) l := by
  intro n
  induction n with
  | zero =>
    intro i hi
    have e : (l.take i).map id ++ List.replicate 0 (⟨#[]⟩ : ByteArray) = l := by rw [List.take_of_length_le (by omega)]; simp
    rw [e]
    refine Ev.step (f := fun _ => some l) (fun k => ?_) (Ev.now _)
    unfold laws_toStringS.l0
    rw [if_neg (by omega)]
  | succ n ih =>
    intro i hi
    have hlt : i < l.length := by omega
    refine Ev.step (f := fun k => laws_toStringS.l0 k l ((l.take (i + 1)).map id ++ List.replicate n (⟨#[]⟩ : ByteArray)) ((i + 1 : Nat) : Int)) (fun k => ?_) (ih (i + 1) (by omega))
    conv => lhs; unfold laws_toStringS.l0
    have hlen : ((l.take i).map id ++ List.replicate (n + 1) (⟨#[]⟩ : ByteArray)).length = l.length := by simp; omega
    rw [if_pos (by omega), if_pos (by omega), hlen, if_pos (by omega), rdB l i hlt, w64s hlt hl, Int.toNat_natCast]
    have := set_copy id l (⟨#[]⟩ : ByteArray) i n hlt
    rw [show id l[i] = l[i] from rfl] at this
    rw [this]
theorem toS (l : List ByteArray) (hl : l.length ≤ 1048576) : Ev (fun k => laws_toStringS.f k l) l := by
  refine Ev.congr (f := fun k => laws_toStringS.l0 k l ((l.take 0).map id ++ List.replicate l.length (⟨#[]⟩ : ByteArray)) ((0 : Nat) : Int)) (fun k => ?_) (toS_l0 l (by omega) l.length 0 (by omega))
  unfold laws_toStringS.f
  rw [if_pos (by omega), Int.toNat_natCast, if_pos (by omega)]
  simp
theorem eqS_l0 (l : List ByteArray) (hl : l.length ≤ 9223372036854775807) : ∀ (n i : Nat), i + n = l.length → Ev (fun k => laws_eqStringS.l0 k l l (i : Int)) true := by
  intro n
  induction n with
  | zero =>
    intro i hi
    refine Ev.step (f := fun _ => some true) (fun k => ?_) (Ev.now _)
    unfold laws_eqStringS.l0
    rw [if_neg (by omega)]
  | succ n ih =>
    intro i hi
    have hlt : i < l.length := by omega
    refine Ev.step (f := fun k => laws_eqStringS.l0 k l l ((i + 1 : Nat) : Int)) (fun k => ?_) (ih (i + 1) (by omega))
    conv => lhs; unfold laws_eqStringS.l0
    rw [if_pos (by omega), if_pos (by omega), if_pos (by omega), if_pos rfl, w64s hlt hl]
theorem eqS (l : List ByteArray) (hl : l.length ≤ 1048576) : Ev (fun k => laws_eqStringS.f k l l) true := by
  refine Ev.congr (f := fun k => laws_eqStringS.l0 k l l ((0 : Nat) : Int)) (fun k => ?_) (eqS_l0 l (by omega) l.length 0 (by omega))
  unfold laws_eqStringS.f
  rw [if_pos rfl]
  rfl
end Go.Proofs.Ytejkkdjfiebmfaa.Pure

namespace Go.Proofs.Ytejkkdjfiebmfaa.L
open Go.RowKit Go.Proofs.Ytejkkdjfiebmfaa.O Go.Proofs.YtejkkdjfiebmfaaW.PrintWords Go.Proofs.YtejkkdjfiebmfaaW.PrintLast Go.Proofs.YtejkkdjfiebmfaaW.PrintMore
set_option linter.unusedVariables false
def laws_FnExactAttribute.Pure : Prop := ∀ (l : List S46) (s : List ByteArray), l.length ≤ 9223372036854775807 → (∀ x ∈ l, okPn x) → s.length ≤ 9223372036854775807 → (∀ x ∈ s, x.size ≤ maxLen) → ∃ k, laws_FnExactAttribute.f k l s = some true
theorem laws_FnExactAttribute.walk (P : laws_FnExactAttribute.Pure) (A0 : Option Addr) (c0 : Nat) (l : List S46) (A1 : Option Addr) (c1 : Nat) (s : List ByteArray) (w : World) (hr : Kd.C k46 w A0 l.length l) (hc : l.length ≤ c0) (hl : l.length ≤ 9223372036854775807) (ok : ∀ x ∈ l, okPn x) (hr1 : Kd.C Kd.string w A1 s.length s) (hc1 : s.length ≤ c1) (hl1 : s.length ≤ 9223372036854775807) (ok1 : ∀ x ∈ s, x.size ≤ maxLen) :
  Calls Try.prog 7 #[.slice A0 l.length c0, .slice A1 s.length c1] w fun e w' => e = .returned (.bool true) ∧ Below w.heap.size w w' := by
 obtain ⟨k, h⟩ := P l s hl ok hl1 ok1
 refine (laws_FnExactAttribute.calls k A0 c0 l A1 c1 s true w hr hc hr1 hc1 h).mono ?_
 rintro e w' ⟨rfl, hd⟩
 exact ⟨rfl, hd⟩
end Go.Proofs.Ytejkkdjfiebmfaa.L

namespace Go.Proofs.Ytejkkdjfiebmfaa.Pure
open Go.RowKit Go.Proofs.Ytejkkdjfiebmfaa.L Go.Proofs.Ytejkkdjfiebmfaa.O Go.Proofs.YtejkkdjfiebmfaaW.PrintWords Go.Proofs.YtejkkdjfiebmfaaW.PrintLast Go.Proofs.YtejkkdjfiebmfaaW.PrintMore
set_option linter.unusedVariables false
set_option linter.unusedSimpArgs false

theorem markS_l0 : ∀ (n : Nat) (l : List ByteArray) (i : Nat) (a : Int), i + n = l.length → l.length ≤ 1048576 → 0 ≤ a → a + n ≤ 4611686018427387904 → ∃ r, Ev (fun k => laws_markStringS.l0 k l a (i : Int)) r ∧ r.1 = a + n := by
  intro n
  induction n with
  | zero =>
    intro l i a hi hl h0 h1
    refine ⟨(a, l), Ev.step (f := fun _ => some (a, l)) (fun k => ?_) (Ev.now _), by simp⟩
    conv => lhs; unfold laws_markStringS.l0
    rw [if_neg (by omega)]
  | succ n ih =>
    intro l i a hi hl h0 h1
    obtain ⟨t, ht⟩ := markText_ev a h0 (by omega)
    obtain ⟨r, hr, hr1⟩ := ih (l.set i t) (i + 1) (a + 1) (by rw [List.length_set]; omega) (by rw [List.length_set]; omega) (by omega) (by omega)
    refine ⟨r, Ev.step (f := fun k => (laws_markText.f k a).bind fun t => laws_markStringS.l0 k (l.set i t) (a + 1) ((i + 1 : Nat) : Int)) (fun k => ?_) (Ev.bind ht hr), by rw [hr1]; omega⟩
    conv => lhs; unfold laws_markStringS.l0
    rw [if_pos (by omega), w64 (by omega) (by omega), w1n (show i < l.length by omega) (by omega)]
    simp only [if_pos (show (0 : Int) ≤ (i : Int) by omega), Int.toNat_natCast]
theorem markSS (l : List ByteArray) (hl : l.length ≤ 1048576) (a : Int) (h0 : 0 ≤ a) (h1 : a ≤ 4398046511105) : ∃ r, Ev (fun k => laws_markStringS.f k l a) r ∧ 0 ≤ r.1 := by
  obtain ⟨r, hr, hr1⟩ := markS_l0 l.length l 0 a (by omega) hl h0 (by omega)
  exact ⟨r, hr, by omega⟩
theorem FnExactAttribute : laws_FnExactAttribute.Pure := by
  intro l s hl ok hsl oks
  obtain ⟨v, hv, hr⟩ := szPS l hl ok
  suffices this : Ev (fun k => laws_FnExactAttribute.f k l s) true from this.rounds
  rcases hr with h | ⟨h0, h1, hl2, hs⟩
  · refine (Ev.congr (fun k => rfl) (Ev.bind hv (Ev.congr (f := fun _ => some true) (fun k => ?_) (Ev.now true))))
    rw [if_pos h]
  · obtain ⟨v2, hv2, hr2⟩ := szS s hsl (fun x hx => by have := oks x hx; rw [mxLen] at this; exact this) v h0 h1
    refine Ev.congr (fun k => rfl) (Ev.bind hv ?_)
    simp only [if_neg (show ¬ v < 0 by omega)]
    refine Ev.bind hv2 ?_
    rcases hr2 with h | ⟨h3, h4, hss⟩
    · simp only [if_pos h]
      exact Ev.now _
    · simp only [if_neg (show ¬ v2 < 0 by omega)]
      have hs2 : ∀ x ∈ l.map convP, smallP x := by
        intro x hx
        obtain ⟨y, hy, rfl⟩ := List.mem_map.1 hx
        exact hs y hy
      have hl3 : (l.map convP).length ≤ 1048576 := by rw [List.length_map]; exact hl2
      have hto := toPS l hl2 hs
      have hts := toS s hss.1
      obtain ⟨R, hsp, him, hRl⟩ := attr_both (l.map convP) hs2 s
      have hep := eqPS (l.map convP) hl3 hs2
      have hes := eqS s hss.1
      obtain ⟨r, hm, hm0, hm1⟩ := markPS2 (l.map convP) hl3 hs2
      obtain ⟨r2, hm2, hm3⟩ := markSS s hss.1 r hm0 hm1
      have he := eqZ R.1 (by omega)
      have hmz := markZ R.1 (by omega)
      have hhz := heldZ R.1.length (by omega)
      have hj2 : Ev (fun k => laws_FnExactAttribute.j2 k (markL R.1.length) ((R.1.length + 1 : Nat) : Int) false) true := by
        refine Ev.step (f := fun k => (laws_heldInt64S.f k (markL R.1.length) 1).bind fun t544 => (if t544 < 0 then (some false) else (if t544 = ((R.1.length + 1 : Nat) : Int) then (some true) else (some false)))) (fun k => rfl) (Ev.bind hhz ?_)
        simp only [if_neg (show ¬ ((R.1.length + 1 : Nat) : Int) < 0 by omega), if_true]
        exact Ev.now _
      have hj1 : Ev (fun k => laws_FnExactAttribute.j1 k l s R.1 R.2 R.1 false) true := by
        refine Ev.step (f := fun k => ((laws_markInt64S.f k R.1 1).bind fun bt530 => ((laws_heldInt64S.f k bt530.2 1).bind fun t532 => (if t532 < 0 then (some false) else (if t532 = bt530.1 then ((laws_toPNodeS.f k l).bind fun t533 => ((laws_toStringS.f k s).bind fun t536 => ((impl_Attribute.f k t533 t536).bind fun bt539 => ((laws_eqInt64S.f k bt539.1 R.1).bind fun t543 => (if t543 = true then (laws_FnExactAttribute.j2 k bt530.2 bt530.1 (bt539.2 != R.2)) else (laws_FnExactAttribute.j2 k bt530.2 bt530.1 true)))))) else (some false)))))) (fun k => rfl) (Ev.bind hmz (Ev.bind hhz ?_))
        simp only [if_neg (show ¬ ((R.1.length + 1 : Nat) : Int) < 0 by omega), if_true]
        refine Ev.bind hto (Ev.bind hts (Ev.bind him (Ev.bind he ?_)))
        simp only [if_true, bne_self_eq_false]
        exact hj2
      have hj0 : Ev (fun k => laws_FnExactAttribute.j0 k l s R.1 R.2 (l.map convP) s R.1 R.2 false) true := by
        refine Ev.step (f := fun k => ((laws_toPNodeS.f k l).bind fun t518 => ((laws_eqPNodeS.f k (l.map convP) t518).bind fun t521 => (if t521 = true then ((laws_toStringS.f k s).bind fun t522 => ((laws_eqStringS.f k s t522).bind fun t525 => (if t525 = true then ((laws_markPNodeS.f k (l.map convP) 1).bind fun t526 => ((laws_markStringS.f k s t526).bind fun bt527 => (if bt527.1 < 0 then (laws_FnExactAttribute.j1 k l s R.1 R.2 R.1 true) else ((laws_eqInt64S.f k R.1 R.1).bind fun t529 => (if t529 = true then (laws_FnExactAttribute.j1 k l s R.1 R.2 R.1 (R.2 != R.2)) else (laws_FnExactAttribute.j1 k l s R.1 R.2 R.1 true)))))) else (some false)))) else (some false))))) (fun k => rfl) (Ev.bind hto (Ev.bind hep ?_))
        simp only [if_true]
        refine Ev.bind hts (Ev.bind hes ?_)
        simp only [if_true]
        refine Ev.bind hm (Ev.bind hm2 ?_)
        simp only [if_neg (show ¬ r2.1 < 0 by omega)]
        refine Ev.bind he ?_
        simp only [if_true, bne_self_eq_false]
        exact hj1
      refine Ev.bind hto (Ev.bind hts (Ev.bind hsp (Ev.bind hto (Ev.bind hts (Ev.bind him (Ev.bind he ?_))))))
      simp only [if_true, bne_self_eq_false]
      exact hj0
end Go.Proofs.Ytejkkdjfiebmfaa.Pure
