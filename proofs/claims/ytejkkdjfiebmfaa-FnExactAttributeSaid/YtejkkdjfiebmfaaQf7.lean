/- Words and contracts for the row RowFnExactAttribute: what the Go functions answer that it calls; printed by programs of the kit and of this session, and merged. -/
import Derived.Test.YtejkkdjfiebmfaaQf6
import Derived.Lib.Hide
import Derived.Outline
import Derived.WalkSpells
namespace Go.Proofs.Ytejkkdjfiebmfaa.L
open Go.RowKit Go.Proofs.YtejkkdjfiebmfaaW.PrintWords Go.Proofs.YtejkkdjfiebmfaaW.PrintLast Go.Proofs.YtejkkdjfiebmfaaW.PrintMore
set_option linter.unusedVariables false
set_option linter.unusedSimpArgs false

def rdL (xs : List (List Int)) (i : Int) : List Int := rdOf ([] : List Int) xs i
structure KS where
 nu : Bool
 fi : List Int
 la : List Int
 fol : List (List Int)
def LIMK : Nat := 1048576
def kidF (kind : Int) (N : NetV) (s : KS) (k : Int) : Option KS :=
 if (0 ≤ k ∧ k < N.nul.length ∧ k < N.fst.length ∧ k < N.lst.length) ∧ s.fi.length + (rdL N.fst k).length < LIMK ∧ s.la.length + (rdL N.lst k).length < LIMK then
  if kind = 3 then some ⟨s.nu || rdOf false N.nul k, s.fi ++ rdL N.fst k, s.la ++ rdL N.lst k, s.fol⟩
  else if (∀ a ∈ s.la, 0 ≤ a ∧ a < (s.fol.length : Int)) ∧ (∀ b ∈ rdL N.fst k, 0 ≤ b ∧ b < 4096) then
   some ⟨s.nu && rdOf false N.nul k, if s.nu = true then s.fi ++ rdL N.fst k else s.fi, (if rdOf false N.nul k = true then s.la else []) ++ rdL N.lst k, leadL s.fol s.la (rdL N.fst k)⟩
  else none
 else none
def kidsF (kind : Int) (N : NetV) : List Int → KS → Option KS
 | [], s => some s
 | k :: ks, s => (kidF kind N s k).bind (kidsF kind N ks)
def posB (n : PN) : Bool := n.f0 == 1 || n.f0 == 4
def optB (n : PN) : Bool := n.f3 == 1 || n.f3 == 2
def oftB (n : PN) : Bool := n.f3 == 2 || n.f3 == 3
def startF (i : Nat) (n : PN) (N : NetV) : KS := ⟨n.f0 == 2, if posB n = true then [(i : Int)] else [], if posB n = true then [(i : Int)] else [], N.fol ++ [[]]⟩
def loopF (n : PN) (s : KS) : Option (List (List Int)) :=
 if oftB n = true then if (∀ a ∈ s.la, 0 ≤ a ∧ a < (s.fol.length : Int)) ∧ (∀ b ∈ s.fi, 0 ≤ b ∧ b < 4096) then some (leadL s.fol s.la s.fi) else none else some s.fol
def nodeF (i : Nat) (n : PN) (N : NetV) : Option NetV :=
 (kidsF n.f0 N n.f2 (startF i n N)).bind fun s => (loopF n s).map fun fol => ⟨N.nul ++ [s.nu || optB n], N.fst ++ [s.fi], N.lst ++ [s.la], fol⟩
def netL : List PN → Nat → NetV → Option NetV
 | [], _, N => some N
 | n :: p, i, N => if N.nul.length < LIMK ∧ N.fst.length < LIMK ∧ N.lst.length < LIMK ∧ N.fol.length < LIMK then (nodeF i n N).bind (netL p (i + 1)) else none
def netOfF (p : List PN) : Option NetV := netL p 0 ⟨[], [], [], []⟩

structure Stp (W w1 : World) (own own' : Tags) (S : Nat → Prop) : Prop where
 size : W.heap.size ≤ w1.heap.size
 blk : ∀ k, k < W.heap.size → ¬ S (own k) → w1.heap[k]? = W.heap[k]?
 tag : ∀ k, k < W.heap.size → ¬ S (own k) → own' k = own k
section
variable {W w1 : World} {own own' : Tags} {S : Nat → Prop} {base X : Nat} {pv nv fv lv wv : Value} {N : NetV} {ms : List Nat}
theorem Stp.below (h : Below W.heap.size W w1) (own : Tags) (S : Nat → Prop) : Stp W w1 own own S := ⟨h.size, fun k hk _ => h.block k hk, fun _ _ _ => rfl⟩
theorem Stp.row {α : Type} {d : Kd α} {e t : Nat} {v : Value} {xs : List α} (h : Stp W w1 own own' S) (hr : d.R e W base (fun k => own k = t) v xs) (ht : ¬ S t) : d.R e w1 base (fun k => own' k = t) v xs :=
 Kd.R_mono (Kd.R_step (Kd.R_bound hr) (fun k hk hlt => h.blk k hlt (by rw [hk.1]; exact ht))) (fun k hk => (h.tag k hk.2.2.1 (by rw [hk.1]; exact ht)).trans hk.1)
theorem Stp.block {g : Nat} {o : Obj} (h : Stp W w1 own own' S) (hb : W.heap[g]? = some o) (ht : ¬ S (own g)) : w1.heap[g]? = some o ∧ own' g = own g := ⟨(h.blk g (blk_lt hb) ht).trans hb, h.tag g (blk_lt hb) ht⟩
theorem Stp.maps {fol : List (List Int)} (h : Stp W w1 own own' S) (hm : MapsW W base own ms fol) (ht : ¬ S 8) : MapsW w1 base own' ms fol :=
 ⟨hm.len, fun i b l hb hl => (hm.at_ i b l hb hl).step (h.blk b (hm.at_ i b l hb hl).lt (by rw [hm.own_ b (List.mem_of_getElem? hb)]; exact ht)), fun b hb => (h.tag b (hm.lt b hb) (by rw [hm.own_ b hb]; exact ht)).trans (hm.own_ b hb), hm.lo, hm.nodup⟩
theorem Stp.net (h : Stp W w1 own own' S) (hN : NetW W base X own pv nv fv lv wv N ms) (hs : ∀ t, Mine t → ¬ S t) : NetW w1 base X own' pv nv fv lv wv N ms :=
 ⟨(h.block hN.x (by rw [hN.xo]; exact hs 7 (by unfold Mine; omega))).1, hN.xb, (h.block hN.x (by rw [hN.xo]; exact hs 7 (by unfold Mine; omega))).2.trans hN.xo,
  h.row hN.n (hs 1 (by unfold Mine; omega)), h.row hN.f (hs 2 (by unfold Mine; omega)), h.row hN.l (hs 3 (by unfold Mine; omega)), h.row hN.wv_ (hs 4 (by unfold Mine; omega)), h.maps hN.m (hs 8 (by unfold Mine; omega))⟩
theorem Stp.trans {w2 : World} {own2 : Tags} {S2 : Nat → Prop} (h : Stp W w1 own own' S) (k : Stp w1 w2 own' own2 S2) : Stp W w2 own own2 (fun t => S t ∨ S2 t) :=
 ⟨Nat.le_trans h.size k.size, fun q hq hn => (k.blk q (Nat.lt_of_lt_of_le hq h.size) (by rw [h.tag q hq (fun e => hn (.inl e))]; exact fun e => hn (.inr e))).trans (h.blk q hq (fun e => hn (.inl e))),
  fun q hq hn => (k.tag q (Nat.lt_of_lt_of_le hq h.size) (by rw [h.tag q hq (fun e => hn (.inl e))]; exact fun e => hn (.inr e))).trans (h.tag q hq (fun e => hn (.inl e)))⟩
theorem appended {α : Type} {d : Kd α} {e t u : Nat} {v v1 : Value} {xs zs : List α} (HO : d.R e W base (fun k => own k = t) v xs) (h1 : d.R e w1 base (fun k => own k = t ∨ own k = u ∨ W.heap.size ≤ k) v1 zs) (hg : W.grownBy w1 v.ownBlock) :
  ∃ own' : Tags, d.R e w1 base (fun k => own' k = t) v1 zs ∧ Stp W w1 own own' (fun q => q = t ∨ q = u) := by
 refine ⟨fun k => if k < W.heap.size then (if own k = u then t else own k) else t, Kd.R_mono (Kd.R_bound h1) (fun k hk => ?_), hg.size, fun k hk hn => hg.block k hk (fun e => hn (.inl (HO.1 k e.symm))), fun k hk hn => ?_⟩
 ·show (if k < W.heap.size then (if own k = u then t else own k) else t) = t
  rcases hk.1 with h | h | h
  ·split
   ·split
    ·rfl
    ·exact h
   ·rfl
  ·split
   ·first | rfl | rw [if_pos h]
   ·rfl
  ·rw [if_neg (by omega)]
 ·show (if k < W.heap.size then (if own k = u then t else own k) else t) = own k
  rw [if_pos hk, if_neg (fun e => hn (.inr e))]
end
section
variable {ops : Array Oper} {rest : List Oper} {o : Oper} {a : Act} {Q : Exit → Act → World → Prop} {Kc : Act → World → Prop} {w0 W : World} {own : Tags} {v : Value} {A : Option Addr} {m c t : Nat}
theorem grown_low {w1 : World} (HB : Below w0.heap.size w0 W) (hg : W.grownBy w1 v.ownBlock) {α : Type} {d : Kd α} {e : Nat} {ok : Nat → Prop} {xs : List α} (HO : d.R e W w0.heap.size ok v xs) : Below w0.heap.size w0 w1 :=
 pw_below_grown HB v.ownBlock HB.size hg (fun k hk => Kd.R_base HO k hk)
theorem app_ints (hgd : o.guard = none) (s x : Operand) (ho : o.op = .call { callee := .builtin .append, args := #[s, x], argTypes := #[24, 24] }) (xs ys : List Int)
  (hs : a.eval s = v) (hx : a.eval x = .slice A m c) (HO : Kd.R (Kd.int .i64) 2 W w0.heap.size (fun k => own k = t) v xs) (HC : Kd.C (Kd.int .i64) W A m ys) (HB : Below w0.heap.size w0 W) (hl : xs.length + m < 2097152)
  (h : ∀ v1 w1 own', Kd.R (Kd.int .i64) 2 w1 w0.heap.size (fun k => own' k = t) v1 (xs ++ ys) → Stp W w1 own own' (fun q => q = t) → Below w0.heap.size w0 w1 → wpList Try.prog ops Q rest (a.put o.dst v1) w1) :
  wpList Try.prog ops Q (o :: rest) a W := by
 refine Kd.R_append_rows (Kd.int .i64) (Rr := (Kd.int .i64).K W) (w0 := w0) w0.heap.size hgd s x 24 2 (.int .i64 0) 8 ho Try.underlying24 info2 rfl (by decide) (by omega) v xs ys A m c (fun k => own k = t ∨ own k = t ∨ W.heap.size ≤ k) (fun _ => False) hs hx (Kd.R_mono HO (fun _ h => .inl h)) HC (fun _ _ h => h) (fun _ h => h.elim) (fun _ h => .inr (.inr h)) HB HB.size (by omega) ?_
 intro v1 w1 h1 hb hg _
 obtain ⟨own', h2, h3⟩ := appended HO h1 hg
 exact h v1 w1 own' h2 ⟨h3.size, fun k hk hn => h3.blk k hk (fun e => hn (e.elim id id)), fun k hk hn => h3.tag k hk (fun e => hn (e.elim id id))⟩ hb
theorem app_ints_step (hw : Region.wanted o (yielded ops a.tmps) = true) (s x : Operand) (ho : o.op = .call { callee := .builtin .append, args := #[s, x], argTypes := #[24, 24] }) (xs ys : List Int)
  (hs : a.eval s = v) (hx : a.eval x = .slice A m c) (HO : Kd.R (Kd.int .i64) 2 W w0.heap.size (fun k => own k = t) v xs) (HC : Kd.C (Kd.int .i64) W A m ys) (HB : Below w0.heap.size w0 W) (hl : xs.length + m < 2097152)
  (h : ∀ v1 w1 own', Kd.R (Kd.int .i64) 2 w1 w0.heap.size (fun k => own' k = t) v1 (xs ++ ys) → Stp W w1 own own' (fun q => q = t) → Below w0.heap.size w0 w1 → Kc (a.put o.dst v1) w1) :
  if Region.wanted o (yielded ops a.tmps) = true then Oper.wp Try.prog o a W Kc Q else Kc (a.put o.dst undef) W := by
 refine Kd.R_append_rows_step (Kd.int .i64) (Rr := (Kd.int .i64).K W) (w0 := w0) w0.heap.size hw s x 24 2 (.int .i64 0) 8 ho Try.underlying24 info2 rfl (by decide) (by omega) v xs ys A m c (fun k => own k = t ∨ own k = t ∨ W.heap.size ≤ k) (fun _ => False) hs hx (Kd.R_mono HO (fun _ h => .inl h)) HC (fun _ _ h => h) (fun _ h => h.elim) (fun _ h => .inr (.inr h)) HB HB.size (by omega) ?_
 intro v1 w1 h1 hb hg _
 obtain ⟨own', h2, h3⟩ := appended HO h1 hg
 exact h v1 w1 own' h2 ⟨h3.size, fun k hk hn => h3.blk k hk (fun e => hn (e.elim id id)), fun k hk hn => h3.tag k hk (fun e => hn (e.elim id id))⟩ hb
theorem one_row {α : Type} {Rr : α → List Value → Prop} {g e : Nat} {u : Value} {x : α} (hb : W.heap[g]? = some (.cells #[u] e (0, 0))) (hr : Rr x [u]) : ReadsRow Rr 1 W (some ⟨g, 0, none⟩) 1 [x] :=
 ⟨rfl, by decide, fun _ => ⟨⟨g, 0, none⟩, rfl, fun j p hj => by
  cases j with
  | zero =>
   obtain rfl : x = p := by simpa using hj
   refine ⟨[u], rfl, hr, fun i w hw => ?_⟩
   cases i with
   | zero =>
    obtain rfl : u = w := by simpa using hw
    simpa [add_plain] using (blk_cell hb 0)
   | succ i => simp at hw
  | succ j => simp at hj⟩⟩
theorem app_bool_step (hw : Region.wanted o (yielded ops a.tmps) = true) (s x : Operand) (ho : o.op = .call { callee := .builtin .append, args := #[s, x], argTypes := #[56, 56] }) (xs : List Bool) (b : Bool) {g : Nat}
  (hs : a.eval s = v) (hx : a.eval x = .slice (some ⟨g, 0, none⟩) 1 1) (HO : Kd.bool.R 4 W w0.heap.size (fun k => own k = t) v xs) (hb : W.heap[g]? = some (.cells #[.bool b] 4 (0, 0))) (HB : Below w0.heap.size w0 W) (hl : xs.length < 1048576)
  (h : ∀ v1 w1 own', Kd.bool.R 4 w1 w0.heap.size (fun k => own' k = t) v1 (xs ++ [b]) → Stp W w1 own own' (fun q => q = t) → Below w0.heap.size w0 w1 → Kc (a.put o.dst v1) w1) :
  if Region.wanted o (yielded ops a.tmps) = true then Oper.wp Try.prog o a W Kc Q else Kc (a.put o.dst undef) W := by
 refine Kd.R_append_rows_step Kd.bool (Rr := fun x cs => cs = [.bool x]) (w0 := w0) w0.heap.size hw s x 56 4 (.bool false) 1 ho Try.underlying56 info4 rfl (by decide) (by omega) v xs [b] (some ⟨g, 0, none⟩) 1 1 (fun k => own k = t ∨ own k = t ∨ W.heap.size ≤ k) (fun _ => False) hs hx (Kd.R_mono HO (fun _ h => .inl h)) (one_row hb rfl) (fun _ _ h => h) (fun _ h => h.elim) (fun _ h => .inr (.inr h)) HB HB.size (by omega) ?_
 intro v1 w1 h1 hb hg _
 obtain ⟨own', h2, h3⟩ := appended HO h1 hg
 exact h v1 w1 own' h2 ⟨h3.size, fun k hk hn => h3.blk k hk (fun e => hn (e.elim id id)), fun k hk hn => h3.tag k hk (fun e => hn (e.elim id id))⟩ hb
theorem infoL : (Try.prog.info? 24).map (fun i => (i.zero, i.size, i.bytes)) = some (some (.slice none 0 0), 1, 24) := by kernel_rfl
theorem infoM : (Try.prog.info? 73).map (fun i => (i.zero, i.size, i.bytes)) = some (some (.map none), 1, 8) := by kernel_rfl
theorem app_row_step (hw : Region.wanted o (yielded ops a.tmps) = true) (s x : Operand) (ho : o.op = .call { callee := .builtin .append, args := #[s, x], argTypes := #[57, 57] }) (xs : List (List Int)) (y : List Int) {g u : Nat} {vy : Value}
  (hs : a.eval s = v) (hx : a.eval x = .slice (some ⟨g, 0, none⟩) 1 1) (HO : krow.R 24 W w0.heap.size (fun k => own k = t) v xs) (hb : W.heap[g]? = some (.cells #[vy] 24 (0, 0))) (HY : Kd.R (Kd.int .i64) 2 W w0.heap.size (fun k => own k = u) vy y) (htu : t ≠ u) (HB : Below w0.heap.size w0 W) (hl : xs.length < 1048576)
  (h : ∀ v1 w1 own', krow.R 24 w1 w0.heap.size (fun k => own' k = t) v1 (xs ++ [y]) → Stp W w1 own own' (fun q => q = t ∨ q = u) → Below w0.heap.size w0 w1 → Kc (a.put o.dst v1) w1) :
  if Region.wanted o (yielded ops a.tmps) = true then Oper.wp Try.prog o a W Kc Q else Kc (a.put o.dst undef) W := by
 refine Kd.R_append_rows_step krow (Rr := fun x cs => krow.M W w0.heap.size (fun k => own k = u) x cs) (w0 := w0) w0.heap.size hw s x 57 24 (.slice none 0 0) 24 ho Try.underlying57 infoL rfl (by decide) (by omega) v xs [y] (some ⟨g, 0, none⟩) 1 1 (fun k => own k = t ∨ own k = u ∨ W.heap.size ≤ k) (fun k => own k = u) hs hx (Kd.R_mono HO (fun _ h => .inl h)) (one_row hb ⟨vy, rfl, HY⟩) (fun _ _ h => h) (fun k hk => ⟨.inr (.inl hk), fun e => htu ((HO.1 k e.symm).symm.trans hk)⟩) (fun _ h => .inr (.inr h)) HB HB.size (by omega) ?_
 intro v1 w1 h1 hb hg _
 obtain ⟨own', h2, h3⟩ := appended HO h1 hg
 exact h v1 w1 own' h2 h3 hb
theorem app_map (hgd : o.guard = none) (s x : Operand) (ho : o.op = .call { callee := .builtin .append, args := #[s, x], argTypes := #[58, 58] }) (xs : List Nat) (b : Nat) {g : Nat}
  (hs : a.eval s = v) (hx : a.eval x = .slice (some ⟨g, 0, none⟩) 1 1) (HO : kmap.R 73 W w0.heap.size (fun k => own k = t) v xs) (hb : W.heap[g]? = some (.cells #[.map (some b)] 73 (0, 0))) (HB : Below w0.heap.size w0 W) (hl : xs.length < 1048576)
  (h : ∀ v1 w1 own', kmap.R 73 w1 w0.heap.size (fun k => own' k = t) v1 (xs ++ [b]) → Stp W w1 own own' (fun q => q = t) → Below w0.heap.size w0 w1 → wpList Try.prog ops Q rest (a.put o.dst v1) w1) :
  wpList Try.prog ops Q (o :: rest) a W := by
 refine Kd.R_append_rows kmap (Rr := fun x cs => cs = [.map (some x)]) (w0 := w0) w0.heap.size hgd s x 58 73 (.map none) 8 ho Try.underlying58 infoM rfl (by decide) (by omega) v xs [b] (some ⟨g, 0, none⟩) 1 1 (fun k => own k = t ∨ own k = t ∨ W.heap.size ≤ k) (fun _ => False) hs hx (Kd.R_mono HO (fun _ h => .inl h)) (one_row hb rfl) (fun _ _ h => h) (fun _ h => h.elim) (fun _ h => .inr (.inr h)) HB HB.size (by show _ * 8 ≤ _; omega) ?_
 intro v1 w1 h1 hb hg _
 obtain ⟨own', h2, h3⟩ := appended HO h1 hg
 exact h v1 w1 own' h2 ⟨h3.size, fun k hk hn => h3.blk k hk (fun e => hn (e.elim id id)), fun k hk hn => h3.tag k hk (fun e => hn (e.elim id id))⟩ hb
theorem rows_at {xs : List (List Int)} {base : Nat} (h : krow.R 24 W base (fun k => own k = t) v xs) (i : Int) (h0 : 0 ≤ i) (h1 : i < xs.length) :
  ∃ g cv vk, v = .slice (some ⟨g, 0, none⟩) xs.length cv ∧ W.cell? ⟨g, i.toNat, none⟩ = some vk ∧ Kd.R (Kd.int .i64) 2 W base (fun k => own k = t) vk (rdL xs i) := by
 obtain ⟨g, cv, rfl, _⟩ := Kd.R_form h (by omega)
 obtain ⟨cs, hl, ⟨vk, rfl, hM⟩, hc, _⟩ := Kd.R_elem h ([] : List Int) i h0 h1
 refine ⟨g, cv, vk, rfl, ?_, Kd.R_mono hM (fun _ hk => hk.1)⟩
 have := hc 0 _ rfl
 simpa [Kd.slice] using this
theorem lit_ints (hgd : o.guard = none) {N : Tmp} (hd : o.dst = some N) (xs : List Int) (t : Nat)
  (hrun : (execOp a.eval o).run Try.prog W = .ok (.value (.slice (some ⟨W.heap.size, 0, none⟩) xs.length xs.length)) (W.alloc (.cells (nums .i64 xs).toArray 2 (0, 0)))) (HB : Below w0.heap.size w0 W) (hl : xs.length < 1048576)
  (h : ∀ v1 w1 own', Kd.R (Kd.int .i64) 2 w1 w0.heap.size (fun k => own' k = t) v1 xs → Stp W w1 own own' (fun _ => False) → Below w0.heap.size w0 w1 → wpList Try.prog ops Q rest (a.put o.dst v1) w1) :
  wpList Try.prog ops Q (o :: rest) a W := by
 refine Kd.R_lit (Kd.int .i64) (w0 := w0) w0.heap.size 2 hgd hd (xs := xs) (inner := nums .i64 xs) (ok := fun k => W.heap.size ≤ k) (okp := fun _ => False) hrun (Kd.reps_scalar (enc := Value.int .i64) xs) (fun _ h => h.elim) (Nat.le_refl _) HB HB.size (by omega) ?_
 intro v1 w1 h1 hb hg _
 refine h v1 w1 (fun k => if k < W.heap.size then own k else t) (Kd.R_mono (Kd.R_bound h1) (fun k hk => if_neg (by have := hk.1; omega))) ⟨hg.size, fun k hk _ => hg.block k hk (by simp), fun k hk _ => if_pos hk⟩ hb
theorem lit_one (hgd : o.guard = none) {N : Tmp} (hd : o.dst = some N) (u : Value) (e : Nat)
  (hrun : (execOp a.eval o).run Try.prog W = .ok (.value (.slice (some ⟨W.heap.size, 0, none⟩) 1 1)) (W.alloc (.cells #[u] e (0, 0))))
  (h : ∀ g w1, g = W.heap.size → w1.heap[g]? = some (.cells #[u] e (0, 0)) → Below W.heap.size W w1 → wpList Try.prog ops Q rest (a.put o.dst (.slice (some ⟨g, 0, none⟩) 1 1)) w1) :
  wpList Try.prog ops Q (o :: rest) a W := Kd.event_run hgd hrun (h _ _ rfl (blk_new W _) (below_alloc (Below.refl _ _) _))
theorem map_new (hgd : o.guard = none) {N : Tmp} (hd : o.dst = some N) (hrun : (execOp a.eval o).run Try.prog W = .ok (.value (.map (some W.heap.size))) (W.alloc (.map #[] 0)))
  (h : ∀ mb w1, mb = W.heap.size → MapSet w1 mb [] → Below W.heap.size W w1 → wpList Try.prog ops Q rest (a.put o.dst (.map (some mb))) w1) :
  wpList Try.prog ops Q (o :: rest) a W := Kd.event_run hgd hrun (h _ _ rfl (MapSet.made W) (below_alloc (Below.refl _ _) _))
end
section
variable {W w1 : World} {own own' : Tags} {base X : Nat} {pv nv fv lv wv : Value} {N : NetV} {ms : List Nat}
theorem NetW.set4 (h : NetW W base X own pv nv fv lv wv N ms) (hs : Stp W w1 own own' (fun q => q = 4)) {wv' : Value} {b : Nat} (hw : kmap.R 73 w1 base (fun k => own' k = 4) wv' (ms ++ [b])) (hm : MapSet W b []) (hb : own b = 8) (hbb : base ≤ b) (hn : b ∉ ms) :
  NetW (w1.setCell ⟨X, 4, none⟩ wv') base X own' pv nv fv lv wv' { N with fol := N.fol ++ [[]] } (ms ++ [b]) := by
 have hx := hs.block h.x (by rw [h.xo]; decide)
 have hst : Stp w1 (w1.setCell ⟨X, 4, none⟩ wv') own' own' (fun q => q = 7) := ⟨by simp [World.setCell], fun k hk hn => Below.heap_setCell w1 _ _ k (fun e => hn (by rw [show k = X from e, hx.2, h.xo])), fun _ _ _ => rfl⟩
 refine ⟨(blk_set hx.1 4 wv').trans rfl, h.xb, hx.2.trans h.xo, hst.row (hs.row h.n (by decide)) (by decide), hst.row (hs.row h.f (by decide)) (by decide), hst.row (hs.row h.l (by decide)) (by decide), hst.row hw (by decide), ?_⟩
 refine hst.maps ?_ (by decide)
 have h8 := hs.maps h.m (by decide)
 refine ⟨by rw [List.length_append, List.length_append, h8.len]; rfl, fun i c l hc hl => ?_, fun c hc => ?_, fun c hc => ?_, List.nodup_append.2 ⟨h8.nodup, by simp, fun p hp q hq e => ?_⟩⟩
 ·by_cases hi : i < ms.length
  ·rw [List.getElem?_append_left hi] at hc
   rw [List.getElem?_append_left (by rw [← h8.len]; exact hi)] at hl
   exact h8.at_ i c l hc hl
  ·have hi' : i < (ms ++ [b]).length := (List.getElem?_eq_some_iff.1 hc).1
   rw [List.length_append, List.length_singleton] at hi'
   have e : i = ms.length := by omega
   subst e
   rw [List.getElem?_append_right (Nat.le_refl _), Nat.sub_self] at hc
   rw [h8.len, List.getElem?_append_right (Nat.le_refl _), Nat.sub_self] at hl
   obtain rfl : b = c := by simpa using hc
   obtain rfl : [] = l := by simpa using hl
   exact hm.step (hs.blk b hm.lt (by rw [hb]; decide))
 ·rcases List.mem_append.1 hc with hc | hc
  ·exact h8.own_ c hc
  ·rw [List.mem_singleton.1 hc]; exact (hs.tag b hm.lt (by rw [hb]; decide)).trans hb
 ·rcases List.mem_append.1 hc with hc | hc
  ·exact h8.lo c hc
  ·rw [List.mem_singleton.1 hc]; exact hbb
 ·rw [List.mem_singleton.1 hq] at e
  exact hn (e ▸ hp)
theorem Stp.set7 (hx : own X = 7) (j : Nat) (u : Value) : Stp W (W.setCell ⟨X, j, none⟩ u) own own (fun q => q = 7) := ⟨by simp [World.setCell], fun k hk hn => Below.heap_setCell W _ _ k (fun e => hn (by rw [show k = X from e, hx])), fun _ _ _ => rfl⟩
theorem pos_f (n : PN) : impl_PNode_isPosition.f n.f0 n.f1 n.f2 n.f3 = some (posB n) := by
 unfold impl_PNode_isPosition.f posB
 by_cases h : n.f0 = 1
 ·rw [if_pos h, h]; rfl
 ·rw [if_neg h, beq_eq_false_iff_ne.2 h]; rfl
theorem opt_f (n : PN) : impl_PNode_isOptional.f n.f0 n.f1 n.f2 n.f3 = some (optB n) := by
 unfold impl_PNode_isOptional.f optB
 by_cases h : n.f3 = 1
 ·rw [if_pos h, h]; rfl
 ·rw [if_neg h, beq_eq_false_iff_ne.2 h]; rfl
theorem oft_f (n : PN) : impl_PNode_isOften.f n.f0 n.f1 n.f2 n.f3 = some (oftB n) := by
 unfold impl_PNode_isOften.f oftB
 by_cases h : n.f3 = 2
 ·rw [if_pos h, h]; rfl
 ·rw [if_neg h, beq_eq_false_iff_ne.2 h]; rfl
theorem fresh_tag (W : World) (own : Tags) {b : Nat} (hb : W.heap.size ≤ b) (t : Nat) : ∃ own' : Tags, own' b = t ∧ ∀ k, k < W.heap.size → own' k = own k :=
 ⟨fun k => if k = b then t else own k, if_pos rfl, fun k hk => if_neg (by omega)⟩
theorem Stp.fresh (hb : Below W.heap.size W w1) (ho : ∀ k, k < W.heap.size → own' k = own k) (S : Nat → Prop) : Stp W w1 own own' S := ⟨hb.size, fun k hk _ => hb.block k hk, fun k hk _ => ho k hk⟩
theorem NetW.new (h : NetW W base X own pv nv fv lv wv N ms) (hb : Below W.heap.size W w1) (ho : ∀ k, k < W.heap.size → own' k = own k) : NetW w1 base X own' pv nv fv lv wv N ms :=
 (Stp.net (S := fun _ => False) ⟨hb.size, fun k hk _ => hb.block k hk, fun k hk _ => ho k hk⟩ h (fun _ _ h => h))
theorem Stp.cell {S : Nat → Prop} (h : Stp W w1 own own' S) {g j : Nat} {v : Value} (hc : W.cell? ⟨g, j, none⟩ = some v) (hg : ¬ S (own g)) : w1.cell? ⟨g, j, none⟩ = some v := by
 have e := h.blk g (World.block_lt_of_cell? W _ hc) hg
 simpa [World.cell?, e] using hc
theorem NetW.drew (h : NetW W base X own pv nv fv lv wv N ms) : NetW W.drew base X own pv nv fv lv wv N ms := h.below (below_drew (Below.refl _ _))
theorem NetW.kid (h : NetW W base X own pv nv fv lv wv N ms) (k : Int) (h0 : 0 ≤ k) (h1 : k < N.nul.length) (h2 : k < N.fst.length) (h3 : k < N.lst.length) :
  ∃ gn cn gf cf Af af gl cl Al al, nv = .slice (some ⟨gn, 0, none⟩) N.nul.length cn ∧ W.cell? ⟨gn, k.toNat, none⟩ = some (.bool (rdOf false N.nul k)) ∧ own gn = 1 ∧
   fv = .slice (some ⟨gf, 0, none⟩) N.fst.length cf ∧ W.cell? ⟨gf, k.toNat, none⟩ = some (.slice Af (rdL N.fst k).length af) ∧ own gf = 2 ∧ Kd.R (Kd.int .i64) 2 W base (fun q => own q = 2) (.slice Af (rdL N.fst k).length af) (rdL N.fst k) ∧
   lv = .slice (some ⟨gl, 0, none⟩) N.lst.length cl ∧ W.cell? ⟨gl, k.toNat, none⟩ = some (.slice Al (rdL N.lst k).length al) ∧ own gl = 3 ∧ Kd.R (Kd.int .i64) 2 W base (fun q => own q = 3) (.slice Al (rdL N.lst k).length al) (rdL N.lst k) := by
 obtain ⟨gn, cn, e1, _⟩ := Kd.R_form h.n (by omega)
 have hn := h.n
 rw [e1] at hn
 have hnc := (Kd.R_cell (enc := Value.bool) (h1 := fun _ => rfl) false hn k h0 h1).1
 obtain ⟨gf, cf, vk, e2, hc2, hR2⟩ := rows_at h.f k h0 h2
 obtain ⟨gl, cl, vk3, e3, hc3, hR3⟩ := rows_at h.l k h0 h3
 obtain ⟨Af, af, rfl⟩ := Kd.R_slice hR2
 obtain ⟨Al, al, rfl⟩ := Kd.R_slice hR3
 exact ⟨gn, cn, gf, cf, Af, af, gl, cl, Al, al, e1, hnc, hn.1 gn rfl, e2, hc2, (by have := h.f.1; rw [e2] at this; exact this gf rfl), hR2, e3, hc3, (by have := h.l.1; rw [e3] at this; exact this gl rfl), hR3⟩
theorem fresh_row {α : Type} {d : Kd α} {e : Nat} {v : Value} {xs : List α} (h : d.R e w1 W.heap.size (fun _ => True) v xs) (hb : Below W.heap.size W w1) (hbase : base ≤ W.heap.size) (own : Tags) (t : Nat) :
  ∃ own' : Tags, d.R e w1 base (fun k => own' k = t) v xs ∧ Stp W w1 own own' (fun _ => False) :=
 ⟨fun k => if k < W.heap.size then own k else t, Kd.R_lower (Kd.R_mono (Kd.R_bound h) (fun k hk => if_neg (by have := hk.2.1; omega))) hbase, hb.size, fun k hk _ => hb.block k hk, fun k hk _ => if_pos hk⟩
theorem Stp.of_kept {S : Nat → Prop} (h : Kept W w1 (fun k => S (own k))) : Stp W w1 own own S := ⟨h.1, fun k hk hn => h.2 k hk hn, fun _ _ _ => rfl⟩
theorem Stp.tagc {S : Nat → Prop} (h : Stp W w1 own own' S) {g j : Nat} {v : Value} (hc : W.cell? ⟨g, j, none⟩ = some v) (hg : ¬ S (own g)) : own' g = own g := h.tag g (World.block_lt_of_cell? W _ hc) hg
theorem mine5 (t : Nat) (h : Mine t) : ¬ t = 5 := by unfold Mine at h; omega
theorem mine6 (t : Nat) (h : Mine t) : ¬ t = 6 := by unfold Mine at h; omega
end
def NetPost (w : World) (pv : Value) (Nf : NetV) (e : Ending) (w' : World) : Prop := ∃ X own nv fv lv wv ms, e = .returned (.pointer (some ⟨X, 0, none⟩)) ∧ NetW w' w.heap.size X own pv nv fv lv wv Nf ms ∧ Below w.heap.size w w'
set_option maxHeartbeats 1000000 in
set_option maxRecDepth 100000 in
theorem clone_ints (A0 : Option Addr) (c0 : Nat) (l0 : List Int) (w : World) (hr0 : Kd.C (Kd.int .i64) w A0 l0.length l0) (hc0 : l0.length ≤ c0) (c : l0.length < 8796093022208) :
  Calls Try.prog 42 #[.slice A0 l0.length c0] w fun e w' => ∃ v0_ : Value, e = .returned (v0_) ∧ Kd.R (Kd.int .i64) 2 w' w.heap.size (fun _ => True) v0_ l0 ∧ Below w.heap.size w w' := by
 have HL := Aside0.mk c
 have HR := Aside0.mk hr0
 have HB := Aside0.mk (Below.refl w.heap.size w)
 clear c
 cases A0 with
 | none =>
  have hz : l0 = [] := by
   cases l0 with
   | nil => rfl
   | cons x t =>
    obtain ⟨ad, e, _⟩ := hr0.2.2 (by simp)
    cases e
  subst hz
  clear hr0
  have he := fun w' : World => Lib.run_eql_slice_nil w' 24 2 none 0 c0 0 0 Try.underlying24
  simp only [List.length_nil]
  go_enter Try.func42, Try.ntmps42
  go_wp2
  go_ret
  exact ⟨_, rfl, Kd.R_nil _ _ _ _ _, by repeat (first | (with_reducible first | exact HB.out | apply below_alloc | apply pw_below_drewN | apply below_drew1) | exact HB.out)⟩
 | some ad =>
  clear hr0
  have he := fun w' : World => Lib.run_eql_slice_nil w' 24 2 (some ad) l0.length c0 0 0 Try.underlying24
  go_enter Try.func42, Try.ntmps42
  go_wp2_with (first | ((with_reducible refine gate_dst (N := 5) rfl ?_); refine Kd.R_lit (Kd.int .i64) _ 2 ?hg (N := 5) ?hd (xs := ([] : List Int)) (inner := []) (ok := fun _ => True) (okp := fun _ => True) ?hr ?hp (fun _ hk => hk) trivial (Below.refl _ _) (Nat.le_refl _) (by simp) ?_; (case hd => rfl); (case hg => rfl); (case hr => first | (go_simp; done) | (go_simp; rfl)); (case hp => exact (Reps.none _ _)); intro v109 w3 ho4 hb hg_ hnew_; clear hg_ hnew_; have n0_ := Aside0.mk (Kd.R_lower ho4 (below_size (by repeat (first | (with_reducible first | exact HB.out | apply below_alloc | apply pw_below_drewN | apply below_drew1) | exact HB.out)))); have n1_ := Aside0.mk (below_step (by repeat (first | (with_reducible first | exact HB.out | apply below_alloc | apply pw_below_drewN | apply below_drew1) | exact HB.out)) hb); clear HB; have HO := n0_; have HB := n1_; clear n0_ n1_; clear hb ho4) | ((with_reducible refine gate_builtin (b := .append) (xs := #[.tmp 5, .tmp 6]) rfl ?_); at_builtin; refine Kd.R_append_rows (Kd.int .i64) (w0 := w) w.heap.size rfl (.tmp 5) (.tmp 6) 24 2 (.int .i64 0) 8 rfl Try.underlying24 info2 rfl (by decide) (by omega) v109 [] l0 _ _ _ (fun _ => True) (fun _ => False) rfl rfl ?aO ?aR (fun _ _ h => h) (fun _ h => h.elim) (fun _ _ => trivial) ?aB ?aS ?aL ?_; (case aO => exact HO.out); (case aR => exact Kd.C_below HR.out HB.out); (case aB => exact (by repeat (first | (with_reducible first | exact HB.out | apply below_alloc | apply pw_below_drewN | apply below_drew1) | exact HB.out))); (case aS => exact HB.out.size); (case aL => have := HL.out; simp; omega); intro v1 w11 ho hb hg hat; have n0_ := Aside0.mk hb; have n1_ := Aside0.mk ho; clear HB HO; have HB := n0_; have HO := n1_; clear n0_ n1_ ho hb hg hat))
  go_ret
  exact ⟨_, rfl, HO.out, by repeat (first | (with_reducible first | exact HB.out | apply below_alloc | apply pw_below_drewN | apply below_drew1) | exact HB.out)⟩
structure Fix where
 w0 : World
 X : Nat
 gb : Nat
 pv : Value
 nv : Value
 fv : Value
 lv : Value
 wv : Value
 vf : Value
 vl : Value
 ms : List Nat
 N : NetV
 nb : Bool
 fi : List Int
 la : List Int
 bx : Obj
structure S23 (F : Fix) (e12 e13 e19 e20 e26 e27 e30 e33 e36 : Bool) (g12 g19 g26 : Nat) (v13 v20 v27 : Value) (own : Tags) (w : World) : Prop where
 x : w.heap[F.X]? = some (.cells #[F.pv, bif e30 then v13 else F.nv, bif e33 then v20 else F.fv, bif e36 then v27 else F.lv, F.wv] 60 (0, 0))
 xb : F.w0.heap.size ≤ F.X
 xo : own F.X = 7
 n : Kd.bool.R 4 w F.w0.heap.size (fun k => own k = 1) (bif e13 then v13 else F.nv) (bif e13 then F.N.nul ++ [F.nb] else F.N.nul)
 f : krow.R 24 w F.w0.heap.size (fun k => own k = 2) (bif e20 then v20 else F.fv) (bif e20 then F.N.fst ++ [F.fi] else F.N.fst)
 l : krow.R 24 w F.w0.heap.size (fun k => own k = 3) (bif e27 then v27 else F.lv) (bif e27 then F.N.lst ++ [F.la] else F.N.lst)
 wv_ : kmap.R 73 w F.w0.heap.size (fun k => own k = 4) F.wv F.ms
 m : MapsW w F.w0.heap.size own F.ms F.N.fol
 rf : e20 = false → Kd.R (Kd.int .i64) 2 w F.w0.heap.size (fun k => own k = 5) F.vf F.fi
 rl : e27 = false → Kd.R (Kd.int .i64) 2 w F.w0.heap.size (fun k => own k = 6) F.vl F.la
 k12 : e12 = true → e13 = false → w.heap[g12]? = some (.cells #[.bool F.nb] 4 (0, 0)) ∧ own g12 = 0
 k19 : e19 = true → e20 = false → w.heap[g19]? = some (.cells #[F.vf] 24 (0, 0)) ∧ own g19 = 0
 k26 : e26 = true → e27 = false → w.heap[g26]? = some (.cells #[F.vl] 24 (0, 0)) ∧ own g26 = 0
 box : w.heap[F.gb]? = some F.bx
 bo : own F.gb = 0
 low : Below F.w0.heap.size F.w0 w
section
variable {F : Fix} {e12 e13 e19 e20 e26 e27 e30 e33 e36 : Bool} {g12 g19 g26 : Nat} {v13 v20 v27 : Value} {own own' : Tags} {w w1 : World}
theorem S23.net (h : S23 F true true true true true true true true true g12 g19 g26 v13 v20 v27 own w) : NetW w F.w0.heap.size F.X own F.pv v13 v20 v27 F.wv ⟨F.N.nul ++ [F.nb], F.N.fst ++ [F.fi], F.N.lst ++ [F.la], F.N.fol⟩ F.ms :=
 ⟨h.x, h.xb, h.xo, h.n, h.f, h.l, h.wv_, h.m⟩
theorem S23.quiet (h : S23 F e12 e13 e19 e20 e26 e27 e30 e33 e36 g12 g19 g26 v13 v20 v27 own w) (st : Stp w w1 own own' (fun _ => False)) (hb : Below w.heap.size w w1) : S23 F e12 e13 e19 e20 e26 e27 e30 e33 e36 g12 g19 g26 v13 v20 v27 own' w1 :=
 ⟨(st.block h.x (fun h => h)).1, h.xb, (st.block h.x (fun h => h)).2.trans h.xo, st.row h.n (fun h => h), st.row h.f (fun h => h), st.row h.l (fun h => h), st.row h.wv_ (fun h => h), st.maps h.m (fun h => h), fun e => st.row (h.rf e) (fun h => h), fun e => st.row (h.rl e) (fun h => h),
  fun e e' => ⟨(st.block (h.k12 e e').1 (fun h => h)).1, (st.block (h.k12 e e').1 (fun h => h)).2.trans (h.k12 e e').2⟩, fun e e' => ⟨(st.block (h.k19 e e').1 (fun h => h)).1, (st.block (h.k19 e e').1 (fun h => h)).2.trans (h.k19 e e').2⟩, fun e e' => ⟨(st.block (h.k26 e e').1 (fun h => h)).1, (st.block (h.k26 e e').1 (fun h => h)).2.trans (h.k26 e e').2⟩,
  (st.block h.box (fun h => h)).1, (st.block h.box (fun h => h)).2.trans h.bo, below_step h.low hb⟩
theorem S23.b12 (h : S23 F e12 e13 e19 e20 e26 e27 e30 e33 e36 g12 g19 g26 v13 v20 v27 own w) {g : Nat} (hg : g = w.heap.size) (hk : w1.heap[g]? = some (.cells #[.bool F.nb] 4 (0, 0))) (hb : Below w.heap.size w w1) :
  ∃ own', S23 F true e13 e19 e20 e26 e27 e30 e33 e36 g g19 g26 v13 v20 v27 own' w1 := by
 obtain ⟨own', h8, ho⟩ := fresh_tag w own (Nat.le_of_eq hg.symm) 0
 have q := h.quiet (Stp.fresh hb ho _) hb
 exact ⟨own', { q with k12 := fun _ _ => ⟨hk, h8⟩ }⟩
theorem S23.b19 (h : S23 F e12 e13 e19 e20 e26 e27 e30 e33 e36 g12 g19 g26 v13 v20 v27 own w) {g : Nat} (hg : g = w.heap.size) (hk : w1.heap[g]? = some (.cells #[F.vf] 24 (0, 0))) (hb : Below w.heap.size w w1) :
  ∃ own', S23 F e12 e13 true e20 e26 e27 e30 e33 e36 g12 g g26 v13 v20 v27 own' w1 := by
 obtain ⟨own', h8, ho⟩ := fresh_tag w own (Nat.le_of_eq hg.symm) 0
 have q := h.quiet (Stp.fresh hb ho _) hb
 exact ⟨own', { q with k19 := fun _ _ => ⟨hk, h8⟩ }⟩
theorem S23.b26 (h : S23 F e12 e13 e19 e20 e26 e27 e30 e33 e36 g12 g19 g26 v13 v20 v27 own w) {g : Nat} (hg : g = w.heap.size) (hk : w1.heap[g]? = some (.cells #[F.vl] 24 (0, 0))) (hb : Below w.heap.size w w1) :
  ∃ own', S23 F e12 e13 e19 e20 true e27 e30 e33 e36 g12 g19 g v13 v20 v27 own' w1 := by
 obtain ⟨own', h8, ho⟩ := fresh_tag w own (Nat.le_of_eq hg.symm) 0
 have q := h.quiet (Stp.fresh hb ho _) hb
 exact ⟨own', { q with k26 := fun _ _ => ⟨hk, h8⟩ }⟩
theorem S23.a13 (h : S23 F e12 false e19 e20 e26 e27 false e33 e36 g12 g19 g26 v13 v20 v27 own w) {v : Value} (hv : Kd.bool.R 4 w1 F.w0.heap.size (fun k => own' k = 1) v (F.N.nul ++ [F.nb])) (st : Stp w w1 own own' (fun q => q = 1)) (hb : Below F.w0.heap.size F.w0 w1) :
  S23 F e12 true e19 e20 e26 e27 false e33 e36 g12 g19 g26 v v20 v27 own' w1 :=
 ⟨(st.block h.x (by rw [h.xo]; decide)).1, h.xb, (st.block h.x (by rw [h.xo]; decide)).2.trans h.xo, hv, st.row h.f (by decide), st.row h.l (by decide), st.row h.wv_ (by decide), st.maps h.m (by decide), fun e => st.row (h.rf e) (by decide), fun e => st.row (h.rl e) (by decide),
  fun e e' => (by cases e'), fun e e' => ⟨(st.block (h.k19 e e').1 (by rw [(h.k19 e e').2]; decide)).1, (st.block (h.k19 e e').1 (by rw [(h.k19 e e').2]; decide)).2.trans (h.k19 e e').2⟩, fun e e' => ⟨(st.block (h.k26 e e').1 (by rw [(h.k26 e e').2]; decide)).1, (st.block (h.k26 e e').1 (by rw [(h.k26 e e').2]; decide)).2.trans (h.k26 e e').2⟩,
  (st.block h.box (by rw [h.bo]; decide)).1, (st.block h.box (by rw [h.bo]; decide)).2.trans h.bo, hb⟩
theorem S23.a20 (h : S23 F e12 e13 e19 false e26 e27 e30 false e36 g12 g19 g26 v13 v20 v27 own w) {v : Value} (hv : krow.R 24 w1 F.w0.heap.size (fun k => own' k = 2) v (F.N.fst ++ [F.fi])) (st : Stp w w1 own own' (fun q => q = 2 ∨ q = 5)) (hb : Below F.w0.heap.size F.w0 w1) :
  S23 F e12 e13 e19 true e26 e27 e30 false e36 g12 g19 g26 v13 v v27 own' w1 :=
 ⟨(st.block h.x (by rw [h.xo]; decide)).1, h.xb, (st.block h.x (by rw [h.xo]; decide)).2.trans h.xo, st.row h.n (by decide), hv, st.row h.l (by decide), st.row h.wv_ (by decide), st.maps h.m (by decide), fun e => (by cases e), fun e => st.row (h.rl e) (by decide),
  fun e e' => ⟨(st.block (h.k12 e e').1 (by rw [(h.k12 e e').2]; decide)).1, (st.block (h.k12 e e').1 (by rw [(h.k12 e e').2]; decide)).2.trans (h.k12 e e').2⟩, fun e e' => (by cases e'), fun e e' => ⟨(st.block (h.k26 e e').1 (by rw [(h.k26 e e').2]; decide)).1, (st.block (h.k26 e e').1 (by rw [(h.k26 e e').2]; decide)).2.trans (h.k26 e e').2⟩,
  (st.block h.box (by rw [h.bo]; decide)).1, (st.block h.box (by rw [h.bo]; decide)).2.trans h.bo, hb⟩
theorem S23.a27 (h : S23 F e12 e13 e19 e20 e26 false e30 e33 false g12 g19 g26 v13 v20 v27 own w) {v : Value} (hv : krow.R 24 w1 F.w0.heap.size (fun k => own' k = 3) v (F.N.lst ++ [F.la])) (st : Stp w w1 own own' (fun q => q = 3 ∨ q = 6)) (hb : Below F.w0.heap.size F.w0 w1) :
  S23 F e12 e13 e19 e20 e26 true e30 e33 false g12 g19 g26 v13 v20 v own' w1 :=
 ⟨(st.block h.x (by rw [h.xo]; decide)).1, h.xb, (st.block h.x (by rw [h.xo]; decide)).2.trans h.xo, st.row h.n (by decide), st.row h.f (by decide), hv, st.row h.wv_ (by decide), st.maps h.m (by decide), fun e => st.row (h.rf e) (by decide), fun e => (by cases e),
  fun e e' => ⟨(st.block (h.k12 e e').1 (by rw [(h.k12 e e').2]; decide)).1, (st.block (h.k12 e e').1 (by rw [(h.k12 e e').2]; decide)).2.trans (h.k12 e e').2⟩, fun e e' => ⟨(st.block (h.k19 e e').1 (by rw [(h.k19 e e').2]; decide)).1, (st.block (h.k19 e e').1 (by rw [(h.k19 e e').2]; decide)).2.trans (h.k19 e e').2⟩, fun e e' => (by cases e'),
  (st.block h.box (by rw [h.bo]; decide)).1, (st.block h.box (by rw [h.bo]; decide)).2.trans h.bo, hb⟩
theorem S23.put (h : S23 F e12 e13 e19 e20 e26 e27 e30 e33 e36 g12 g19 g26 v13 v20 v27 own w) {e30' e33' e36' : Bool} (j : Nat) (u : Value)
  (hx : (w.setCell ⟨F.X, j, none⟩ u).heap[F.X]? = some (.cells #[F.pv, bif e30' then v13 else F.nv, bif e33' then v20 else F.fv, bif e36' then v27 else F.lv, F.wv] 60 (0, 0))) :
  S23 F e12 e13 e19 e20 e26 e27 e30' e33' e36' g12 g19 g26 v13 v20 v27 own (w.setCell ⟨F.X, j, none⟩ u) := by
 have st := Stp.set7 (W := w) h.xo j u
 exact ⟨hx, h.xb, h.xo, st.row h.n (by decide), st.row h.f (by decide), st.row h.l (by decide), st.row h.wv_ (by decide), st.maps h.m (by decide), fun e => st.row (h.rf e) (by decide), fun e => st.row (h.rl e) (by decide),
  fun e e' => ⟨(st.block (h.k12 e e').1 (by rw [(h.k12 e e').2]; decide)).1, (h.k12 e e').2⟩, fun e e' => ⟨(st.block (h.k19 e e').1 (by rw [(h.k19 e e').2]; decide)).1, (h.k19 e e').2⟩, fun e e' => ⟨(st.block (h.k26 e e').1 (by rw [(h.k26 e e').2]; decide)).1, (h.k26 e e').2⟩,
  (st.block h.box (by rw [h.bo]; decide)).1, h.bo, below_set h.low h.xb⟩
theorem S23.p30 (h : S23 F e12 e13 e19 e20 e26 e27 false e33 e36 g12 g19 g26 v13 v20 v27 own w) : S23 F e12 e13 e19 e20 e26 e27 true e33 e36 g12 g19 g26 v13 v20 v27 own (w.setCell ⟨F.X, 1, none⟩ v13) := h.put 1 v13 ((blk_set h.x 1 v13).trans rfl)
theorem S23.p33 (h : S23 F e12 e13 e19 e20 e26 e27 e30 false e36 g12 g19 g26 v13 v20 v27 own w) : S23 F e12 e13 e19 e20 e26 e27 e30 true e36 g12 g19 g26 v13 v20 v27 own (w.setCell ⟨F.X, 2, none⟩ v20) := h.put 2 v20 ((blk_set h.x 2 v20).trans rfl)
theorem S23.p36 (h : S23 F e12 e13 e19 e20 e26 e27 e30 e33 false g12 g19 g26 v13 v20 v27 own w) : S23 F e12 e13 e19 e20 e26 e27 e30 e33 true g12 g19 g26 v13 v20 v27 own (w.setCell ⟨F.X, 3, none⟩ v27) := h.put 3 v27 ((blk_set h.x 3 v27).trans rfl)
theorem S23.cell (h : S23 F e12 e13 e19 e20 e26 e27 e30 e33 e36 g12 g19 g26 v13 v20 v27 own w) :
  w.cell? ⟨F.X, 1, none⟩ = some (bif e30 then v13 else F.nv) ∧ w.cell? ⟨F.X, 2, none⟩ = some (bif e33 then v20 else F.fv) ∧ w.cell? ⟨F.X, 3, none⟩ = some (bif e36 then v27 else F.lv) ∧ ∀ j, w.frozen? ⟨F.X, j, none⟩ = false :=
 ⟨(blk_cell h.x 1).trans rfl, (blk_cell h.x 2).trans rfl, (blk_cell h.x 3).trans rfl, blk_frozen h.x⟩
end
end Go.Proofs.Ytejkkdjfiebmfaa.L
