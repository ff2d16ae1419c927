/- Words and contracts for the row RowFnExactMatches: what the Go functions answer that it calls; printed by programs of the kit and of this session, and merged. -/
import Derived.Test.YtilmhfkbpnejeaaDoorQm3
import Derived.Lib.SlBy
import Derived.Lib.Hide
import Derived.Outline
import Derived.Shelf.Abstract
import Derived.Shelf.Unicode.DecodeSlow
import Derived.Shelf.Unicode.ValidAny
import Derived.Test.YtilmhfkbpnejeaaDoorProg
import Derived.Lib.OthersKept
import Derived.Sort.Walk0
namespace Go.Proofs.YtilmhfkbpnejeaaDoor.L
open Go.RowKit Go.Proofs.YtilmhfkbpnejeaaDoorW.PrintWords Go.Proofs.YtilmhfkbpnejeaaDoorW.PrintLast Go.Proofs.YtilmhfkbpnejeaaDoorW.PrintMore
set_option linter.unusedVariables false
set_option linter.unusedSimpArgs false

def rngP (r : Int) (y : S100) : Bool := if y.f0 ≤ r then decide (r ≤ y.f1) else false
def impl_ClassHas.f (k : Nat) (a0_0 : Int) (a0_1 : Bool) (l0_2 : List (S100)) (a0_3 : Int) (a0_4 : Int) (a0_5 : Int) (a0_6 : Int) (a1 : Int) : Option (Bool) :=
  if a0_0 = 2 then ((impl_RNode_fits.f k a0_0 a0_1 l0_2 a0_3 a0_4 a0_5 a0_6).bind fun t => if t = true then ((impl_isRune.f a1).bind fun u => if u = true then some (l0_2.any (rngP a1) != a0_1) else some false) else some false) else some false
set_option maxHeartbeats 1000000 in
theorem has_one (r : Int) (y : S100) (g : Nat) (w : World) (hb : w.heap[g]? = some (.cells #[.int .i64 r] 2 (0, 0))) :
    Calls Tryd.prog 141 #[.agg #[.int .i64 y.f0, .int .i64 y.f1], .pointer (some ⟨g, 0, none⟩)] w fun e w' => e = .returned (.bool (rngP r y)) ∧ Below w.heap.size w w' := by
  have HX := Aside0.mk hb
  clear hb
  have hin : impl_in.f r y.f0 y.f1 = some (rngP r y) := by
    unfold impl_in.f rngP
    split <;> rfl
  have HI := Aside0.mk hin
  clear hin
  go_enter Tryd.func141, Tryd.ntmps141
  go_wp2_with (first | ((with_reducible refine gate_dst (N := 2) rfl ?_); (try (refine gate_guard (by rfl) ?_; dsimp only)); refine box_event ?hg (N := 2) ?hd (cs := #[.int .i64 y.f0, .int .i64 y.f1]) (t := 100) ?hr ?_; (case hd => rfl); (case hg => rfl); (case hr => first | (go_simp; done) | (go_simp; rfl)); intro gb hg w13 hbox hb; have HB := Aside0.mk hb; have n1 := Aside0.mk (blk_below HX.out hb); have n2 := Aside0.mk hbox; clear HX; have HX := n1; clear n1 hb hg; have hy0 : w13.cell? ⟨gb, 0, none⟩ = some (.int .i64 y.f0) := (blk_cell n2.out 0).trans rfl; have hy1 : w13.cell? ⟨gb, 1, none⟩ = some (.int .i64 y.f1) := (blk_cell n2.out 1).trans rfl; have hx0 : w13.cell? ⟨g, 0, none⟩ = some (.int .i64 r) := (blk_cell HX.out 0).trans rfl; clear hbox) | (go_at_call 68; (with_reducible refine (impl_in.calls r y.f0 y.f1 (rngP r y) _ HI.out).mono ?_); rintro e w' ⟨rfl, ⟨nd, rfl⟩⟩))
  go_ret
  exact ⟨by first | rfl | (simp [*]; done), by repeat (first | (with_reducible first | exact HB.out | apply pw_below_drewN | apply below_drew1) | exact HB.out)⟩
theorem rngs_hit {α : Type} (p : α → Bool) (z : α) : ∀ (l : List α) (i k : Nat) (h : k < l.length), p l[k] = true → (∀ j (hj : j < k), p (l[j]'(by omega)) = false) → Lib.idxByFrom (fun _ y => p y) z l i = ((i + k : Nat) : Int)
  | x :: l, i, 0, h, h1, _ => by
    have : p x = true := h1
    simp [Lib.idxByFrom, this]
  | x :: l, i, k + 1, h, h1, h2 => by
    have h0 : p x = false := h2 0 (by omega)
    have := rngs_hit p z l (i + 1) k (by simpa using h) h1 (fun j hj => h2 (j + 1) (by omega))
    simp only [Lib.idxByFrom, h0, Bool.false_eq_true, if_false, this]
    omega
theorem rngs_miss {α : Type} (p : α → Bool) (z : α) : ∀ (l : List α) (i : Nat), (∀ j (hj : j < l.length), p l[j] = false) → Lib.idxByFrom (fun _ y => p y) z l i = -1
  | [], _, _ => rfl
  | x :: l, i, h => by
    have h0 : p x = false := h 0 (by simp)
    have := rngs_miss p z l (i + 1) (fun j hj => h (j + 1) (by simpa using hj))
    simp only [Lib.idxByFrom, h0, Bool.false_eq_true, if_false, this]
theorem rng_at {l : List (S100)} {kk : Nat} (h : kk < l.length) : rd_T100 l (kk : Int) = l[kk] := by
  unfold rd_T100
  simp [h]
set_option maxHeartbeats 1000000 in
theorem has_index (r : Int) (g : Nat) (A0 : Option Addr) (c : Nat) (l : List (S100)) (w : World) (hr : Kd.C k100 w A0 l.length l)
    (hb : w.heap[g]? = some (.cells #[.int .i64 r] 2 (0, 0))) :
    Calls Tryd.prog 156 #[.slice A0 l.length c, .func (.func 141) #[] #[.pointer (some ⟨g, 0, none⟩)]] w fun e w' => e = .returned (.int .i64 (Lib.idxBy (fun _ y => rngP r y) l z100)) ∧ Below w.heap.size w w' := by
  have eg := enters_of Tryd.func141 (by kernel_rfl) rfl
  have hbig : l.length ≤ 9223372036854775807 := Kd.C_max hr
  have HR := Lib.hid hr
  have HX := Lib.hid hb
  clear hr hb
  obtain ⟨n, hn⟩ : ∃ n, l.length = n := ⟨_, rfl⟩
  have HN := Lib.hid hn
  rw [hn] at hbig ⊢
  clear hn
  go_enter Tryd.func156, Tryd.ntmps156
  go_wp2
  go_loopg [5, 8] n (fun gg _ s8 wr => ∃ kk : Nat, kk ≤ n ∧ n - kk ≤ gg ∧ s8 = .int .i64 kk ∧ Aside (Below w.heap.size w wr) ∧ Aside (∀ j (hj : j < l.length), j < kk → rngP r l[j] = false))
  case atStart => exact ⟨0, Nat.zero_le _, by omega, rfl, (show Aside _ from Below.refl _ _), (show Aside _ from fun j hj h => absurd h (Nat.not_lt_zero _))⟩
  case round =>
    obtain ⟨kk, hkk, hg, rfl, hB, A⟩ := hrel
    by_cases hlt : kk < n
    · have hltz : (kk : Int) < (n : Int) := by omega
      have hll : kk < l.length := by have := HN.out; omega
      obtain ⟨ad, e, hc0, hc1⟩ := at_T100 (Kd.C_below HR.out hB.out) (kk : Int) (by omega) (by omega)
      rw [Int.toNat_natCast] at hc0 hc1
      have hcall := fun q => has_one r (rd_T100 l (kk : Int)) g (wr.drewN q) (blk_drewN (blk_below HX.out hB.out) q)
      have hcall0 := has_one r (rd_T100 l (kk : Int)) g wr (blk_below HX.out hB.out)
      cases e
      generalize hy : rd_T100 l (kk : Int) = y at hc0 hc1 hcall hcall0
      have B : Aside (rd_T100 l (kk : Int) = y) := hy
      have HL := Lib.hid hll
      clear hy hll
      cases hq : rngP r y with
      | true =>
        rw [hq] at hcall hcall0
        go_wp2_with (go_at_call 141; (first | refine hcall0.mono ?_ | refine (hcall _).mono ?_); rintro e w' ⟨rfl, hb⟩)
        go_ret
        refine ⟨?_, hB.out.trans (Below.mono hb hB.out.size)⟩
        have h1 := rngs_hit (rngP r) z100 l 0 kk HL.out (by rw [← rng_at HL.out, B.out]; exact hq) (fun j hj => A.out j (by have := HL.out; omega) hj)
        unfold Lib.idxBy
        rw [h1, Nat.zero_add]
        rfl
      | false =>
        rw [hq] at hcall hcall0
        go_wp2_with (go_at_call 141; (first | refine hcall0.mono ?_ | refine (hcall _).mono ?_); rintro e w' ⟨rfl, hb⟩)
        go_roundg (n - (kk + 1))
        case measure => omega
        case rel =>
          refine ⟨kk + 1, by omega, by omega, by go_num, (show Aside _ from hB.out.trans (Below.mono hb hB.out.size)), (show Aside _ from fun j hj h => ?_)⟩
          by_cases e : j = kk
          · subst e
            rw [← rng_at hj, B.out]; exact hq
          · exact A.out j hj (by omega)
    · have hltz : ¬ (kk : Int) < (n : Int) := by omega
      have : kk = n := by omega
      subst this
      go_wp2
      go_ret
      refine ⟨?_, hB.out⟩
      have h1 := rngs_miss (rngP r) z100 l 0 (fun j hj => A.out j hj (by have := HN.out; omega))
      unfold Lib.idxBy
      rw [h1]
      rfl
theorem has_any (r : Int) (g : Nat) (A0 : Option Addr) (c : Nat) (l : List (S100)) (w : World) (hr : Kd.C k100 w A0 l.length l)
    (hb : w.heap[g]? = some (.cells #[.int .i64 r] 2 (0, 0))) :
    Calls Tryd.prog 140 #[.slice A0 l.length c, .func (.func 141) #[] #[.pointer (some ⟨g, 0, none⟩)]] w fun e w' => e = .returned (.bool (l.any (rngP r))) ∧ Below w.heap.size w w' := by
  have HI := Lib.hid (has_index r g A0 c l w hr hb)
  have ez : l.any (rngP r) = decide (0 ≤ Lib.idxBy (fun _ y => rngP r y) l z100) := (Lib.idxBy_nonneg_iff (fun _ y => rngP r y) l z100).symm
  rw [ez]
  clear ez hr hb
  go_enter Tryd.func140, Tryd.ntmps140
  go_wp2_with (go_at_call 156; refine (HI.out).mono ?_; rintro e w' ⟨rfl, hb⟩)
  go_ret
  exact ⟨rfl, hb⟩
set_option maxHeartbeats 2000000 in
set_option maxRecDepth 100000 in
theorem impl_ClassHas.calls (k : Nat) (a0_0 : Int) (a0_1 : Bool) (A0_2 : Option Addr) (c0_2 : Nat) (l0_2 : List (S100)) (a0_3 : Int) (a0_4 : Int) (a0_5 : Int) (a0_6 : Int) (a1 : Int) (r : Bool) (w : World) (hr0_2 : Kd.C k100 w A0_2 l0_2.length l0_2) (hc0_2 : l0_2.length ≤ c0_2) (h : impl_ClassHas.f k a0_0 a0_1 l0_2 a0_3 a0_4 a0_5 a0_6 a1 = some r) :
    Calls Tryd.prog 112 #[.agg #[.int .i64 a0_0, .bool a0_1, .slice A0_2 l0_2.length c0_2, .int .i64 a0_3, .int .i64 a0_4, .int .i64 a0_5, .int .i64 a0_6], .int .i64 a1] w fun e w' => e = .returned (.bool r) ∧ Below w.heap.size w w' := by
  unfold impl_ClassHas.f at h
  have HB := Aside0.mk (Below.refl w.heap.size w)
  have HR := Aside0.mk hr0_2
  have HC := Aside0.mk hc0_2
  clear hr0_2 hc0_2
  by_cases c0 : a0_0 = 2
  · rw [if_pos c0] at h
    obtain ⟨t, ht, h⟩ := Option.bind_eq_some_iff.1 h
    have HT := Aside0.mk ht
    clear ht
    have c0b : (a0_0 == 2) = true := beq_iff_eq.mpr c0
    have c0n : (a0_0 != 2) = false := bne_eq_false_iff_eq.mpr c0
    have HK := Aside0.mk c0
    clear c0
    cases t with
    | false =>
      simp only [Bool.false_eq_true, if_false, Option.some.injEq] at h
      subst h
      go_enter Tryd.func112, Tryd.ntmps112
      go_wp2_with (first | ((with_reducible refine gate_dst (N := 2) rfl ?_); (try (refine gate_guard (by rfl) ?_; dsimp only)); refine box_event ?hg (N := 2) ?hd (cs := #[.int .i64 a0_0, .bool a0_1, .slice A0_2 l0_2.length c0_2, .int .i64 a0_3, .int .i64 a0_4, .int .i64 a0_5, .int .i64 a0_6]) (t := 93) ?hr ?_; (case hd => rfl); (case hg => rfl); (case hr => first | (go_simp; done) | (go_simp; rfl)); intro gb hg w13 hbox hb; have n0 := Aside0.mk (below_step (by repeat (first | (with_reducible first | exact HB.out | apply below_alloc | apply pw_below_drewN | apply below_drew1) | exact HB.out)) hb); have BK := Aside0.mk hbox; clear HB; have HB := n0; clear n0 hb hg; have hc0 : w13.cell? ⟨gb, 0, none⟩ = some (.int .i64 a0_0) := (blk_cell BK.out 0).trans rfl; have hc1 : w13.cell? ⟨gb, 1, none⟩ = some (.bool a0_1) := (blk_cell BK.out 1).trans rfl; have hc2 : w13.cell? ⟨gb, 2, none⟩ = some (.slice A0_2 l0_2.length c0_2) := (blk_cell BK.out 2).trans rfl; have hc3 : w13.cell? ⟨gb, 3, none⟩ = some (.int .i64 a0_3) := (blk_cell BK.out 3).trans rfl; have hc4 : w13.cell? ⟨gb, 4, none⟩ = some (.int .i64 a0_4) := (blk_cell BK.out 4).trans rfl; have hc5 : w13.cell? ⟨gb, 5, none⟩ = some (.int .i64 a0_5) := (blk_cell BK.out 5).trans rfl; have hc6 : w13.cell? ⟨gb, 6, none⟩ = some (.int .i64 a0_6) := (blk_cell BK.out 6).trans rfl; clear hbox) | ((with_reducible refine gate_dst (N := 3) rfl ?_); (try (refine gate_guard (by rfl) ?_; dsimp only)); refine box_event ?hg (N := 3) ?hd (cs := #[.int .i64 a1]) (t := 2) ?hr ?_; (case hd => rfl); (case hg => rfl); (case hr => first | (go_simp; done) | (go_simp; rfl)); intro gr hg w14 hbox hb; have n0 := Aside0.mk (below_step (by repeat (first | (with_reducible first | exact HB.out | apply below_alloc | apply pw_below_drewN | apply below_drew1) | exact HB.out)) hb); have BR := Aside0.mk hbox; have n1 := Aside0.mk (blk_below BK.out hb); clear HB BK; have HB := n0; have BK := n1; clear n0 n1 hg; replace hc0 := (hb.cell (World.block_lt_of_cell? _ _ hc0)).trans hc0; replace hc1 := (hb.cell (World.block_lt_of_cell? _ _ hc1)).trans hc1; replace hc2 := (hb.cell (World.block_lt_of_cell? _ _ hc2)).trans hc2; replace hc3 := (hb.cell (World.block_lt_of_cell? _ _ hc3)).trans hc3; replace hc4 := (hb.cell (World.block_lt_of_cell? _ _ hc4)).trans hc4; replace hc5 := (hb.cell (World.block_lt_of_cell? _ _ hc5)).trans hc5; replace hc6 := (hb.cell (World.block_lt_of_cell? _ _ hc6)).trans hc6; have hr0 : w14.cell? ⟨gr, 0, none⟩ = some (.int .i64 a1) := (blk_cell BR.out 0).trans rfl; clear hbox hb) | (go_at_call 82; (with_reducible refine (impl_RNode_fits.calls k a0_0 a0_1 _ _ l0_2 a0_3 a0_4 a0_5 a0_6 false _ ?side1 ?side2 HT.out).mono ?_); (case side1 => exact Kd.C_below HR.out (by repeat (first | (with_reducible first | exact HB.out | apply below_alloc | apply pw_below_drewN | apply below_drew1) | exact HB.out))); (case side2 => exact HC.out); rintro e w' ⟨rfl, hb⟩; have n0 := Aside0.mk (below_step (by repeat (first | (with_reducible first | exact HB.out | apply below_alloc | apply pw_below_drewN | apply below_drew1) | exact HB.out)) hb); have n1 := Aside0.mk (blk_below BK.out hb); have n2 := Aside0.mk (blk_below BR.out hb); clear HB BK BR; have HB := n0; have BK := n1; have BR := n2; clear n0 n1 n2; replace hc0 := (hb.cell (World.block_lt_of_cell? _ _ hc0)).trans hc0; replace hc1 := (hb.cell (World.block_lt_of_cell? _ _ hc1)).trans hc1; replace hc2 := (hb.cell (World.block_lt_of_cell? _ _ hc2)).trans hc2; replace hr0 := (hb.cell (World.block_lt_of_cell? _ _ hr0)).trans hr0; clear hb))
      go_ret
      exact ⟨rfl, by repeat (first | (with_reducible first | exact HB.out | apply below_alloc | apply pw_below_drewN | apply below_drew1) | exact HB.out)⟩
    | true =>
      simp only [if_true] at h
      obtain ⟨u, hu, h⟩ := Option.bind_eq_some_iff.1 h
      have HU := Aside0.mk hu
      clear hu
      cases u with
      | false =>
        simp only [Bool.false_eq_true, if_false, Option.some.injEq] at h
        subst h
        go_enter Tryd.func112, Tryd.ntmps112
        go_wp2_with (first | ((with_reducible refine gate_dst (N := 2) rfl ?_); (try (refine gate_guard (by rfl) ?_; dsimp only)); refine box_event ?hg (N := 2) ?hd (cs := #[.int .i64 a0_0, .bool a0_1, .slice A0_2 l0_2.length c0_2, .int .i64 a0_3, .int .i64 a0_4, .int .i64 a0_5, .int .i64 a0_6]) (t := 93) ?hr ?_; (case hd => rfl); (case hg => rfl); (case hr => first | (go_simp; done) | (go_simp; rfl)); intro gb hg w13 hbox hb; have n0 := Aside0.mk (below_step (by repeat (first | (with_reducible first | exact HB.out | apply below_alloc | apply pw_below_drewN | apply below_drew1) | exact HB.out)) hb); have BK := Aside0.mk hbox; clear HB; have HB := n0; clear n0 hb hg; have hc0 : w13.cell? ⟨gb, 0, none⟩ = some (.int .i64 a0_0) := (blk_cell BK.out 0).trans rfl; have hc1 : w13.cell? ⟨gb, 1, none⟩ = some (.bool a0_1) := (blk_cell BK.out 1).trans rfl; have hc2 : w13.cell? ⟨gb, 2, none⟩ = some (.slice A0_2 l0_2.length c0_2) := (blk_cell BK.out 2).trans rfl; have hc3 : w13.cell? ⟨gb, 3, none⟩ = some (.int .i64 a0_3) := (blk_cell BK.out 3).trans rfl; have hc4 : w13.cell? ⟨gb, 4, none⟩ = some (.int .i64 a0_4) := (blk_cell BK.out 4).trans rfl; have hc5 : w13.cell? ⟨gb, 5, none⟩ = some (.int .i64 a0_5) := (blk_cell BK.out 5).trans rfl; have hc6 : w13.cell? ⟨gb, 6, none⟩ = some (.int .i64 a0_6) := (blk_cell BK.out 6).trans rfl; clear hbox) | ((with_reducible refine gate_dst (N := 3) rfl ?_); (try (refine gate_guard (by rfl) ?_; dsimp only)); refine box_event ?hg (N := 3) ?hd (cs := #[.int .i64 a1]) (t := 2) ?hr ?_; (case hd => rfl); (case hg => rfl); (case hr => first | (go_simp; done) | (go_simp; rfl)); intro gr hg w14 hbox hb; have n0 := Aside0.mk (below_step (by repeat (first | (with_reducible first | exact HB.out | apply below_alloc | apply pw_below_drewN | apply below_drew1) | exact HB.out)) hb); have BR := Aside0.mk hbox; have n1 := Aside0.mk (blk_below BK.out hb); clear HB BK; have HB := n0; have BK := n1; clear n0 n1 hg; replace hc0 := (hb.cell (World.block_lt_of_cell? _ _ hc0)).trans hc0; replace hc1 := (hb.cell (World.block_lt_of_cell? _ _ hc1)).trans hc1; replace hc2 := (hb.cell (World.block_lt_of_cell? _ _ hc2)).trans hc2; replace hc3 := (hb.cell (World.block_lt_of_cell? _ _ hc3)).trans hc3; replace hc4 := (hb.cell (World.block_lt_of_cell? _ _ hc4)).trans hc4; replace hc5 := (hb.cell (World.block_lt_of_cell? _ _ hc5)).trans hc5; replace hc6 := (hb.cell (World.block_lt_of_cell? _ _ hc6)).trans hc6; have hr0 : w14.cell? ⟨gr, 0, none⟩ = some (.int .i64 a1) := (blk_cell BR.out 0).trans rfl; clear hbox hb) | (go_at_call 82; (with_reducible refine (impl_RNode_fits.calls k a0_0 a0_1 _ _ l0_2 a0_3 a0_4 a0_5 a0_6 true _ ?side1 ?side2 HT.out).mono ?_); (case side1 => exact Kd.C_below HR.out (by repeat (first | (with_reducible first | exact HB.out | apply below_alloc | apply pw_below_drewN | apply below_drew1) | exact HB.out))); (case side2 => exact HC.out); rintro e w' ⟨rfl, hb⟩; have n0 := Aside0.mk (below_step (by repeat (first | (with_reducible first | exact HB.out | apply below_alloc | apply pw_below_drewN | apply below_drew1) | exact HB.out)) hb); have n1 := Aside0.mk (blk_below BK.out hb); have n2 := Aside0.mk (blk_below BR.out hb); clear HB BK BR; have HB := n0; have BK := n1; have BR := n2; clear n0 n1 n2; replace hc0 := (hb.cell (World.block_lt_of_cell? _ _ hc0)).trans hc0; replace hc1 := (hb.cell (World.block_lt_of_cell? _ _ hc1)).trans hc1; replace hc2 := (hb.cell (World.block_lt_of_cell? _ _ hc2)).trans hc2; replace hr0 := (hb.cell (World.block_lt_of_cell? _ _ hr0)).trans hr0; clear hb) | (go_at_call 118; (with_reducible refine (impl_isRune.calls a1 false _ HU.out).mono ?_); rintro e w' ⟨rfl, ⟨nd, rfl⟩⟩))
        go_ret
        exact ⟨rfl, by repeat (first | (with_reducible first | exact HB.out | apply below_alloc | apply pw_below_drewN | apply below_drew1) | exact HB.out)⟩
      | true =>
        simp only [if_true, Option.some.injEq] at h
        subst h
        go_enter Tryd.func112, Tryd.ntmps112
        go_wp2_with (first | ((with_reducible refine gate_dst (N := 2) rfl ?_); (try (refine gate_guard (by rfl) ?_; dsimp only)); refine box_event ?hg (N := 2) ?hd (cs := #[.int .i64 a0_0, .bool a0_1, .slice A0_2 l0_2.length c0_2, .int .i64 a0_3, .int .i64 a0_4, .int .i64 a0_5, .int .i64 a0_6]) (t := 93) ?hr ?_; (case hd => rfl); (case hg => rfl); (case hr => first | (go_simp; done) | (go_simp; rfl)); intro gb hg w13 hbox hb; have n0 := Aside0.mk (below_step (by repeat (first | (with_reducible first | exact HB.out | apply below_alloc | apply pw_below_drewN | apply below_drew1) | exact HB.out)) hb); have BK := Aside0.mk hbox; clear HB; have HB := n0; clear n0 hb hg; have hc0 : w13.cell? ⟨gb, 0, none⟩ = some (.int .i64 a0_0) := (blk_cell BK.out 0).trans rfl; have hc1 : w13.cell? ⟨gb, 1, none⟩ = some (.bool a0_1) := (blk_cell BK.out 1).trans rfl; have hc2 : w13.cell? ⟨gb, 2, none⟩ = some (.slice A0_2 l0_2.length c0_2) := (blk_cell BK.out 2).trans rfl; have hc3 : w13.cell? ⟨gb, 3, none⟩ = some (.int .i64 a0_3) := (blk_cell BK.out 3).trans rfl; have hc4 : w13.cell? ⟨gb, 4, none⟩ = some (.int .i64 a0_4) := (blk_cell BK.out 4).trans rfl; have hc5 : w13.cell? ⟨gb, 5, none⟩ = some (.int .i64 a0_5) := (blk_cell BK.out 5).trans rfl; have hc6 : w13.cell? ⟨gb, 6, none⟩ = some (.int .i64 a0_6) := (blk_cell BK.out 6).trans rfl; clear hbox) | ((with_reducible refine gate_dst (N := 3) rfl ?_); (try (refine gate_guard (by rfl) ?_; dsimp only)); refine box_event ?hg (N := 3) ?hd (cs := #[.int .i64 a1]) (t := 2) ?hr ?_; (case hd => rfl); (case hg => rfl); (case hr => first | (go_simp; done) | (go_simp; rfl)); intro gr hg w14 hbox hb; have n0 := Aside0.mk (below_step (by repeat (first | (with_reducible first | exact HB.out | apply below_alloc | apply pw_below_drewN | apply below_drew1) | exact HB.out)) hb); have BR := Aside0.mk hbox; have n1 := Aside0.mk (blk_below BK.out hb); clear HB BK; have HB := n0; have BK := n1; clear n0 n1 hg; replace hc0 := (hb.cell (World.block_lt_of_cell? _ _ hc0)).trans hc0; replace hc1 := (hb.cell (World.block_lt_of_cell? _ _ hc1)).trans hc1; replace hc2 := (hb.cell (World.block_lt_of_cell? _ _ hc2)).trans hc2; replace hc3 := (hb.cell (World.block_lt_of_cell? _ _ hc3)).trans hc3; replace hc4 := (hb.cell (World.block_lt_of_cell? _ _ hc4)).trans hc4; replace hc5 := (hb.cell (World.block_lt_of_cell? _ _ hc5)).trans hc5; replace hc6 := (hb.cell (World.block_lt_of_cell? _ _ hc6)).trans hc6; have hr0 : w14.cell? ⟨gr, 0, none⟩ = some (.int .i64 a1) := (blk_cell BR.out 0).trans rfl; clear hbox hb) | (go_at_call 82; (with_reducible refine (impl_RNode_fits.calls k a0_0 a0_1 _ _ l0_2 a0_3 a0_4 a0_5 a0_6 true _ ?side1 ?side2 HT.out).mono ?_); (case side1 => exact Kd.C_below HR.out (by repeat (first | (with_reducible first | exact HB.out | apply below_alloc | apply pw_below_drewN | apply below_drew1) | exact HB.out))); (case side2 => exact HC.out); rintro e w' ⟨rfl, hb⟩; have n0 := Aside0.mk (below_step (by repeat (first | (with_reducible first | exact HB.out | apply below_alloc | apply pw_below_drewN | apply below_drew1) | exact HB.out)) hb); have n1 := Aside0.mk (blk_below BK.out hb); have n2 := Aside0.mk (blk_below BR.out hb); clear HB BK BR; have HB := n0; have BK := n1; have BR := n2; clear n0 n1 n2; replace hc0 := (hb.cell (World.block_lt_of_cell? _ _ hc0)).trans hc0; replace hc1 := (hb.cell (World.block_lt_of_cell? _ _ hc1)).trans hc1; replace hc2 := (hb.cell (World.block_lt_of_cell? _ _ hc2)).trans hc2; replace hr0 := (hb.cell (World.block_lt_of_cell? _ _ hr0)).trans hr0; clear hb) | (go_at_call 118; (with_reducible refine (impl_isRune.calls a1 true _ HU.out).mono ?_); rintro e w' ⟨rfl, ⟨nd, rfl⟩⟩) | (go_at_call 140; (with_reducible refine (has_any a1 gr A0_2 c0_2 l0_2 _ ?s1 ?s2).mono ?_); (case s1 => exact Kd.C_below HR.out (by repeat (first | (with_reducible first | exact HB.out | apply below_alloc | apply pw_below_drewN | apply below_drew1) | exact HB.out))); (case s2 => exact (by (with_reducible repeat (first | refine blk_drewN ?_ _ | refine blk_drew ?_)); exact BR.out)); rintro e w' ⟨rfl, hb⟩; have n0 := Aside0.mk (below_step (by repeat (first | (with_reducible first | exact HB.out | apply below_alloc | apply pw_below_drewN | apply below_drew1) | exact HB.out)) hb); have n1 := Aside0.mk (blk_below BK.out hb); have n2 := Aside0.mk (blk_below BR.out hb); clear HB BK BR; have HB := n0; have BK := n1; have BR := n2; clear n0 n1 n2; replace hc0 := (hb.cell (World.block_lt_of_cell? _ _ hc0)).trans hc0; replace hc1 := (hb.cell (World.block_lt_of_cell? _ _ hc1)).trans hc1; replace hc2 := (hb.cell (World.block_lt_of_cell? _ _ hc2)).trans hc2; replace hr0 := (hb.cell (World.block_lt_of_cell? _ _ hr0)).trans hr0; clear hb))
        refine start_ (n := 8) (S := fun w' => w'.cell? ⟨gb, 1, none⟩ = some (.bool a0_1) ∧ w'.cell? ⟨gb, 2, none⟩ = some (.slice A0_2 l0_2.length c0_2)) (ds := []) #[false, false, false, false, false, false, false, false] (by kernel_rfl) rfl rfl ⟨(blk_cell (by (with_reducible repeat (first | refine blk_drewN ?_ _ | refine blk_drew ?_)); exact BK.out) 1).trans rfl, (blk_cell (by (with_reducible repeat (first | refine blk_drewN ?_ _ | refine blk_drew ?_)); exact BK.out) 2).trans rfl⟩ (fun hHeld => ?_)
        refine pure_ (i := 0) (N := some 18) (v := ?_) (a' := ?_) #[true, false, false, false, false, false, false, false] rfl rfl (by kernel_rfl) (fun _ _ _ h => h) (Or.inl ⟨by rfl, ?_⟩) ?_ ?_
        rotate_left
        · intro w'
          go_simp
          with_reducible rfl
        rotate_left
        · simp only [Act.put, List.setIfInBounds_toArray, List.set_cons_zero, List.set_cons_succ, i64_w, i32_w]
          rfl
        refine take_ (i := 1) (N := some 19) (v := ?_) (a' := ?_) #[true, true, false, false, false, false, false, false] rfl rfl (by kernel_rfl) (fun _ _ _ h => h) (Or.inl ⟨by rfl, ?_⟩) hHeld ?_ ?_
        rotate_left
        · rintro w' ⟨s0, s1⟩
          go_simp
          with_reducible rfl
        rotate_left
        · simp only [Act.put, List.setIfInBounds_toArray, List.set_cons_zero, List.set_cons_succ, i64_w, i32_w]
          rfl
        refine pure_ (i := 2) (N := some 20) (v := ?_) (a' := ?_) #[true, true, true, false, false, false, false, false] rfl rfl (by kernel_rfl) (fun _ _ _ h => h) (Or.inl ⟨by rfl, ?_⟩) ?_ ?_
        rotate_left
        · intro w'
          go_simp
          with_reducible rfl
        rotate_left
        · simp only [Act.put, List.setIfInBounds_toArray, List.set_cons_zero, List.set_cons_succ, i64_w, i32_w]
          rfl
        refine pure_ (i := 4) (N := some 22) (v := ?_) (a' := ?_) #[true, true, true, false, true, false, false, false] rfl rfl (by kernel_rfl) (fun _ _ _ h => h) (Or.inl ⟨by rfl, ?_⟩) ?_ ?_
        rotate_left
        · intro w'
          go_simp
          with_reducible rfl
        rotate_left
        · simp only [Act.put, List.setIfInBounds_toArray, List.set_cons_zero, List.set_cons_succ, i64_w, i32_w]
          rfl
        refine take_ (i := 5) (N := some 23) (v := ?_) (a' := ?_) #[true, true, true, false, true, true, false, false] rfl rfl (by kernel_rfl) (fun _ _ _ h => h) (Or.inl ⟨by rfl, ?_⟩) hHeld ?_ ?_
        rotate_left
        · rintro w' ⟨s0, s1⟩
          go_simp
          with_reducible rfl
        rotate_left
        · simp only [Act.put, List.setIfInBounds_toArray, List.set_cons_zero, List.set_cons_succ, i64_w, i32_w]
          rfl
        refine one_ (i := 3) (N := some 21) #[true, true, true, true, true, true, false, false] rfl rfl (by kernel_rfl) (by decide) (fun K hK => ?_)
        refine goes_ Tryd.func140 (by kernel_rfl) rfl #[.slice A0_2 l0_2.length c0_2, .func (.func 141) #[] #[.pointer (some ⟨gr, 0, none⟩)]] (by rfl) rfl rfl (by (try simp only [List.map_toArray, List.map_cons, List.map_nil]); first | done | rfl) ?_
        refine (has_any a1 gr A0_2 c0_2 l0_2 _ ?s1 ?s2).mono ?_
        (case s1 => exact Kd.C_below HR.out (by repeat (first | (with_reducible first | exact HB.out | apply below_alloc | apply pw_below_drewN | apply below_drew1) | exact HB.out)))
        (case s2 => exact (by (with_reducible repeat (first | refine blk_drewN ?_ _ | refine blk_drew ?_)); exact BR.out))
        rintro e w35 ⟨rfl, hb⟩
        refine ⟨_, rfl, ?_⟩
        have n0 := Aside0.mk (below_step (by repeat (first | (with_reducible first | exact HB.out | apply below_alloc | apply pw_below_drewN | apply below_drew1) | exact HB.out)) hb)
        have n1 := Aside0.mk (blk_below (by (with_reducible repeat (first | refine blk_drewN ?_ _ | refine blk_drew ?_)); exact BK.out) hb)
        clear HB BK hb
        have HB := n0
        have BK := n1
        clear n0 n1
        refine hK.out _ _ ⟨(blk_cell (by (with_reducible repeat (first | refine blk_drewN ?_ _ | refine blk_drew ?_)); exact BK.out) 1).trans rfl, (blk_cell (by (with_reducible repeat (first | refine blk_drewN ?_ _ | refine blk_drew ?_)); exact BK.out) 2).trans rfl⟩ (fun hHeld => ?_)
        clear hK K
        refine norm_ (a' := ?_) ?_ ?_
        rotate_left
        · show Act.put _ (some 21) _ = _
          simp only [Act.put, List.setIfInBounds_toArray, List.set_cons_zero, List.set_cons_succ, i64_w, i32_w]
          rfl
        refine pure_ (i := 6) (N := some 24) (v := ?_) (a' := ?_) #[true, true, true, true, true, true, true, false] rfl rfl (by kernel_rfl) (fun _ _ _ h => h) (Or.inl ⟨by rfl, ?_⟩) ?_ ?_
        rotate_left
        · intro w'
          go_simp
          with_reducible rfl
        rotate_left
        · simp only [Act.put, List.setIfInBounds_toArray, List.set_cons_zero, List.set_cons_succ, i64_w, i32_w]
          rfl
        refine pure_ (i := 7) (N := some 4) (v := ?_) (a' := ?_) #[true, true, true, true, true, true, true, true] rfl rfl (by kernel_rfl) (fun _ _ _ h => h) (Or.inl ⟨by rfl, ?_⟩) ?_ ?_
        rotate_left
        · intro w'
          go_simp
          with_reducible rfl
        rotate_left
        · simp only [Act.put, List.setIfInBounds_toArray, List.set_cons_zero, List.set_cons_succ, i64_w, i32_w]
          rfl
        refine done_ (by kernel_rfl) ?_
        go_wp2
        go_ret
        exact ⟨by first | rfl | (simp [*]; done), by repeat (first | (with_reducible first | exact HB.out | apply below_alloc | apply pw_below_drewN | apply below_drew1) | exact HB.out)⟩
  · rw [if_neg c0] at h
    have c0b : (a0_0 == 2) = false := beq_eq_false_iff_ne.mpr c0
    have c0n : (a0_0 != 2) = true := bne_iff_ne.mpr c0
    clear c0
    obtain rfl := Option.some.inj h
    go_enter Tryd.func112, Tryd.ntmps112
    go_wp2_with (first | ((with_reducible refine gate_dst (N := 2) rfl ?_); (try (refine gate_guard (by rfl) ?_; dsimp only)); refine box_event ?hg (N := 2) ?hd (cs := #[.int .i64 a0_0, .bool a0_1, .slice A0_2 l0_2.length c0_2, .int .i64 a0_3, .int .i64 a0_4, .int .i64 a0_5, .int .i64 a0_6]) (t := 93) ?hr ?_; (case hd => rfl); (case hg => rfl); (case hr => first | (go_simp; done) | (go_simp; rfl)); intro gb hg w13 hbox hb; have n0 := Aside0.mk (below_step (by repeat (first | (with_reducible first | exact HB.out | apply below_alloc | apply pw_below_drewN | apply below_drew1) | exact HB.out)) hb); have BK := Aside0.mk hbox; clear HB; have HB := n0; clear n0 hb hg; have hc0 : w13.cell? ⟨gb, 0, none⟩ = some (.int .i64 a0_0) := (blk_cell BK.out 0).trans rfl; have hc1 : w13.cell? ⟨gb, 1, none⟩ = some (.bool a0_1) := (blk_cell BK.out 1).trans rfl; have hc2 : w13.cell? ⟨gb, 2, none⟩ = some (.slice A0_2 l0_2.length c0_2) := (blk_cell BK.out 2).trans rfl; have hc3 : w13.cell? ⟨gb, 3, none⟩ = some (.int .i64 a0_3) := (blk_cell BK.out 3).trans rfl; have hc4 : w13.cell? ⟨gb, 4, none⟩ = some (.int .i64 a0_4) := (blk_cell BK.out 4).trans rfl; have hc5 : w13.cell? ⟨gb, 5, none⟩ = some (.int .i64 a0_5) := (blk_cell BK.out 5).trans rfl; have hc6 : w13.cell? ⟨gb, 6, none⟩ = some (.int .i64 a0_6) := (blk_cell BK.out 6).trans rfl; clear hbox) | ((with_reducible refine gate_dst (N := 3) rfl ?_); (try (refine gate_guard (by rfl) ?_; dsimp only)); refine box_event ?hg (N := 3) ?hd (cs := #[.int .i64 a1]) (t := 2) ?hr ?_; (case hd => rfl); (case hg => rfl); (case hr => first | (go_simp; done) | (go_simp; rfl)); intro gr hg w14 hbox hb; have n0 := Aside0.mk (below_step (by repeat (first | (with_reducible first | exact HB.out | apply below_alloc | apply pw_below_drewN | apply below_drew1) | exact HB.out)) hb); have BR := Aside0.mk hbox; have n1 := Aside0.mk (blk_below BK.out hb); clear HB BK; have HB := n0; have BK := n1; clear n0 n1 hg; replace hc0 := (hb.cell (World.block_lt_of_cell? _ _ hc0)).trans hc0; replace hc1 := (hb.cell (World.block_lt_of_cell? _ _ hc1)).trans hc1; replace hc2 := (hb.cell (World.block_lt_of_cell? _ _ hc2)).trans hc2; replace hc3 := (hb.cell (World.block_lt_of_cell? _ _ hc3)).trans hc3; replace hc4 := (hb.cell (World.block_lt_of_cell? _ _ hc4)).trans hc4; replace hc5 := (hb.cell (World.block_lt_of_cell? _ _ hc5)).trans hc5; replace hc6 := (hb.cell (World.block_lt_of_cell? _ _ hc6)).trans hc6; have hr0 : w14.cell? ⟨gr, 0, none⟩ = some (.int .i64 a1) := (blk_cell BR.out 0).trans rfl; clear hbox hb))
    go_ret
    exact ⟨rfl, by repeat (first | (with_reducible first | exact HB.out | apply below_alloc | apply pw_below_drewN | apply below_drew1) | exact HB.out)⟩
end Go.Proofs.YtilmhfkbpnejeaaDoor.L

namespace Go.Proofs.YtilmhfkbpnejeaaDoor.L
open Go.RowKit Go.Proofs.YtilmhfkbpnejeaaDoorW.PrintWords Go.Proofs.YtilmhfkbpnejeaaDoorW.PrintLast Go.Proofs.YtilmhfkbpnejeaaDoorW.PrintMore
attribute [local go_sem] max2_int min2_int max_two min_two max_three min_three max_four min_four
set_option linter.unusedVariables false
set_option linter.unusedSimpArgs false

/-! ### impl_ends: function 77 -/
mutual
def impl_ends.l0 : Nat → List Int → List Bool → List Bool → Int → Int → Int → Bool → List (S100) → Int → Int → Int → Int → Option (List Bool)
 | 0, _, _, _, _, _, _, _, _, _, _, _, _ => none
 | k + 1, x2, x10, x34, x35, x36, x311000, x311001, x311002, x311003, x311004, x311005, x311006 => if x36 < x35 then (if 0 ≤ x36 then (if x36 < (x34.length : Int) then (if rdOf false x34 x36 = true then (if x36 < (x2.length : Int) then ((impl_ClassHas.f k x311000 x311001 x311002 x311003 x311004 x311005 x311006 (rd x2 x36)).bind fun t321 => (if 0 ≤ (wrap64 (x36 + 1)) then (if (wrap64 (x36 + 1)) < (x10.length : Int) then (impl_ends.l0 k x2 (x10.set ((wrap64 (x36 + 1)) : Int).toNat t321) x34 x35 (wrap64 (x36 + 1)) x311000 x311001 x311002 x311003 x311004 x311005 x311006) else (none)) else (none))) else (none)) else (if 0 ≤ (wrap64 (x36 + 1)) then (if (wrap64 (x36 + 1)) < (x10.length : Int) then (impl_ends.l0 k x2 (x10.set ((wrap64 (x36 + 1)) : Int).toNat false) x34 x35 (wrap64 (x36 + 1)) x311000 x311001 x311002 x311003 x311004 x311005 x311006) else (none)) else (none))) else (none)) else (none)) else (some x10)
def impl_ends.l1 : Nat → List (S93) → List Int → List Bool → Int → Int → Int → Bool → List (S100) → Int → Int → Int → Int → Option (List Bool)
 | 0, _, _, _, _, _, _, _, _, _, _, _, _ => none
 | k + 1, x0, x2, x13, x86, x87, x311000, x311001, x311002, x311003, x311004, x311005, x311006 => if x87 < x86 then ((impl_ends.f k x0 x311003 x2 x13).bind fun t339 => (impl_ends.l1 k x0 x2 t339 x86 (wrap64 (x87 + 1)) x311000 x311001 x311002 x311003 x311004 x311005 x311006)) else (impl_ends.l2 k x0 x2 x13 x13 x311005 x311000 x311001 x311002 x311003 x311004 x311005 x311006)
def impl_ends.l2 : Nat → List (S93) → List Int → List Bool → List Bool → Int → Int → Bool → List (S100) → Int → Int → Int → Int → Option (List Bool)
 | 0, _, _, _, _, _, _, _, _, _, _, _, _ => none
 | k + 1, x0, x2, x13, x14, x15, x311000, x311001, x311002, x311003, x311004, x311005, x311006 => if x311006 = (-1) then (impl_ends.j3 k x0 x2 x13 x14 x15 true x311000 x311001 x311002 x311003 x311004 x311005 x311006) else (impl_ends.j3 k x0 x2 x13 x14 x15 (decide (x15 < x311006)) x311000 x311001 x311002 x311003 x311004 x311005 x311006)
def impl_ends.j3 : Nat → List (S93) → List Int → List Bool → List Bool → Int → Bool → Int → Bool → List (S100) → Int → Int → Int → Int → Option (List Bool)
 | 0, _, _, _, _, _, _, _, _, _, _, _, _, _ => none
 | k + 1, x0, x2, x13, x14, x15, x107, x311000, x311001, x311002, x311003, x311004, x311005, x311006 => if x107 = true then ((impl_ends.f k x0 x311003 x2 x13).bind fun t342 => ((impl_places_joined.f k x14 t342).bind fun t345 => ((impl_places_bool_114.f k t345 x14).bind fun t348 => (if t348 = true then (some x14) else (if x311006 = (-1) then (impl_ends.l2 k x0 x2 t345 t345 (wrap64 (x15 + 1)) x311000 x311001 x311002 x311003 x311004 x311005 x311006) else (impl_ends.l2 k x0 x2 t342 t345 (wrap64 (x15 + 1)) x311000 x311001 x311002 x311003 x311004 x311005 x311006)))))) else (some x14)
def impl_ends.f : Nat → List (S93) → Int → List Int → List Bool → Option (List Bool)
 | 0, _, _, _, _ => none
 | k + 1, l0, a1, l2, l3 => if 0 ≤ a1 then (if a1 < (l0.length : Int) then (if ((rd_T93 l0 a1).f0) = 1 then (some l3) else (if ((rd_T93 l0 a1).f0) = 2 then (if 0 ≤ (l3.length : Int) then (if ((l3.length : Int) : Int).toNat ≤ 281474976710656 then (if 0 ≤ (l2.length : Int) then (if (l2.length : Int) ≤ (l3.length : Int) then ((some (l3.take ((l2.length : Int) : Int).toNat : List Bool)).bind fun y314 => (impl_ends.l0 k l2 (List.replicate ((l3.length : Int) : Int).toNat false) y314 (y314.length : Int) 0 ((rd_T93 l0 a1).f0) ((rd_T93 l0 a1).f1) ((rd_T93 l0 a1).f2) ((rd_T93 l0 a1).f3) ((rd_T93 l0 a1).f4) ((rd_T93 l0 a1).f5) ((rd_T93 l0 a1).f6))) else (none)) else (none)) else (none)) else (none)) else (if ((rd_T93 l0 a1).f0) = 3 then ((impl_ends.f k l0 ((rd_T93 l0 a1).f3) l2 l3).bind fun t324 => ((impl_ends.f k l0 ((rd_T93 l0 a1).f4) l2 t324).bind fun t327 => (some t327))) else (if ((rd_T93 l0 a1).f0) = 4 then ((impl_ends.f k l0 ((rd_T93 l0 a1).f3) l2 l3).bind fun t330 => ((impl_ends.f k l0 ((rd_T93 l0 a1).f4) l2 l3).bind fun t333 => ((impl_places_joined.f k t330 t333).bind fun t336 => (some t336)))) else (impl_ends.l1 k l0 l2 l3 ((rd_T93 l0 a1).f5) 0 ((rd_T93 l0 a1).f0) ((rd_T93 l0 a1).f1) ((rd_T93 l0 a1).f2) ((rd_T93 l0 a1).f3) ((rd_T93 l0 a1).f4) ((rd_T93 l0 a1).f5) ((rd_T93 l0 a1).f6)))))) else (none)) else (none)
end
def impl_ends.T10 : Bool × List (List Nat × List Nat) := (true, [([], []), ([], []), ([1], [1]), ([], []), ([3], [3]), ([4], [4]), ([4], [4]), ([4], [4]), ([6, 7, 4], [4, 6, 7]), ([8, 4], [4, 8]), ([5, 9, 4, 4], [4, 5, 9]), ([4, 10], [4, 10]), ([0, 2, 0, 1, 2, 3, 4, 5, 6, 7, 8, 9, 10, 11], [0, 2]), ([12, 11, 10, 0, 1, 2, 3, 4, 5, 6, 7, 8, 9, 10, 11], [11, 12])])
def impl_ends.B10 : List Nat := [0, 0, 2, 0, 8, 24, 24, 24, 216, 472, 1016, 2040, 4095, 8191]
theorem impl_ends.tab10 : rtab .any (opsOf Tryd.f77 10) = impl_ends.T10 := by kernel_rfl
theorem impl_ends.bits10 : waitsOk impl_ends.T10.2 impl_ends.B10 = true := by kernel_rfl
def impl_ends.T14 : Bool × List (List Nat × List Nat) := (true, [([], []), ([], []), ([1], [1]), ([], []), ([], []), ([], []), ([5], [5]), ([], []), ([], []), ([4, 6, 7, 8], [4, 6, 7, 8]), ([0, 2, 3, 9, 9], [0, 2, 3, 9]), ([10, 10, 0, 1, 2, 3, 4, 5, 6, 7, 8, 9, 10], [10])])
def impl_ends.B14 : List Nat := [0, 0, 2, 0, 0, 0, 32, 0, 0, 496, 1023, 2047]
theorem impl_ends.tab14 : rtab .any (opsOf Tryd.f77 14) = impl_ends.T14 := by kernel_rfl
theorem impl_ends.bits14 : waitsOk impl_ends.T14.2 impl_ends.B14 = true := by kernel_rfl
def impl_ends.T16 : Bool × List (List Nat × List Nat) := (true, [([], []), ([], []), ([1], [1]), ([], []), ([], []), ([0, 2, 3, 4], [0, 2, 3, 4]), ([], []), ([], []), ([7], [7]), ([], []), ([], []), ([6, 8, 9, 10, 5], [6, 8, 9, 10]), ([5, 11, 11], [5, 11]), ([12, 12, 0, 1, 2, 3, 4, 5, 6, 7, 8, 9, 10, 11, 12], [12])])
def impl_ends.B16 : List Nat := [0, 0, 2, 0, 0, 31, 0, 0, 128, 0, 0, 2047, 4095, 8191]
theorem impl_ends.tab16 : rtab .any (opsOf Tryd.f77 16) = impl_ends.T16 := by kernel_rfl
theorem impl_ends.bits16 : waitsOk impl_ends.T16.2 impl_ends.B16 = true := by kernel_rfl
set_option maxHeartbeats 8000000 in
set_option maxRecDepth 100000 in
theorem impl_ends.calls (k : Nat) : ∀ (A0 : Option Addr) (c0 : Nat) (l0 : List (S93)) (a1 : Int) (A2 : Option Addr) (c2 : Nat) (l2 : List Int) (P3_ : Nat → Prop) (A3 : Option Addr) (c3 : Nat) (l3 : List Bool) (r : List Bool) (w : World) (hr0 : Kd.C k93 w A0 l0.length l0) (hc0 : l0.length ≤ c0) (hr2 : Kd.C (Kd.int .i64) w A2 l2.length l2) (hc2 : l2.length ≤ c2) (hs3 : Kd.V Kd.bool 4 w w.heap.size (fun k_ => P3_ k_) (.slice A3 l3.length c3) l3) (h : impl_ends.f k l0 a1 l2 l3 = some r),
  Calls Tryd.prog 77 #[.slice A0 l0.length c0, .int .i64 a1, .slice A2 l2.length c2, .slice A3 l3.length c3] w fun e w' => ∃ v0_ : Value, e = .returned (v0_) ∧ Kd.V Kd.bool 4 w' w.heap.size (fun k_ => (P3_ k_ ∨ w.heap.size ≤ k_)) v0_ r ∧ Below w.heap.size w w' := by
 induction k using Nat.strongRecOn with
 | _ k ih =>
 intro A0 c0 l0 a1 A2 c2 l2 P3_ A3 c3 l3 r w hr0 hc0 hr2 hc2 hs3 h
 cases k with
 | zero => exact absurd h (by simp [impl_ends.f])
 | succ k =>
 simp only [impl_ends.f] at h
 have hu93 := Tryd.underlying93
 have HR0 := Aside0.mk hr0
 have HC0 := Aside0.mk hc0
 clear hr0 hc0
 have HR2 := Aside0.mk hr2
 have HC2 := Aside0.mk hc2
 clear hr2 hc2
 have HO3 := Aside0.mk (show Kd.V Kd.bool 4 w w.heap.size (fun k_ => (P3_ k_ ∨ w.heap.size ≤ k_)) (.slice A3 l3.length c3) l3 from Kd.V_mono hs3 (fun k_ hk => .inl hk))
 have HB := Aside0.mk (Below.refl w.heap.size w)
 have H : (if 0 ≤ a1 then (if a1 < (l0.length : Int) then (if ((rd_T93 l0 a1).f0) = 1 then (some l3) else (if ((rd_T93 l0 a1).f0) = 2 then (if 0 ≤ (l3.length : Int) then (if ((l3.length : Int) : Int).toNat ≤ 281474976710656 then (if 0 ≤ (l2.length : Int) then (if (l2.length : Int) ≤ (l3.length : Int) then ((some (l3.take ((l2.length : Int) : Int).toNat : List Bool)).bind fun y314 => (impl_ends.l0 k l2 (List.replicate ((l3.length : Int) : Int).toNat false) y314 (y314.length : Int) 0 ((rd_T93 l0 a1).f0) ((rd_T93 l0 a1).f1) ((rd_T93 l0 a1).f2) ((rd_T93 l0 a1).f3) ((rd_T93 l0 a1).f4) ((rd_T93 l0 a1).f5) ((rd_T93 l0 a1).f6))) else (none)) else (none)) else (none)) else (none)) else (if ((rd_T93 l0 a1).f0) = 3 then ((impl_ends.f k l0 ((rd_T93 l0 a1).f3) l2 l3).bind fun t324 => ((impl_ends.f k l0 ((rd_T93 l0 a1).f4) l2 t324).bind fun t327 => (some t327))) else (if ((rd_T93 l0 a1).f0) = 4 then ((impl_ends.f k l0 ((rd_T93 l0 a1).f3) l2 l3).bind fun t330 => ((impl_ends.f k l0 ((rd_T93 l0 a1).f4) l2 l3).bind fun t333 => ((impl_places_joined.f k t330 t333).bind fun t336 => (some t336)))) else (impl_ends.l1 k l0 l2 l3 ((rd_T93 l0 a1).f5) 0 ((rd_T93 l0 a1).f0) ((rd_T93 l0 a1).f1) ((rd_T93 l0 a1).f2) ((rd_T93 l0 a1).f3) ((rd_T93 l0 a1).f4) ((rd_T93 l0 a1).f5) ((rd_T93 l0 a1).f6)))))) else (none)) else (none)) = some r := h
 clear h
 by_cases c5 : 0 ≤ a1
 ·rw [if_pos c5] at H
  have c5b0 := decide_eq_true c5
  clear c5
  by_cases c6 : a1 < (l0.length : Int)
  ·rw [if_pos c6] at H
   have c6b0 := decide_eq_true c6
   clear c6
   by_cases c7 : ((rd_T93 l0 a1).f0) = 1
   ·rw [if_pos c7] at H
    have c7b0 := beq_iff_eq.mpr c7
    have c7b1 := bne_eq_false_iff_eq.mpr c7
    clear c7
    obtain rfl := Option.some.inj H
    have p309 : 0 ≤ (a1 : Int) := of_decide_eq_true dq21
    have q309 : a1 < (l0.length : Int) := of_decide_eq_true dq21
    obtain ⟨ad309, A309_2, c309_2, e309, hx309_0, hx309_1, hx309_2, hx309_3, hx309_4, hx309_5, hx309_6, hl309_2, hi309_2⟩ := at_T93 HR0.out a1 p309 q309
    cases e309
    have HR309_2 := Aside0.mk hi309_2
    have HC309_2 := Aside0.mk hl309_2
    clear hi309_2 hl309_2
    replace p309 := eq_true p309
    replace q309 := eq_true q309
    go_enter Tryd.func77, Tryd.ntmps77
    go_wp2_with (first | ((with_reducible refine gate_dst (N := 9) rfl ?_); refine box_event ?hg (N := 9) ?hd (cs := #[.int .i64 0, .bool false, .slice none 0 0, .int .i64 0, .int .i64 0, .int .i64 0, .int .i64 0]) (t := 93) ?hr ?_; (case hd => rfl); (case hg => rfl); (case hr => exact dq0); intro gb310 hg w8 hbox hb; have n0_ := Aside0.mk (Kd.V_below (Kd.V_elderB dq98 gb310 (Nat.le_of_eq hg.symm)) hb); have n1_ := Aside0.mk (below_step dq18 hb); have n2_ := Aside0.mk (hbox); have n3_ := Aside0.mk ((dq17 : w.heap.size ≤ gb310)); have n4_ := Aside0.mk ((dq17 : w.heap.size ≤ gb310)); clear HO3; clear HB; have HO3 := n0_; have HB := n1_; have BK310 := n2_; have GW310 := n3_; have GE310 := n4_; clear n0_ n1_ n2_ n3_ n4_; clear hb hbox hg; obtain ⟨⟨hcz9_0, hcz9_1, hcz9_2, hcz9_3, hcz9_4, hcz9_5, hcz9_6⟩, hfz9_0, hfz9_1, hfz9_2, hfz9_3, hfz9_4, hfz9_5, hfz9_6⟩ := blkC7 BK310.out))
    go_ret
    exact ⟨_, dq20, by (with_reducible repeat (first | apply Kd.V_alloc | apply Kd.V_drewN | apply Kd.V_drew)); exact Kd.V_mono (Kd.V_far (p := ⟨gb310, 6, none⟩) (Kd.V_far (p := ⟨gb310, 5, none⟩) (Kd.V_far (p := ⟨gb310, 4, none⟩) (Kd.V_far (p := ⟨gb310, 3, none⟩) (Kd.V_far (p := ⟨gb310, 2, none⟩) (Kd.V_far (p := ⟨gb310, 1, none⟩) (Kd.V_far (p := ⟨gb310, 0, none⟩) (Kd.V_mono HO3.out (fun k_ hk => (⟨hk, hk.2⟩ : _ ∧ k_ ≠ gb310))) (fun _ hk => hk.2) (.int .i64 ((rd_T93 l0 a1).f0))) (fun _ hk => hk.2) (.bool ((rd_T93 l0 a1).f1))) (fun _ hk => hk.2) (.slice A309_2 ((rd_T93 l0 a1).f2).length c309_2)) (fun _ hk => hk.2) (.int .i64 ((rd_T93 l0 a1).f3))) (fun _ hk => hk.2) (.int .i64 ((rd_T93 l0 a1).f4))) (fun _ hk => hk.2) (.int .i64 ((rd_T93 l0 a1).f5))) (fun _ hk => hk.2) (.int .i64 ((rd_T93 l0 a1).f6))) (fun _ hk => hk.1.1), dq99⟩
   ·rw [if_neg c7] at H
    have c7b0 := beq_eq_false_iff_ne.mpr c7
    have c7b1 := bne_iff_ne.mpr c7
    by_cases c10 : ((rd_T93 l0 a1).f0) = 2
    ·rw [if_pos c10] at H
     have c10b0 := beq_iff_eq.mpr c10
     have c10b1 := bne_eq_false_iff_eq.mpr c10
     clear c10
     by_cases c11 : 0 ≤ (l3.length : Int)
     ·rw [if_pos c11] at H
      have c11b0 := eq_true c11
      have c11b1 := decide_eq_true c11
      clear c11
      by_cases c12 : ((l3.length : Int) : Int).toNat ≤ 281474976710656
      ·rw [if_pos c12] at H
       have c12b0 := eq_true c12
       have c12b1 := decide_eq_true c12
       clear c12
       obtain ⟨y311, hy311⟩ : ∃ y_ : List Bool, y_ = (List.replicate ((l3.length : Int) : Int).toNat false) := ⟨_, rfl⟩
       replace H : (if 0 ≤ (l2.length : Int) then (if (l2.length : Int) ≤ (l3.length : Int) then ((some (l3.take ((l2.length : Int) : Int).toNat : List Bool)).bind fun y314 => (impl_ends.l0 k l2 y311 y314 (y314.length : Int) 0 ((rd_T93 l0 a1).f0) ((rd_T93 l0 a1).f1) ((rd_T93 l0 a1).f2) ((rd_T93 l0 a1).f3) ((rd_T93 l0 a1).f4) ((rd_T93 l0 a1).f5) ((rd_T93 l0 a1).f6))) else (none)) else (none)) = some r := by first | (rw [hy311]; with_reducible exact H) | (have H2_ := (Option.bind_some _ _).symm.trans H; rw [hy311]; with_reducible exact H2_) | (have H2_ := (Option.bind_some _ _).symm.trans H; with_reducible exact H2_) | with_reducible exact H | (rw [hy311]; exact H) | exact H
       have Ny311 := Aside0.mk hy311
       clear hy311
       by_cases c13 : 0 ≤ (l2.length : Int)
       ·rw [if_pos c13] at H
        have c13b0 := eq_true c13
        have c13b1 := decide_eq_true c13
        clear c13
        by_cases c14 : (l2.length : Int) ≤ (l3.length : Int)
        ·rw [if_pos c14] at H
         have c14b0 := eq_true c14
         have c14b1 := decide_eq_true c14
         clear c14
         obtain ⟨y314, hy314⟩ : ∃ y_ : List Bool, y_ = (l3.take ((l2.length : Int) : Int).toNat) := ⟨_, rfl⟩
         replace H : (impl_ends.l0 k l2 y311 y314 (y314.length : Int) 0 ((rd_T93 l0 a1).f0) ((rd_T93 l0 a1).f1) ((rd_T93 l0 a1).f2) ((rd_T93 l0 a1).f3) ((rd_T93 l0 a1).f4) ((rd_T93 l0 a1).f5) ((rd_T93 l0 a1).f6)) = some r := by first | (rw [hy314]; with_reducible exact H) | (have H2_ := (Option.bind_some _ _).symm.trans H; rw [hy314]; with_reducible exact H2_) | (have H2_ := (Option.bind_some _ _).symm.trans H; with_reducible exact H2_) | with_reducible exact H | (rw [hy314]; exact H) | exact H
         have Ny314 := Aside0.mk hy314
         clear hy314
         have H' := Aside0.mk H
         clear H
         have p309 : 0 ≤ (a1 : Int) := of_decide_eq_true dq21
         have q309 : a1 < (l0.length : Int) := of_decide_eq_true dq21
         obtain ⟨ad309, A309_2, c309_2, e309, hx309_0, hx309_1, hx309_2, hx309_3, hx309_4, hx309_5, hx309_6, hl309_2, hi309_2⟩ := at_T93 HR0.out a1 p309 q309
         cases e309
         have HR309_2 := Aside0.mk hi309_2
         have HC309_2 := Aside0.mk hl309_2
         clear hi309_2 hl309_2
         replace p309 := eq_true p309
         replace q309 := eq_true q309
         go_enter Tryd.func77, Tryd.ntmps77
         go_wp2_with (first | ((with_reducible refine gate_dst (N := 9) rfl ?_); refine box_event ?hg (N := 9) ?hd (cs := #[.int .i64 0, .bool false, .slice none 0 0, .int .i64 0, .int .i64 0, .int .i64 0, .int .i64 0]) (t := 93) ?hr ?_; (case hd => rfl); (case hg => rfl); (case hr => exact dq0); intro gb310 hg w15 hbox hb; have n0_ := Aside0.mk (Kd.V_below (Kd.V_elderB dq98 gb310 (Nat.le_of_eq hg.symm)) hb); have n1_ := Aside0.mk (below_step dq18 hb); have n2_ := Aside0.mk (hbox); have n3_ := Aside0.mk ((dq17 : w.heap.size ≤ gb310)); have n4_ := Aside0.mk ((dq17 : w.heap.size ≤ gb310)); clear HO3; clear HB; have HO3 := n0_; have HB := n1_; have BK310 := n2_; have GW310 := n3_; have GE310 := n4_; clear n0_ n1_ n2_ n3_ n4_; clear hb hbox hg; obtain ⟨⟨hcz16_0, hcz16_1, hcz16_2, hcz16_3, hcz16_4, hcz16_5, hcz16_6⟩, hfz16_0, hfz16_1, hfz16_2, hfz16_3, hfz16_4, hfz16_5, hfz16_6⟩ := blkC7 BK310.out) | ((with_reducible refine gate_dst (N := 30) rfl ?_); refine Kd.R_make Kd.bool _ 4 rfl (N := 30) rfl 95 _ _ rfl (l3.length : Int) rfl rfl Tryd.underlying95 (.bool false) 1 info4 rfl dq28 dq24 false (ok := fun _ => True) (okp := fun _ => True) rfl (fun _ hk => hk) trivial (of_decide_eq_true dq21) (Nat.le_trans (Nat.mul_le_mul_right _ (of_decide_eq_true dq21 : (l3.length : Int).toNat ≤ 281474976710656)) dq24) (Below.refl _ _) (Nat.le_refl _) ?_; intro v312 w17 ho18 hb hg_ hnew_; clear hg_ hnew_; (first | rw [← Ny311.out] at ho18 | (simp only [Int.reduceToNat] at ho18; rw [← Ny311.out] at ho18)); have n0_ := Aside0.mk (Kd.V_elder' (by (with_reducible repeat (first | apply Kd.V_alloc | apply Kd.V_drewN | apply Kd.V_drew)); exact (Kd.V_mono (Kd.V_far (p := ⟨gb310, 6, none⟩) (Kd.V_far (p := ⟨gb310, 5, none⟩) (Kd.V_far (p := ⟨gb310, 4, none⟩) (Kd.V_far (p := ⟨gb310, 3, none⟩) (Kd.V_far (p := ⟨gb310, 2, none⟩) (Kd.V_far (p := ⟨gb310, 1, none⟩) (Kd.V_far (p := ⟨gb310, 0, none⟩) (Kd.V_mono HO3.out (fun k_ hk => (⟨hk, hk.2⟩ : _ ∧ k_ ≠ gb310))) (fun _ hk => hk.2) (.int .i64 ((rd_T93 l0 a1).f0))) (fun _ hk => hk.2) (.bool ((rd_T93 l0 a1).f1))) (fun _ hk => hk.2) (.slice A309_2 ((rd_T93 l0 a1).f2).length c309_2)) (fun _ hk => hk.2) (.int .i64 ((rd_T93 l0 a1).f3))) (fun _ hk => hk.2) (.int .i64 ((rd_T93 l0 a1).f4))) (fun _ hk => hk.2) (.int .i64 ((rd_T93 l0 a1).f5))) (fun _ hk => hk.2) (.int .i64 ((rd_T93 l0 a1).f6))) (fun _ h_ => h_.1))) (Kd.R_base ho18) hb); have n1_ := Aside0.mk (Kd.R_lower (Kd.R_newM (M := fun k_ => (w.heap.size ≤ k_)) ho18 (below_size dq99) (fun k_ h_ => h_)) (below_size dq99)); have n2_ := Aside0.mk (blk_below (g := gb310) (o := .cells #[.int .i64 ((rd_T93 l0 a1).f0), .bool ((rd_T93 l0 a1).f1), .slice A309_2 ((rd_T93 l0 a1).f2).length c309_2, .int .i64 ((rd_T93 l0 a1).f3), .int .i64 ((rd_T93 l0 a1).f4), .int .i64 ((rd_T93 l0 a1).f5), .int .i64 ((rd_T93 l0 a1).f6)] 93 (0, 0)) dq100 hb); have n3_ := Aside0.mk (below_step dq99 hb); clear HO3; clear BK310; clear HB; have HO3 := n0_; have HO313 := n1_; have BK310 := n2_; have HB := n3_; clear n0_ n1_ n2_ n3_; clear hb ho18; have q19 : ((l2.length : Int) : Int) ≤ ((l3.length : Int) : Int) := of_decide_eq_true dq21; obtain ⟨i019, hi019, _, hsz19, _⟩ := info_parts info4; have hroom19 : l3.length ≤ c3 := (Kd.V_reads' HO3.out).2.1; have hC19 : Kd.F Kd.bool _ _ A3 l3.length l3 := (Kd.V_at (base := w.heap.size) HO3.out).2.2; have hcut19 := cut_to (P := Tryd.prog) 95 4 .i64 Tryd.underlying95 hi019 A3 l3.length c3 (l2.length : Int) (of_decide_eq_true dq21) q19 hroom19; have hr19 := Kd.F_take (m := ((l2.length : Int) : Int).toNat) hC19 dq24; have hy19 : y314.length = ((l2.length : Int) : Int).toNat := (by rw [Ny314.out, List.length_take]; omega); rw [← Ny314.out] at hr19; rw [← hy19] at hcut19; have HO318 := Aside0.mk (show Kd.V Kd.bool 4 _ w.heap.size _ (.slice A3 y314.length c3) y314 from Kd.V_mk dq24 hr19); have HC318 := Aside0.mk (show y314.length ≤ c3 from by omega); clear hr19 hC19 hroom19 hi019 hsz19; have KY19 := Aside0.mk hy19; clear hy19; replace q19 := eq_true q19))
         go_loopg [36] k (fun kq v36 w' => ∃ (x10_1 : List Bool) (x36_1 : Int), v36 = .int .i64 x36_1 ∧ Aside0 (impl_ends.l0 kq l2 x10_1 y314 (y314.length : Int) x36_1 ((rd_T93 l0 a1).f0) ((rd_T93 l0 a1).f1) ((rd_T93 l0 a1).f2) ((rd_T93 l0 a1).f3) ((rd_T93 l0 a1).f4) ((rd_T93 l0 a1).f5) ((rd_T93 l0 a1).f6) = some r) ∧ Aside0 (kq ≤ k) ∧ Aside0 (Kd.R Kd.bool 4 w' w.heap.size (fun k_ => (w.heap.size ≤ k_)) v312 x10_1) ∧ Aside0 (Kd.V Kd.bool 4 w' w.heap.size (fun k_ => (P3_ k_ ∨ w.heap.size ≤ k_) ∧ some k_ ≠ (v312 : Value).ownBlock ∧ k_ ≠ gb310) (.slice A3 y314.length c3) y314) ∧ Aside0 (w'.heap[gb310]? = some (.cells #[.int .i64 ((rd_T93 l0 a1).f0), .bool ((rd_T93 l0 a1).f1), (.slice A309_2 ((rd_T93 l0 a1).f2).length c309_2), .int .i64 ((rd_T93 l0 a1).f3), .int .i64 ((rd_T93 l0 a1).f4), .int .i64 ((rd_T93 l0 a1).f5), .int .i64 ((rd_T93 l0 a1).f6)] 93 (0, 0))) ∧ Aside0 (Below w.heap.size w w'))
         case atStart => exact ⟨(y311), (0), dq14, H', ⟨Nat.le_refl _⟩, ⟨by (with_reducible repeat (first | apply Kd.R_alloc | apply Kd.R_drewN | apply Kd.R_drew)); exact Kd.R_mono HO313.out (fun _ hk => hk.1)⟩, ⟨by (with_reducible repeat (first | apply Kd.V_alloc | apply Kd.V_drewN | apply Kd.V_drew)); exact Kd.V_mono HO318.out (fun _ hk => ⟨hk.1.1, ⟨hk.2, hk.1.2⟩⟩)⟩, ⟨dq101⟩, ⟨dq99⟩⟩
         case round =>
          clear H'
          try clear c1
          try clear q1
          try clear c2
          try clear p2
          try clear c3
          try clear p3
          try clear q3
          try clear hx3
          try clear c5
          try clear c5b0
          try clear c6
          try clear c6b0
          try clear c7
          try clear c7b0
          try clear c7b1
          try clear c10
          try clear c10b0
          try clear c10b1
          try clear c11
          try clear c11b0
          try clear c11b1
          try clear c12
          try clear c12b0
          try clear c12b1
          try clear c13
          try clear c13b0
          try clear c13b1
          try clear c14
          try clear c14b0
          try clear c14b1
          try clear q19
          try clear hcz16_0
          try clear hcz16_1
          try clear hcz16_2
          try clear hcz16_3
          try clear hcz16_4
          try clear hcz16_5
          try clear hcz16_6
          try clear hcz9_0
          try clear hcz9_1
          try clear hcz9_2
          try clear hcz9_3
          try clear hcz9_4
          try clear hcz9_5
          try clear hcz9_6
          try clear hfz16_0
          try clear hfz16_1
          try clear hfz16_2
          try clear hfz16_3
          try clear hfz16_4
          try clear hfz16_5
          try clear hfz16_6
          try clear hfz9_0
          try clear hfz9_1
          try clear hfz9_2
          try clear hfz9_3
          try clear hfz9_4
          try clear hfz9_5
          try clear hfz9_6
          try clear hx309_0
          try clear hx309_1
          try clear hx309_2
          try clear hx309_3
          try clear hx309_4
          try clear hx309_5
          try clear hx309_6
          try clear p309
          try clear q19
          try clear q309
          obtain ⟨x10_1, x36_1, rfl, HA, HK1, HO_10, HO_34, BK310, HB⟩ := hrel
          cases gk with
          | zero => exact absurd HA.out (by simp [impl_ends.l0])
          | succ k1 =>
           have H := HA.out
           clear HA
           simp only [impl_ends.l0] at H
           by_cases c20 : x36_1 < (y314.length : Int)
           ·rw [if_pos c20] at H
            have c20b0 := decide_eq_true c20
            clear c20
            by_cases c21 : 0 ≤ x36_1
            ·rw [if_pos c21] at H
             have c21b0 := decide_eq_true c21
             clear c21
             by_cases c22 : x36_1 < (y314.length : Int)
             ·rw [if_pos c22] at H
              have c22b0 := decide_eq_true c22
              clear c22
              obtain ⟨bq23, hbq23⟩ : ∃ b_ : Bool, b_ = (rdOf false y314 x36_1) := ⟨_, rfl⟩
              replace H : (if bq23 = true then (if x36_1 < (l2.length : Int) then ((impl_ClassHas.f k1 ((rd_T93 l0 a1).f0) ((rd_T93 l0 a1).f1) ((rd_T93 l0 a1).f2) ((rd_T93 l0 a1).f3) ((rd_T93 l0 a1).f4) ((rd_T93 l0 a1).f5) ((rd_T93 l0 a1).f6) (rd l2 x36_1)).bind fun t321 => (if 0 ≤ (wrap64 (x36_1 + 1)) then (if (wrap64 (x36_1 + 1)) < (x10_1.length : Int) then (impl_ends.l0 k1 l2 (x10_1.set ((wrap64 (x36_1 + 1)) : Int).toNat t321) y314 (y314.length : Int) (wrap64 (x36_1 + 1)) ((rd_T93 l0 a1).f0) ((rd_T93 l0 a1).f1) ((rd_T93 l0 a1).f2) ((rd_T93 l0 a1).f3) ((rd_T93 l0 a1).f4) ((rd_T93 l0 a1).f5) ((rd_T93 l0 a1).f6)) else (none)) else (none))) else (none)) else (if 0 ≤ (wrap64 (x36_1 + 1)) then (if (wrap64 (x36_1 + 1)) < (x10_1.length : Int) then (impl_ends.l0 k1 l2 (x10_1.set ((wrap64 (x36_1 + 1)) : Int).toNat false) y314 (y314.length : Int) (wrap64 (x36_1 + 1)) ((rd_T93 l0 a1).f0) ((rd_T93 l0 a1).f1) ((rd_T93 l0 a1).f2) ((rd_T93 l0 a1).f3) ((rd_T93 l0 a1).f4) ((rd_T93 l0 a1).f5) ((rd_T93 l0 a1).f6)) else (none)) else (none))) = some r := by rw [← hbq23] at H; exact H
              have Nbq23 := Aside0.mk hbq23
              clear hbq23
              by_cases c24 : bq23 = true
              ·subst c24
               have H1 : (if x36_1 < (l2.length : Int) then ((impl_ClassHas.f k1 ((rd_T93 l0 a1).f0) ((rd_T93 l0 a1).f1) ((rd_T93 l0 a1).f2) ((rd_T93 l0 a1).f3) ((rd_T93 l0 a1).f4) ((rd_T93 l0 a1).f5) ((rd_T93 l0 a1).f6) (rd l2 x36_1)).bind fun t321 => (if 0 ≤ (wrap64 (x36_1 + 1)) then (if (wrap64 (x36_1 + 1)) < (x10_1.length : Int) then (impl_ends.l0 k1 l2 (x10_1.set ((wrap64 (x36_1 + 1)) : Int).toNat t321) y314 (y314.length : Int) (wrap64 (x36_1 + 1)) ((rd_T93 l0 a1).f0) ((rd_T93 l0 a1).f1) ((rd_T93 l0 a1).f2) ((rd_T93 l0 a1).f3) ((rd_T93 l0 a1).f4) ((rd_T93 l0 a1).f5) ((rd_T93 l0 a1).f6)) else (none)) else (none))) else (none)) = some r := by rw [if_pos rfl] at H; exact H
               clear H
               have H := H1
               clear H1
               by_cases c25 : x36_1 < (l2.length : Int)
               ·rw [if_pos c25] at H
                have c25b0 := decide_eq_true c25
                clear c25
                replace H := Option.bind_eq_some_iff.mp H
                obtain ⟨t321, A260, H⟩ := H
                replace H : (if 0 ≤ (wrap64 (x36_1 + 1)) then (if (wrap64 (x36_1 + 1)) < (x10_1.length : Int) then (impl_ends.l0 k1 l2 (x10_1.set ((wrap64 (x36_1 + 1)) : Int).toNat t321) y314 (y314.length : Int) (wrap64 (x36_1 + 1)) ((rd_T93 l0 a1).f0) ((rd_T93 l0 a1).f1) ((rd_T93 l0 a1).f2) ((rd_T93 l0 a1).f3) ((rd_T93 l0 a1).f4) ((rd_T93 l0 a1).f5) ((rd_T93 l0 a1).f6)) else (none)) else (none)) = some r := H
                have A26 := Aside0.mk A260
                clear A260
                obtain ⟨ji27, hji27⟩ : ∃ j_ : Int, (wrap64 (x36_1 + 1)) = j_ := ⟨_, rfl⟩
                replace H : (if 0 ≤ (ji27) then (if (ji27) < (x10_1.length : Int) then (impl_ends.l0 k1 l2 (x10_1.set ((ji27) : Int).toNat t321) y314 (y314.length : Int) ji27 ((rd_T93 l0 a1).f0) ((rd_T93 l0 a1).f1) ((rd_T93 l0 a1).f2) ((rd_T93 l0 a1).f3) ((rd_T93 l0 a1).f4) ((rd_T93 l0 a1).f5) ((rd_T93 l0 a1).f6)) else (none)) else (none)) = some r := by first | (rw [hji27] at H; exact H) | (simp only [hji27] at H ⊢; exact H)
                (try rw [hji27] at A26)
                have hji27w : (IntKind.i64.wrap (x36_1 + 1)) = ji27 := (i64_w _).trans hji27
                by_cases c28 : 0 ≤ (ji27)
                ·rw [if_pos c28] at H
                 have c28b0 := decide_eq_true c28
                 clear c28
                 by_cases c29 : (ji27) < (x10_1.length : Int)
                 ·rw [if_pos c29] at H
                  have c29b0 := decide_eq_true c29
                  clear c29
                  obtain ⟨y322, hy322⟩ : ∃ y_ : List Bool, y_ = (x10_1.set ((ji27) : Int).toNat t321) := ⟨_, rfl⟩
                  replace H : (impl_ends.l0 k1 l2 y322 y314 (y314.length : Int) ji27 ((rd_T93 l0 a1).f0) ((rd_T93 l0 a1).f1) ((rd_T93 l0 a1).f2) ((rd_T93 l0 a1).f3) ((rd_T93 l0 a1).f4) ((rd_T93 l0 a1).f5) ((rd_T93 l0 a1).f6)) = some r := by first | (rw [hy322]; with_reducible exact H) | (have H2_ := (Option.bind_some _ _).symm.trans H; rw [hy322]; with_reducible exact H2_) | (have H2_ := (Option.bind_some _ _).symm.trans H; with_reducible exact H2_) | with_reducible exact H | (rw [hy322]; exact H) | exact H
                  have Ny322 := Aside0.mk hy322
                  clear hy322
                  have H' := Aside0.mk H
                  clear H
                  have p319 : 0 ≤ (x36_1 : Int) := of_decide_eq_true dq21
                  have q319 : x36_1 < (y314.length : Int) := of_decide_eq_true dq21
                  obtain ⟨ad319, e319, hx319_0⟩ := Kd.at_bool (Kd.V_reads' HO_34.out).2.2 x36_1 p319 q319
                  (try rw [← Nbq23.out] at hx319_0)
                  cases e319
                  replace p319 := eq_true p319
                  replace q319 := eq_true q319
                  try go_wp2
                  have n0_ := Aside0.mk (Kd.R_drew HO_10.out)
                  have n1_ := Aside0.mk (Kd.V_drew HO_34.out)
                  have n2_ := Aside0.mk (blk_drew BK310.out)
                  have n3_ := Aside0.mk (below_drew1 HB.out)
                  clear HO_10
                  clear HO_34
                  clear BK310
                  clear HB
                  have HO_10 := n0_
                  have HO_34 := n1_
                  have BK310 := n2_
                  have HB := n3_
                  clear n0_ n1_ n2_ n3_
                  have p320 : 0 ≤ (x36_1 : Int) := of_decide_eq_true dq21
                  have q320 : x36_1 < (l2.length : Int) := of_decide_eq_true dq21
                  obtain ⟨ad320, e320, hx320_0⟩ := Kd.at_int HR2.out x36_1 p320 q320
                  have hw320_0 := hx320_0
                  cases e320
                  replace hx320_0 := (HB.out.cell (World.block_lt_of_cell? w _ hx320_0)).trans hx320_0
                  replace p320 := eq_true p320
                  replace q320 := eq_true q320
                  refine start_ (n := 14) (S := fun w' => w'.cell? ⟨gb310, 0, none⟩ = some (.int .i64 ((rd_T93 l0 a1).f0)) ∧ w'.cell? ⟨gb310, 1, none⟩ = some (.bool ((rd_T93 l0 a1).f1)) ∧ w'.cell? ⟨gb310, 2, none⟩ = some (.slice A309_2 ((rd_T93 l0 a1).f2).length c309_2) ∧ w'.cell? ⟨gb310, 3, none⟩ = some (.int .i64 ((rd_T93 l0 a1).f3)) ∧ w'.cell? ⟨gb310, 4, none⟩ = some (.int .i64 ((rd_T93 l0 a1).f4)) ∧ w'.cell? ⟨gb310, 5, none⟩ = some (.int .i64 ((rd_T93 l0 a1).f5)) ∧ w'.cell? ⟨gb310, 6, none⟩ = some (.int .i64 ((rd_T93 l0 a1).f6)) ∧ w'.cell? (ad320.add (x36_1).toNat) = some (.int .i64 (rd l2 x36_1))) (ds := [13]) #[false, false, false, false, false, false, false, false, false, false, false, false, false, false] dq16 rfl rfl ⟨(blk_cell BK310.out 0).trans rfl, (blk_cell BK310.out 1).trans rfl, (blk_cell BK310.out 2).trans rfl, (blk_cell BK310.out 3).trans rfl, (blk_cell BK310.out 4).trans rfl, (blk_cell BK310.out 5).trans rfl, (blk_cell BK310.out 6).trans rfl, ((HB.out.cell (World.block_lt_of_cell? w _ hw320_0)).trans hw320_0)⟩ (fun hHeld => ?_); refine with_tabW impl_ends.tab10 impl_ends.bits10 (fun HT_ HW_ => ?_)
                  generalize wr.drew = w31 at HO_10 HO_34 BK310 HB hx320_0 hHeld ⊢
                  refine pureA (i := 0) (N := some 41) #[true, false, false, false, false, false, false, false, false, false, false, false, false, false] ?_
                  refine pureA (i := 1) (N := some 42) #[true, true, false, false, false, false, false, false, false, false, false, false, false, false] ?_
                  refine pureA (i := 2) (N := some 43) #[true, true, true, false, false, false, false, false, false, false, false, false, false, false] ?_
                  refine pureA (i := 3) (N := some 44) #[true, true, true, true, false, false, false, false, false, false, false, false, false, false] ?_
                  refine pureA (i := 4) (N := some 45) #[true, true, true, true, true, false, false, false, false, false, false, false, false, false] ?_
                  refine pureA (i := 6) (N := some 47) #[true, true, true, true, true, false, true, false, false, false, false, false, false, false] ?_
                  refine pureA (i := 7) (N := some 48) #[true, true, true, true, true, false, true, true, false, false, false, false, false, false] ?_
                  refine pureA (i := 8) (N := some 49) #[true, true, true, true, true, false, true, true, true, false, false, false, false, false] ?_
                  refine takeA8 (i := 5) (N := some 46) #[true, true, true, true, true, true, true, true, true, false, false, false, false, false] ?_
                  refine takeA8 (i := 9) (N := some 50) #[true, true, true, true, true, true, true, true, true, true, false, false, false, false] ?_
                  refine one_ (i := 10) (N := some 51) #[true, true, true, true, true, true, true, true, true, true, true, false, false, false] rfl rfl (one_of HT_.out dq16) dq28 (fun K hK => ?_)
                  refine goes_ Tryd.func112 dq16 rfl #[.agg #[.int .i64 ((rd_T93 l0 a1).f0), .bool ((rd_T93 l0 a1).f1), .slice A309_2 ((rd_T93 l0 a1).f2).length c309_2, .int .i64 ((rd_T93 l0 a1).f3), .int .i64 ((rd_T93 l0 a1).f4), .int .i64 ((rd_T93 l0 a1).f5), .int .i64 ((rd_T93 l0 a1).f6)], .int .i64 (rd l2 x36_1)] dq29 rfl rfl dq15 ?_
                  with_reducible refine (impl_ClassHas.calls k1 ((rd_T93 l0 a1).f0) ((rd_T93 l0 a1).f1) _ _ ((rd_T93 l0 a1).f2) ((rd_T93 l0 a1).f3) ((rd_T93 l0 a1).f4) ((rd_T93 l0 a1).f5) ((rd_T93 l0 a1).f6) (rd l2 x36_1) t321 _ ?side1 ?side2 A26.out).mono ?_
                  (case side1 => repeat (first | exact (Kd.C_below HR309_2.out HB.out) | (with_reducible refine Kd.C_alloc ?_ _) | (with_reducible refine Kd.C_drewN ?_ _) | (with_reducible refine Kd.C_drew ?_)))
                  (case side2 => exact HC309_2.out)
                  rintro e w32 ⟨rfl, hb⟩
                  refine ⟨_, rfl, ?_⟩
                  have n0_ := Aside0.mk (Kd.R_below (by (with_reducible repeat (first | apply Kd.R_alloc | apply Kd.R_drewN | apply Kd.R_drew)); exact HO_10.out) hb)
                  have n1_ := Aside0.mk (Kd.V_below (by (with_reducible repeat (first | apply Kd.V_alloc | apply Kd.V_drewN | apply Kd.V_drew)); exact HO_34.out) hb)
                  have n2_ := Aside0.mk (blk_below (g := gb310) (o := .cells #[.int .i64 ((rd_T93 l0 a1).f0), .bool ((rd_T93 l0 a1).f1), .slice A309_2 ((rd_T93 l0 a1).f2).length c309_2, .int .i64 ((rd_T93 l0 a1).f3), .int .i64 ((rd_T93 l0 a1).f4), .int .i64 ((rd_T93 l0 a1).f5), .int .i64 ((rd_T93 l0 a1).f6)] 93 (0, 0)) dq101 hb)
                  have n3_ := Aside0.mk (below_step dq99 hb)
                  clear HO_10
                  clear HO_34
                  clear BK310
                  clear HB
                  have HO_10 := n0_
                  have HO_34 := n1_
                  have BK310 := n2_
                  have HB := n3_
                  clear n0_ n1_ n2_ n3_
                  (try clear hb)
                  (try clear hb2)
                  (try clear hk)
                  (try clear hi)
                  have p30 : 0 ≤ ((ji27) : Int) := of_decide_eq_true dq21
                  have q30 : ((ji27) : Int) < ((x10_1.length : Int) : Int) := of_decide_eq_true dq21
                  obtain ⟨go30, co30, eo30, gb30, gl30, cl30, HG30⟩ := Kd.R_form HO_10.out dq24
                  (first | cases eo30 | (injection eo30 with ea_ en_ ec_; (first | subst ea_ | (injection ea_ with ea_; subst ea_)); subst ec_; clear en_))
                  have GB30 := Aside0.mk gb30
                  have GG30 := Aside0.mk HG30
                  clear gb30 gl30 HG30
                  obtain ⟨hx30_0, hf30_0⟩ := Kd.R_celln false HO_10.out ((ji27) : Int) p30 q30
                  replace p30 := eq_true p30
                  replace q30 := eq_true q30
                  have HP33 := Kd.R_putn HO_10.out ((ji27) : Int) t321
                  rw [← Ny322.out] at HP33
                  have HQ33 := Aside0.mk HP33
                  clear HP33
                  refine hK.out _ _ ⟨(blk_cell BK310.out 0).trans rfl, (blk_cell BK310.out 1).trans rfl, (blk_cell BK310.out 2).trans rfl, (blk_cell BK310.out 3).trans rfl, (blk_cell BK310.out 4).trans rfl, (blk_cell BK310.out 5).trans rfl, (blk_cell BK310.out 6).trans rfl, ((HB.out.cell (World.block_lt_of_cell? w _ hw320_0)).trans hw320_0)⟩ (fun hHeld => ?_)
                  clear hK K
                  refine norm_ (a' := ?_) ?_ ?_
                  rotate_left
                  ·show Act.put _ (some 51) _ = _
                   simp only [Act.put, List.setIfInBounds_toArray, List.set_cons_zero, List.set_cons_succ, i64_w, i32_w]
                   rfl
                  refine pureA (i := 11) (N := some 52) #[true, true, true, true, true, true, true, true, true, true, true, true, false, false] ?_
                  refine pureA (i := 12) (N := some 53) #[true, true, true, true, true, true, true, true, true, true, true, true, true, false] ?_
                  refine last_ (i := 13) (N := none) #[true, true, true, true, true, true, true, true, true, true, true, true, true, true] rfl rfl (one_of HT_.out dq16) dq28 (fun K hK => ?_)
                  refine skip_ (w1 := ?_) dq29 rfl ?_ ?_
                  rotate_left
                  ·go_simp
                   rfl
                  refine hK.out _ _ ?_
                  clear hK K
                  refine done_ (done_of HT_.out dq16) ?_
                  try go_wp2
                  go_roundg k1
                  case measure => have := HK1.out; omega
                  case rel => exact ⟨(y322), (ji27), (by first | rfl | (simp; done) | (simp only [← hji27] <;> (first | rfl | simp)) | (simp [*]; done)), H', ⟨dq22⟩, ⟨by (with_reducible repeat (first | apply Kd.R_alloc | apply Kd.R_drewN | apply Kd.R_drew)); exact HQ33.out⟩, ⟨by (with_reducible repeat (first | apply Kd.V_alloc | apply Kd.V_drewN | apply Kd.V_drew)); exact Kd.V_mono (Kd.V_far (p := ⟨go30, ((ji27) : Int).toNat, none⟩) (Kd.V_mono HO_34.out (fun k_ hk => (⟨hk, fun e_ => hk.2.1 dq70⟩ : _ ∧ k_ ≠ go30))) (fun _ hk => hk.2) (.bool t321)) (fun _ hk => ⟨hk.1.1, ⟨hk.1.2.1, hk.1.2.2⟩⟩)⟩, ⟨dq102⟩, ⟨by repeat (first | (with_reducible first | exact HB.out | apply below_alloc | apply pw_below_drewN | apply below_drew1 | refine below_set ?_ GB30.out | refine below_set ?_ GE310.out) | exact HB.out)⟩⟩
                 ·rw [if_neg c29] at H
                  exact absurd H dq23
                ·rw [if_neg c28] at H
                 exact absurd H dq23
               ·rw [if_neg c25] at H
                exact absurd H dq23
              ·replace c24 := Bool.eq_false_iff.mpr c24
               subst c24
               have H1 : (if 0 ≤ (wrap64 (x36_1 + 1)) then (if (wrap64 (x36_1 + 1)) < (x10_1.length : Int) then (impl_ends.l0 k1 l2 (x10_1.set ((wrap64 (x36_1 + 1)) : Int).toNat false) y314 (y314.length : Int) (wrap64 (x36_1 + 1)) ((rd_T93 l0 a1).f0) ((rd_T93 l0 a1).f1) ((rd_T93 l0 a1).f2) ((rd_T93 l0 a1).f3) ((rd_T93 l0 a1).f4) ((rd_T93 l0 a1).f5) ((rd_T93 l0 a1).f6)) else (none)) else (none)) = some r := by rw [if_neg (show ¬ (false = true) by decide)] at H; exact H
               clear H
               have H := H1
               clear H1
               obtain ⟨ji34, hji34⟩ : ∃ j_ : Int, (wrap64 (x36_1 + 1)) = j_ := ⟨_, rfl⟩
               replace H : (if 0 ≤ (ji34) then (if (ji34) < (x10_1.length : Int) then (impl_ends.l0 k1 l2 (x10_1.set ((ji34) : Int).toNat false) y314 (y314.length : Int) ji34 ((rd_T93 l0 a1).f0) ((rd_T93 l0 a1).f1) ((rd_T93 l0 a1).f2) ((rd_T93 l0 a1).f3) ((rd_T93 l0 a1).f4) ((rd_T93 l0 a1).f5) ((rd_T93 l0 a1).f6)) else (none)) else (none)) = some r := by first | (rw [hji34] at H; exact H) | (simp only [hji34] at H ⊢; exact H)
               have hji34w : (IntKind.i64.wrap (x36_1 + 1)) = ji34 := (i64_w _).trans hji34
               by_cases c35 : 0 ≤ (ji34)
               ·rw [if_pos c35] at H
                have c35b0 := decide_eq_true c35
                clear c35
                by_cases c36 : (ji34) < (x10_1.length : Int)
                ·rw [if_pos c36] at H
                 have c36b0 := decide_eq_true c36
                 clear c36
                 obtain ⟨y323, hy323⟩ : ∃ y_ : List Bool, y_ = (x10_1.set ((ji34) : Int).toNat false) := ⟨_, rfl⟩
                 replace H : (impl_ends.l0 k1 l2 y323 y314 (y314.length : Int) ji34 ((rd_T93 l0 a1).f0) ((rd_T93 l0 a1).f1) ((rd_T93 l0 a1).f2) ((rd_T93 l0 a1).f3) ((rd_T93 l0 a1).f4) ((rd_T93 l0 a1).f5) ((rd_T93 l0 a1).f6)) = some r := by first | (rw [hy323]; with_reducible exact H) | (have H2_ := (Option.bind_some _ _).symm.trans H; rw [hy323]; with_reducible exact H2_) | (have H2_ := (Option.bind_some _ _).symm.trans H; with_reducible exact H2_) | with_reducible exact H | (rw [hy323]; exact H) | exact H
                 have Ny323 := Aside0.mk hy323
                 clear hy323
                 have H' := Aside0.mk H
                 clear H
                 have p319 : 0 ≤ (x36_1 : Int) := of_decide_eq_true dq21
                 have q319 : x36_1 < (y314.length : Int) := of_decide_eq_true dq21
                 obtain ⟨ad319, e319, hx319_0⟩ := Kd.at_bool (Kd.V_reads' HO_34.out).2.2 x36_1 p319 q319
                 (try rw [← Nbq23.out] at hx319_0)
                 cases e319
                 replace p319 := eq_true p319
                 replace q319 := eq_true q319
                 try go_wp2
                 have n0_ := Aside0.mk (Kd.R_drew HO_10.out)
                 have n1_ := Aside0.mk (Kd.V_drew HO_34.out)
                 have n2_ := Aside0.mk (blk_drew BK310.out)
                 have n3_ := Aside0.mk (below_drew1 HB.out)
                 clear HO_10
                 clear HO_34
                 clear BK310
                 clear HB
                 have HO_10 := n0_
                 have HO_34 := n1_
                 have BK310 := n2_
                 have HB := n3_
                 clear n0_ n1_ n2_ n3_
                 have p37 : 0 ≤ ((ji34) : Int) := of_decide_eq_true dq21
                 have q37 : ((ji34) : Int) < ((x10_1.length : Int) : Int) := of_decide_eq_true dq21
                 obtain ⟨go37, co37, eo37, gb37, gl37, cl37, HG37⟩ := Kd.R_form HO_10.out dq24
                 (first | cases eo37 | (injection eo37 with ea_ en_ ec_; (first | subst ea_ | (injection ea_ with ea_; subst ea_)); subst ec_; clear en_))
                 have GB37 := Aside0.mk gb37
                 have GG37 := Aside0.mk HG37
                 clear gb37 gl37 HG37
                 obtain ⟨hx37_0, hf37_0⟩ := Kd.R_celln false HO_10.out ((ji34) : Int) p37 q37
                 replace p37 := eq_true p37
                 replace q37 := eq_true q37
                 have HP39 := Kd.R_putn HO_10.out ((ji34) : Int) false
                 rw [← Ny323.out] at HP39
                 have HQ39 := Aside0.mk HP39
                 clear HP39
                 refine start_ (n := 14) (S := fun w' => True) (ds := [13]) #[false, false, false, false, false, false, false, false, false, false, false, false, false, false] dq16 rfl rfl trivial (fun hHeld => ?_); refine with_tabW impl_ends.tab10 impl_ends.bits10 (fun HT_ HW_ => ?_)
                 generalize wr.drew = w38 at HO_10 HO_34 BK310 HB GG37 HQ39 hf37_0 hx37_0 hHeld ⊢
                 refine pureA (i := 0) (N := some 41) #[true, false, false, false, false, false, false, false, false, false, false, false, false, false] ?_
                 refine pureA (i := 1) (N := some 42) #[true, true, false, false, false, false, false, false, false, false, false, false, false, false] ?_
                 refine pureA (i := 2) (N := some 43) #[true, true, true, false, false, false, false, false, false, false, false, false, false, false] ?_
                 refine pureA (i := 3) (N := some 44) #[true, true, true, true, false, false, false, false, false, false, false, false, false, false] ?_
                 refine pureA (i := 4) (N := some 45) #[true, true, true, true, true, false, false, false, false, false, false, false, false, false] ?_
                 refine pure_ (i := 5) (N := some 46) (v := undef) (a' := ?_) #[true, true, true, true, true, true, false, false, false, false, false, false, false, false] rfl rfl (any_of HT_.out dq16) (fun _ _ _ h => h) (Or.inr ⟨dq29, rfl⟩) ?_ ?_
                 rotate_left
                 ·exact dAct
                 refine pure_ (i := 6) (N := some 47) (v := undef) (a' := ?_) #[true, true, true, true, true, true, true, false, false, false, false, false, false, false] rfl rfl (any_of HT_.out dq16) (fun _ _ _ h => h) (Or.inr ⟨dq29, rfl⟩) ?_ ?_
                 rotate_left
                 ·exact dAct
                 refine pure_ (i := 7) (N := some 48) (v := undef) (a' := ?_) #[true, true, true, true, true, true, true, true, false, false, false, false, false, false] rfl rfl (any_of HT_.out dq16) (fun _ _ _ h => h) (Or.inr ⟨dq29, rfl⟩) ?_ ?_
                 rotate_left
                 ·exact dAct
                 refine pure_ (i := 8) (N := some 49) (v := undef) (a' := ?_) #[true, true, true, true, true, true, true, true, true, false, false, false, false, false] rfl rfl (any_of HT_.out dq16) (fun _ _ _ h => h) (Or.inr ⟨dq29, rfl⟩) ?_ ?_
                 rotate_left
                 ·exact dAct
                 refine pure_ (i := 9) (N := some 50) (v := undef) (a' := ?_) #[true, true, true, true, true, true, true, true, true, true, false, false, false, false] rfl rfl (any_of HT_.out dq16) (fun _ _ _ h => h) (Or.inr ⟨dq29, rfl⟩) ?_ ?_
                 rotate_left
                 ·exact dAct
                 refine pure_ (i := 10) (N := some 51) (v := undef) (a' := ?_) #[true, true, true, true, true, true, true, true, true, true, true, false, false, false] rfl rfl (any_of HT_.out dq16) (fun _ _ _ h => h) (Or.inr ⟨dq29, rfl⟩) ?_ ?_
                 rotate_left
                 ·exact dAct
                 refine pureA (i := 11) (N := some 52) #[true, true, true, true, true, true, true, true, true, true, true, true, false, false] ?_
                 refine pureA (i := 12) (N := some 53) #[true, true, true, true, true, true, true, true, true, true, true, true, true, false] ?_
                 refine last_ (i := 13) (N := none) #[true, true, true, true, true, true, true, true, true, true, true, true, true, true] rfl rfl (one_of HT_.out dq16) dq28 (fun K hK => ?_)
                 refine skip_ (w1 := ?_) dq29 rfl ?_ ?_
                 rotate_left
                 ·go_simp
                  rfl
                 refine hK.out _ _ ?_
                 clear hK K
                 refine done_ (done_of HT_.out dq16) ?_
                 try go_wp2
                 go_roundg k1
                 case measure => have := HK1.out; omega
                 case rel => exact ⟨(y323), (ji34), (by first | rfl | (simp; done) | (simp only [← hji34] <;> (first | rfl | simp)) | (simp [*]; done)), H', ⟨dq22⟩, ⟨by (with_reducible repeat (first | apply Kd.R_alloc | apply Kd.R_drewN | apply Kd.R_drew)); exact HQ39.out⟩, ⟨by (with_reducible repeat (first | apply Kd.V_alloc | apply Kd.V_drewN | apply Kd.V_drew)); exact Kd.V_mono (Kd.V_far (p := ⟨go37, ((ji34) : Int).toNat, none⟩) (Kd.V_mono HO_34.out (fun k_ hk => (⟨hk, fun e_ => hk.2.1 dq70⟩ : _ ∧ k_ ≠ go37))) (fun _ hk => hk.2) (.bool false)) (fun _ hk => ⟨hk.1.1, ⟨hk.1.2.1, hk.1.2.2⟩⟩)⟩, ⟨dq102⟩, ⟨by repeat (first | (with_reducible first | exact HB.out | apply below_alloc | apply pw_below_drewN | apply below_drew1 | refine below_set ?_ GB37.out | refine below_set ?_ GE310.out) | exact HB.out)⟩⟩
                ·rw [if_neg c36] at H
                 exact absurd H dq23
               ·rw [if_neg c35] at H
                exact absurd H dq23
             ·rw [if_neg c22] at H
              exact absurd H dq23
            ·rw [if_neg c21] at H
             exact absurd H dq23
           ·rw [if_neg c20] at H
            have c20b0 := decide_eq_false c20
            clear c20
            obtain rfl := Option.some.inj H
            go_wp2
            go_ret
            exact ⟨_, dq20, Kd.V_mono (Kd.R_V (by (with_reducible repeat (first | apply Kd.R_alloc | apply Kd.R_drewN | apply Kd.R_drew)); exact HO_10.out)) (fun k_ hk => by first | exact ⟨(.inr (hk.1)), hk.2⟩ | exact (.inr (hk))), dq99⟩
        ·rw [if_neg c14] at H
         exact absurd H dq23
       ·rw [if_neg c13] at H
        exact absurd H dq23
      ·rw [if_neg c12] at H
       exact absurd H dq23
     ·rw [if_neg c11] at H
      exact absurd H dq23
    ·rw [if_neg c10] at H
     have c10b0 := beq_eq_false_iff_ne.mpr c10
     have c10b1 := bne_iff_ne.mpr c10
     by_cases c40 : ((rd_T93 l0 a1).f0) = 3
     ·rw [if_pos c40] at H
      have c40b0 := beq_iff_eq.mpr c40
      have c40b1 := bne_eq_false_iff_eq.mpr c40
      clear c40
      replace H := Option.bind_eq_some_iff.mp H
      obtain ⟨t324, A410, H⟩ := H
      replace H : ((impl_ends.f k l0 ((rd_T93 l0 a1).f4) l2 t324).bind fun t327 => (some t327)) = some r := H
      have A41 := Aside0.mk A410
      clear A410
      replace H := Option.bind_eq_some_iff.mp H
      obtain ⟨t327, A420, H⟩ := H
      replace H : (some t327) = some r := H
      have A42 := Aside0.mk A420
      clear A420
      obtain rfl := Option.some.inj H
      have p309 : 0 ≤ (a1 : Int) := of_decide_eq_true dq21
      have q309 : a1 < (l0.length : Int) := of_decide_eq_true dq21
      obtain ⟨ad309, A309_2, c309_2, e309, hx309_0, hx309_1, hx309_2, hx309_3, hx309_4, hx309_5, hx309_6, hl309_2, hi309_2⟩ := at_T93 HR0.out a1 p309 q309
      cases e309
      have HR309_2 := Aside0.mk hi309_2
      have HC309_2 := Aside0.mk hl309_2
      clear hi309_2 hl309_2
      replace p309 := eq_true p309
      replace q309 := eq_true q309
      go_enter Tryd.func77, Tryd.ntmps77
      try go_wp2_with (first | ((with_reducible refine gate_dst (N := 9) rfl ?_); refine box_event ?hg (N := 9) ?hd (cs := #[.int .i64 0, .bool false, .slice none 0 0, .int .i64 0, .int .i64 0, .int .i64 0, .int .i64 0]) (t := 93) ?hr ?_; (case hd => rfl); (case hg => rfl); (case hr => exact dq0); intro gb310 hg w43 hbox hb; have n0_ := Aside0.mk (Kd.V_below (Kd.V_elderB dq98 gb310 (Nat.le_of_eq hg.symm)) hb); have n1_ := Aside0.mk (below_step dq18 hb); have n2_ := Aside0.mk (hbox); have n3_ := Aside0.mk ((dq17 : w.heap.size ≤ gb310)); have n4_ := Aside0.mk ((dq17 : w.heap.size ≤ gb310)); clear HO3; clear HB; have HO3 := n0_; have HB := n1_; have BK310 := n2_; have GW310 := n3_; have GE310 := n4_; clear n0_ n1_ n2_ n3_ n4_; clear hb hbox hg; obtain ⟨⟨hcz44_0, hcz44_1, hcz44_2, hcz44_3, hcz44_4, hcz44_5, hcz44_6⟩, hfz44_0, hfz44_1, hfz44_2, hfz44_3, hfz44_4, hfz44_5, hfz44_6⟩ := blkC7 BK310.out))
      have n0_ : Aside0 (Kd.V Kd.bool 4 (((((((w43.setCell ⟨gb310, 0, none⟩ (.int .i64 ((rd_T93 l0 a1).f0))).setCell ⟨gb310, 1, none⟩ (.bool ((rd_T93 l0 a1).f1))).setCell ⟨gb310, 2, none⟩ (.slice A309_2 ((rd_T93 l0 a1).f2).length c309_2)).setCell ⟨gb310, 3, none⟩ (.int .i64 ((rd_T93 l0 a1).f3))).setCell ⟨gb310, 4, none⟩ (.int .i64 ((rd_T93 l0 a1).f4))).setCell ⟨gb310, 5, none⟩ (.int .i64 ((rd_T93 l0 a1).f5))).setCell ⟨gb310, 6, none⟩ (.int .i64 ((rd_T93 l0 a1).f6))) w.heap.size (fun k_ => (P3_ k_ ∨ w.heap.size ≤ k_) ∧ k_ ≠ gb310) (.slice A3 l3.length c3) l3) := ⟨dq103⟩
      have n1_ : Aside0 ((((((((w43.setCell ⟨gb310, 0, none⟩ (.int .i64 ((rd_T93 l0 a1).f0))).setCell ⟨gb310, 1, none⟩ (.bool ((rd_T93 l0 a1).f1))).setCell ⟨gb310, 2, none⟩ (.slice A309_2 ((rd_T93 l0 a1).f2).length c309_2)).setCell ⟨gb310, 3, none⟩ (.int .i64 ((rd_T93 l0 a1).f3))).setCell ⟨gb310, 4, none⟩ (.int .i64 ((rd_T93 l0 a1).f4))).setCell ⟨gb310, 5, none⟩ (.int .i64 ((rd_T93 l0 a1).f5))).setCell ⟨gb310, 6, none⟩ (.int .i64 ((rd_T93 l0 a1).f6))).heap[gb310]? = some (.cells #[.int .i64 ((rd_T93 l0 a1).f0), .bool ((rd_T93 l0 a1).f1), .slice A309_2 ((rd_T93 l0 a1).f2).length c309_2, .int .i64 ((rd_T93 l0 a1).f3), .int .i64 ((rd_T93 l0 a1).f4), .int .i64 ((rd_T93 l0 a1).f5), .int .i64 ((rd_T93 l0 a1).f6)] 93 (0, 0))) := ⟨dq100⟩
      have n2_ : Aside0 (Below w.heap.size w (((((((w43.setCell ⟨gb310, 0, none⟩ (.int .i64 ((rd_T93 l0 a1).f0))).setCell ⟨gb310, 1, none⟩ (.bool ((rd_T93 l0 a1).f1))).setCell ⟨gb310, 2, none⟩ (.slice A309_2 ((rd_T93 l0 a1).f2).length c309_2)).setCell ⟨gb310, 3, none⟩ (.int .i64 ((rd_T93 l0 a1).f3))).setCell ⟨gb310, 4, none⟩ (.int .i64 ((rd_T93 l0 a1).f4))).setCell ⟨gb310, 5, none⟩ (.int .i64 ((rd_T93 l0 a1).f5))).setCell ⟨gb310, 6, none⟩ (.int .i64 ((rd_T93 l0 a1).f6)))) := ⟨dq99⟩
      (try clear HO3)
      (try clear BK310)
      (try clear HB)
      generalize (((((((w43.setCell ⟨gb310, 0, none⟩ (.int .i64 ((rd_T93 l0 a1).f0))).setCell ⟨gb310, 1, none⟩ (.bool ((rd_T93 l0 a1).f1))).setCell ⟨gb310, 2, none⟩ (.slice A309_2 ((rd_T93 l0 a1).f2).length c309_2)).setCell ⟨gb310, 3, none⟩ (.int .i64 ((rd_T93 l0 a1).f3))).setCell ⟨gb310, 4, none⟩ (.int .i64 ((rd_T93 l0 a1).f4))).setCell ⟨gb310, 5, none⟩ (.int .i64 ((rd_T93 l0 a1).f5))).setCell ⟨gb310, 6, none⟩ (.int .i64 ((rd_T93 l0 a1).f6))) = w45 at n0_ n1_ n2_ ⊢
      have HO3 := n0_
      have BK310 := n1_
      have HB := n2_
      clear n0_ n1_ n2_
      have n0_ := Aside0.mk (Kd.V_drew HO3.out)
      have n1_ := Aside0.mk (blk_drew BK310.out)
      have n2_ := Aside0.mk (below_drew1 HB.out)
      clear HO3
      clear BK310
      clear HB
      have HO3 := n0_
      have BK310 := n1_
      have HB := n2_
      clear n0_ n1_ n2_
      refine start_ (n := 12) (S := fun w' => w'.cell? ⟨gb310, 0, none⟩ = some (.int .i64 ((rd_T93 l0 a1).f0)) ∧ w'.cell? ⟨gb310, 1, none⟩ = some (.bool ((rd_T93 l0 a1).f1)) ∧ w'.cell? ⟨gb310, 2, none⟩ = some (.slice A309_2 ((rd_T93 l0 a1).f2).length c309_2) ∧ w'.cell? ⟨gb310, 3, none⟩ = some (.int .i64 ((rd_T93 l0 a1).f3)) ∧ w'.cell? ⟨gb310, 4, none⟩ = some (.int .i64 ((rd_T93 l0 a1).f4)) ∧ w'.cell? ⟨gb310, 5, none⟩ = some (.int .i64 ((rd_T93 l0 a1).f5)) ∧ w'.cell? ⟨gb310, 6, none⟩ = some (.int .i64 ((rd_T93 l0 a1).f6))) (ds := []) #[false, false, false, false, false, false, false, false, false, false, false, false] dq16 rfl rfl ⟨(blk_cell BK310.out 0).trans rfl, (blk_cell BK310.out 1).trans rfl, (blk_cell BK310.out 2).trans rfl, (blk_cell BK310.out 3).trans rfl, (blk_cell BK310.out 4).trans rfl, (blk_cell BK310.out 5).trans rfl, (blk_cell BK310.out 6).trans rfl⟩ (fun hHeld => ?_); refine with_tabW impl_ends.tab14 impl_ends.bits14 (fun HT_ HW_ => ?_)
      generalize w45.drew = w46 at HO3 BK310 HB hHeld ⊢
      refine pureA (i := 0) (N := some 58) #[true, false, false, false, false, false, false, false, false, false, false, false] ?_
      refine pureA (i := 1) (N := some 59) #[true, true, false, false, false, false, false, false, false, false, false, false] ?_
      refine pureA (i := 3) (N := some 61) #[true, true, false, true, false, false, false, false, false, false, false, false] ?_
      refine pureA (i := 4) (N := some 62) #[true, true, false, true, true, false, false, false, false, false, false, false] ?_
      refine pureA (i := 5) (N := some 63) #[true, true, false, true, true, true, false, false, false, false, false, false] ?_
      refine pureA (i := 7) (N := some 65) #[true, true, false, true, true, true, false, true, false, false, false, false] ?_
      refine pureA (i := 8) (N := some 66) #[true, true, false, true, true, true, false, true, true, false, false, false] ?_
      refine takeA7 (i := 2) (N := some 60) #[true, true, true, true, true, true, false, true, true, false, false, false] ?_
      refine takeA7 (i := 6) (N := some 64) #[true, true, true, true, true, true, true, true, true, false, false, false] ?_
      refine one_ (i := 9) (N := some 67) #[true, true, true, true, true, true, true, true, true, true, false, false] rfl rfl (one_of HT_.out dq16) dq28 (fun K hK => ?_)
      refine goes_ Tryd.func77 dq16 rfl #[.slice (some ad309) l0.length c0, .int .i64 ((rd_T93 l0 a1).f3), .slice A2 l2.length c2, .slice A3 l3.length c3] dq29 rfl rfl dq15 ?_
      with_reducible refine (ih k dq24 _ _ l0 ((rd_T93 l0 a1).f3) _ _ l2 (fun k_ => ((P3_ k_ ∨ w.heap.size ≤ k_) ∧ k_ ≠ gb310)) _ _ l3 t324 _ ?side1 ?side2 ?side3 ?side4 ?side5 A41.out).mono ?_
      (case side1 => exact dq4)
      (case side2 => exact dq3)
      (case side3 => exact dq5)
      (case side4 => exact HC2.out)
      (case side5 => exact HO3.out)
      rintro e w47 ⟨v325, rfl, ho0, hb⟩
      refine ⟨_, rfl, ?_⟩
      have n0_ := Aside0.mk (Kd.V_below dq98 hb)
      have n1_ := Aside0.mk (Kd.V_lower (Kd.V_mono (ok' := fun k_ => (P3_ k_ ∨ w.heap.size ≤ k_) ∧ k_ ≠ gb310) ho0 (fun k_ hk_ => ⟨Or.elim hk_ (fun hs_ => hs_.1) (fun hn_ => (.inr (Nat.le_trans (below_size dq99) hn_))), Or.elim hk_ (fun hs_ => hs_.2) (fun hn_ => (Kd.freshB (g := gb310) (o := .cells #[.int .i64 ((rd_T93 l0 a1).f0), .bool ((rd_T93 l0 a1).f1), .slice A309_2 ((rd_T93 l0 a1).f2).length c309_2, .int .i64 ((rd_T93 l0 a1).f3), .int .i64 ((rd_T93 l0 a1).f4), .int .i64 ((rd_T93 l0 a1).f5), .int .i64 ((rd_T93 l0 a1).f6)] 93 (0, 0)) dq101 k_ hn_))⟩)) (below_size dq99))
      have n2_ := Aside0.mk (blk_below (g := gb310) (o := .cells #[.int .i64 ((rd_T93 l0 a1).f0), .bool ((rd_T93 l0 a1).f1), .slice A309_2 ((rd_T93 l0 a1).f2).length c309_2, .int .i64 ((rd_T93 l0 a1).f3), .int .i64 ((rd_T93 l0 a1).f4), .int .i64 ((rd_T93 l0 a1).f5), .int .i64 ((rd_T93 l0 a1).f6)] 93 (0, 0)) dq101 hb)
      have n3_ := Aside0.mk (below_step dq99 hb)
      clear HO3
      clear BK310
      clear HB
      have HO3 := n0_
      have HO326 := n1_
      have BK310 := n2_
      have HB := n3_
      clear n0_ n1_ n2_ n3_
      (try clear hb)
      (try clear hb2)
      (try clear hk)
      (try clear hi)
      (try clear ho0)
      obtain ⟨Ao48, co48, eo48⟩ := Kd.V_slice HO326.out
      (first | subst eo48 | (injection eo48 with f1_ f2_ f3_; have f4_ := f1_.symm; have f5_ := f3_.symm; clear f1_ f2_ f3_; subst f4_; subst f5_))
      refine hK.out _ _ ⟨(blk_cell BK310.out 0).trans rfl, (blk_cell BK310.out 1).trans rfl, (blk_cell BK310.out 2).trans rfl, (blk_cell BK310.out 3).trans rfl, (blk_cell BK310.out 4).trans rfl, (blk_cell BK310.out 5).trans rfl, (blk_cell BK310.out 6).trans rfl⟩ (fun hHeld => ?_)
      clear hK K
      refine norm_ (a' := ?_) ?_ ?_
      rotate_left
      ·show Act.put _ (some 67) _ = _
       simp only [Act.put, List.setIfInBounds_toArray, List.set_cons_zero, List.set_cons_succ, i64_w, i32_w]
       rfl
      refine one_ (i := 10) (N := some 68) #[true, true, true, true, true, true, true, true, true, true, true, false] rfl rfl (one_of HT_.out dq16) dq28 (fun K hK => ?_)
      refine goes_ Tryd.func77 dq16 rfl #[.slice (some ad309) l0.length c0, .int .i64 ((rd_T93 l0 a1).f4), .slice A2 l2.length c2, .slice Ao48 t324.length co48] dq29 rfl rfl dq15 ?_
      with_reducible refine (ih k dq24 _ _ l0 ((rd_T93 l0 a1).f4) _ _ l2 (fun k_ => ((P3_ k_ ∨ w.heap.size ≤ k_) ∧ k_ ≠ gb310)) _ _ t324 t327 _ ?side1 ?side2 ?side3 ?side4 ?side5 A42.out).mono ?_
      (case side1 => exact dq4)
      (case side2 => exact dq3)
      (case side3 => exact dq5)
      (case side4 => exact HC2.out)
      (case side5 => exact HO326.out)
      rintro e w49 ⟨v328, rfl, ho0, hb⟩
      refine ⟨_, rfl, ?_⟩
      have n0_ := Aside0.mk (Kd.V_below dq98 hb)
      have n1_ := Aside0.mk (Kd.V_below (by (with_reducible repeat (first | apply Kd.V_alloc | apply Kd.V_drewN | apply Kd.V_drew)); exact HO326.out) hb)
      have n2_ := Aside0.mk (Kd.V_lower (Kd.V_mono (ok' := fun k_ => (P3_ k_ ∨ w.heap.size ≤ k_) ∧ k_ ≠ gb310) ho0 (fun k_ hk_ => ⟨Or.elim hk_ (fun hs_ => hs_.1) (fun hn_ => (.inr (Nat.le_trans (below_size dq99) hn_))), Or.elim hk_ (fun hs_ => hs_.2) (fun hn_ => (Kd.freshB (g := gb310) (o := .cells #[.int .i64 ((rd_T93 l0 a1).f0), .bool ((rd_T93 l0 a1).f1), .slice A309_2 ((rd_T93 l0 a1).f2).length c309_2, .int .i64 ((rd_T93 l0 a1).f3), .int .i64 ((rd_T93 l0 a1).f4), .int .i64 ((rd_T93 l0 a1).f5), .int .i64 ((rd_T93 l0 a1).f6)] 93 (0, 0)) dq101 k_ hn_))⟩)) (below_size dq99))
      have n3_ := Aside0.mk (blk_below (g := gb310) (o := .cells #[.int .i64 ((rd_T93 l0 a1).f0), .bool ((rd_T93 l0 a1).f1), .slice A309_2 ((rd_T93 l0 a1).f2).length c309_2, .int .i64 ((rd_T93 l0 a1).f3), .int .i64 ((rd_T93 l0 a1).f4), .int .i64 ((rd_T93 l0 a1).f5), .int .i64 ((rd_T93 l0 a1).f6)] 93 (0, 0)) dq101 hb)
      have n4_ := Aside0.mk (below_step dq99 hb)
      clear HO3
      clear HO326
      clear BK310
      clear HB
      have HO3 := n0_
      have HO326 := n1_
      have HO329 := n2_
      have BK310 := n3_
      have HB := n4_
      clear n0_ n1_ n2_ n3_ n4_
      (try clear hb)
      (try clear hb2)
      (try clear hk)
      (try clear hi)
      (try clear ho0)
      refine hK.out _ _ ⟨(blk_cell BK310.out 0).trans rfl, (blk_cell BK310.out 1).trans rfl, (blk_cell BK310.out 2).trans rfl, (blk_cell BK310.out 3).trans rfl, (blk_cell BK310.out 4).trans rfl, (blk_cell BK310.out 5).trans rfl, (blk_cell BK310.out 6).trans rfl⟩ (fun hHeld => ?_)
      clear hK K
      refine norm_ (a' := ?_) ?_ ?_
      rotate_left
      ·show Act.put _ (some 68) _ = _
       simp only [Act.put, List.setIfInBounds_toArray, List.set_cons_zero, List.set_cons_succ, i64_w, i32_w]
       rfl
      refine pureA (i := 11) (N := some 8) #[true, true, true, true, true, true, true, true, true, true, true, true] ?_
      refine done_ (done_of HT_.out dq16) ?_
      try go_wp2
      go_ret
      exact ⟨_, dq20, by (with_reducible repeat (first | apply Kd.V_alloc | apply Kd.V_drewN | apply Kd.V_drew)); exact Kd.V_mono HO329.out (fun _ hk => hk.1), dq99⟩
     ·rw [if_neg c40] at H
      have c40b0 := beq_eq_false_iff_ne.mpr c40
      have c40b1 := bne_iff_ne.mpr c40
      by_cases c50 : ((rd_T93 l0 a1).f0) = 4
      ·rw [if_pos c50] at H
       have c50b0 := beq_iff_eq.mpr c50
       have c50b1 := bne_eq_false_iff_eq.mpr c50
       clear c50
       replace H := Option.bind_eq_some_iff.mp H
       obtain ⟨t330, A510, H⟩ := H
       replace H : ((impl_ends.f k l0 ((rd_T93 l0 a1).f4) l2 l3).bind fun t333 => ((impl_places_joined.f k t330 t333).bind fun t336 => (some t336))) = some r := H
       have A51 := Aside0.mk A510
       clear A510
       replace H := Option.bind_eq_some_iff.mp H
       obtain ⟨t333, A520, H⟩ := H
       replace H : ((impl_places_joined.f k t330 t333).bind fun t336 => (some t336)) = some r := H
       have A52 := Aside0.mk A520
       clear A520
       replace H := Option.bind_eq_some_iff.mp H
       obtain ⟨t336, A530, H⟩ := H
       replace H : (some t336) = some r := H
       have A53 := Aside0.mk A530
       clear A530
       obtain rfl := Option.some.inj H
       have p309 : 0 ≤ (a1 : Int) := of_decide_eq_true dq21
       have q309 : a1 < (l0.length : Int) := of_decide_eq_true dq21
       obtain ⟨ad309, A309_2, c309_2, e309, hx309_0, hx309_1, hx309_2, hx309_3, hx309_4, hx309_5, hx309_6, hl309_2, hi309_2⟩ := at_T93 HR0.out a1 p309 q309
       cases e309
       have HR309_2 := Aside0.mk hi309_2
       have HC309_2 := Aside0.mk hl309_2
       clear hi309_2 hl309_2
       replace p309 := eq_true p309
       replace q309 := eq_true q309
       go_enter Tryd.func77, Tryd.ntmps77
       try go_wp2_with (first | ((with_reducible refine gate_dst (N := 9) rfl ?_); refine box_event ?hg (N := 9) ?hd (cs := #[.int .i64 0, .bool false, .slice none 0 0, .int .i64 0, .int .i64 0, .int .i64 0, .int .i64 0]) (t := 93) ?hr ?_; (case hd => rfl); (case hg => rfl); (case hr => exact dq0); intro gb310 hg w54 hbox hb; have n0_ := Aside0.mk (Kd.V_below (Kd.V_elderB dq98 gb310 (Nat.le_of_eq hg.symm)) hb); have n1_ := Aside0.mk (below_step dq18 hb); have n2_ := Aside0.mk (hbox); have n3_ := Aside0.mk ((dq17 : w.heap.size ≤ gb310)); have n4_ := Aside0.mk ((dq17 : w.heap.size ≤ gb310)); clear HO3; clear HB; have HO3 := n0_; have HB := n1_; have BK310 := n2_; have GW310 := n3_; have GE310 := n4_; clear n0_ n1_ n2_ n3_ n4_; clear hb hbox hg; obtain ⟨⟨hcz55_0, hcz55_1, hcz55_2, hcz55_3, hcz55_4, hcz55_5, hcz55_6⟩, hfz55_0, hfz55_1, hfz55_2, hfz55_3, hfz55_4, hfz55_5, hfz55_6⟩ := blkC7 BK310.out))
       have n0_ : Aside0 (Kd.V Kd.bool 4 (((((((w54.setCell ⟨gb310, 0, none⟩ (.int .i64 ((rd_T93 l0 a1).f0))).setCell ⟨gb310, 1, none⟩ (.bool ((rd_T93 l0 a1).f1))).setCell ⟨gb310, 2, none⟩ (.slice A309_2 ((rd_T93 l0 a1).f2).length c309_2)).setCell ⟨gb310, 3, none⟩ (.int .i64 ((rd_T93 l0 a1).f3))).setCell ⟨gb310, 4, none⟩ (.int .i64 ((rd_T93 l0 a1).f4))).setCell ⟨gb310, 5, none⟩ (.int .i64 ((rd_T93 l0 a1).f5))).setCell ⟨gb310, 6, none⟩ (.int .i64 ((rd_T93 l0 a1).f6))) w.heap.size (fun k_ => (P3_ k_ ∨ w.heap.size ≤ k_) ∧ k_ ≠ gb310) (.slice A3 l3.length c3) l3) := ⟨dq103⟩
       have n1_ : Aside0 ((((((((w54.setCell ⟨gb310, 0, none⟩ (.int .i64 ((rd_T93 l0 a1).f0))).setCell ⟨gb310, 1, none⟩ (.bool ((rd_T93 l0 a1).f1))).setCell ⟨gb310, 2, none⟩ (.slice A309_2 ((rd_T93 l0 a1).f2).length c309_2)).setCell ⟨gb310, 3, none⟩ (.int .i64 ((rd_T93 l0 a1).f3))).setCell ⟨gb310, 4, none⟩ (.int .i64 ((rd_T93 l0 a1).f4))).setCell ⟨gb310, 5, none⟩ (.int .i64 ((rd_T93 l0 a1).f5))).setCell ⟨gb310, 6, none⟩ (.int .i64 ((rd_T93 l0 a1).f6))).heap[gb310]? = some (.cells #[.int .i64 ((rd_T93 l0 a1).f0), .bool ((rd_T93 l0 a1).f1), .slice A309_2 ((rd_T93 l0 a1).f2).length c309_2, .int .i64 ((rd_T93 l0 a1).f3), .int .i64 ((rd_T93 l0 a1).f4), .int .i64 ((rd_T93 l0 a1).f5), .int .i64 ((rd_T93 l0 a1).f6)] 93 (0, 0))) := ⟨dq100⟩
       have n2_ : Aside0 (Below w.heap.size w (((((((w54.setCell ⟨gb310, 0, none⟩ (.int .i64 ((rd_T93 l0 a1).f0))).setCell ⟨gb310, 1, none⟩ (.bool ((rd_T93 l0 a1).f1))).setCell ⟨gb310, 2, none⟩ (.slice A309_2 ((rd_T93 l0 a1).f2).length c309_2)).setCell ⟨gb310, 3, none⟩ (.int .i64 ((rd_T93 l0 a1).f3))).setCell ⟨gb310, 4, none⟩ (.int .i64 ((rd_T93 l0 a1).f4))).setCell ⟨gb310, 5, none⟩ (.int .i64 ((rd_T93 l0 a1).f5))).setCell ⟨gb310, 6, none⟩ (.int .i64 ((rd_T93 l0 a1).f6)))) := ⟨dq99⟩
       (try clear HO3)
       (try clear BK310)
       (try clear HB)
       generalize (((((((w54.setCell ⟨gb310, 0, none⟩ (.int .i64 ((rd_T93 l0 a1).f0))).setCell ⟨gb310, 1, none⟩ (.bool ((rd_T93 l0 a1).f1))).setCell ⟨gb310, 2, none⟩ (.slice A309_2 ((rd_T93 l0 a1).f2).length c309_2)).setCell ⟨gb310, 3, none⟩ (.int .i64 ((rd_T93 l0 a1).f3))).setCell ⟨gb310, 4, none⟩ (.int .i64 ((rd_T93 l0 a1).f4))).setCell ⟨gb310, 5, none⟩ (.int .i64 ((rd_T93 l0 a1).f5))).setCell ⟨gb310, 6, none⟩ (.int .i64 ((rd_T93 l0 a1).f6))) = w56 at n0_ n1_ n2_ ⊢
       have HO3 := n0_
       have BK310 := n1_
       have HB := n2_
       clear n0_ n1_ n2_
       have n0_ := Aside0.mk (Kd.V_drew HO3.out)
       have n1_ := Aside0.mk (blk_drew BK310.out)
       have n2_ := Aside0.mk (below_drew1 HB.out)
       clear HO3
       clear BK310
       clear HB
       have HO3 := n0_
       have BK310 := n1_
       have HB := n2_
       clear n0_ n1_ n2_
       refine start_ (n := 14) (S := fun w' => w'.cell? ⟨gb310, 0, none⟩ = some (.int .i64 ((rd_T93 l0 a1).f0)) ∧ w'.cell? ⟨gb310, 1, none⟩ = some (.bool ((rd_T93 l0 a1).f1)) ∧ w'.cell? ⟨gb310, 2, none⟩ = some (.slice A309_2 ((rd_T93 l0 a1).f2).length c309_2) ∧ w'.cell? ⟨gb310, 3, none⟩ = some (.int .i64 ((rd_T93 l0 a1).f3)) ∧ w'.cell? ⟨gb310, 4, none⟩ = some (.int .i64 ((rd_T93 l0 a1).f4)) ∧ w'.cell? ⟨gb310, 5, none⟩ = some (.int .i64 ((rd_T93 l0 a1).f5)) ∧ w'.cell? ⟨gb310, 6, none⟩ = some (.int .i64 ((rd_T93 l0 a1).f6))) (ds := []) #[false, false, false, false, false, false, false, false, false, false, false, false, false, false] dq16 rfl rfl ⟨(blk_cell BK310.out 0).trans rfl, (blk_cell BK310.out 1).trans rfl, (blk_cell BK310.out 2).trans rfl, (blk_cell BK310.out 3).trans rfl, (blk_cell BK310.out 4).trans rfl, (blk_cell BK310.out 5).trans rfl, (blk_cell BK310.out 6).trans rfl⟩ (fun hHeld => ?_); refine with_tabW impl_ends.tab16 impl_ends.bits16 (fun HT_ HW_ => ?_)
       generalize w56.drew = w57 at HO3 BK310 HB hHeld ⊢
       refine pureA (i := 0) (N := some 71) #[true, false, false, false, false, false, false, false, false, false, false, false, false, false] ?_
       refine pureA (i := 1) (N := some 72) #[true, true, false, false, false, false, false, false, false, false, false, false, false, false] ?_
       refine pureA (i := 3) (N := some 74) #[true, true, false, true, false, false, false, false, false, false, false, false, false, false] ?_
       refine pureA (i := 4) (N := some 75) #[true, true, false, true, true, false, false, false, false, false, false, false, false, false] ?_
       refine pureA (i := 6) (N := some 77) #[true, true, false, true, true, false, true, false, false, false, false, false, false, false] ?_
       refine pureA (i := 7) (N := some 78) #[true, true, false, true, true, false, true, true, false, false, false, false, false, false] ?_
       refine pureA (i := 9) (N := some 80) #[true, true, false, true, true, false, true, true, false, true, false, false, false, false] ?_
       refine pureA (i := 10) (N := some 81) #[true, true, false, true, true, false, true, true, false, true, true, false, false, false] ?_
       refine takeA7 (i := 2) (N := some 73) #[true, true, true, true, true, false, true, true, false, true, true, false, false, false] ?_
       refine takeA7 (i := 8) (N := some 79) #[true, true, true, true, true, false, true, true, true, true, true, false, false, false] ?_
       refine one_ (i := 5) (N := some 76) #[true, true, true, true, true, true, true, true, true, true, true, false, false, false] rfl rfl (one_of HT_.out dq16) dq28 (fun K hK => ?_)
       refine goes_ Tryd.func77 dq16 rfl #[.slice (some ad309) l0.length c0, .int .i64 ((rd_T93 l0 a1).f3), .slice A2 l2.length c2, .slice A3 l3.length c3] dq29 rfl rfl dq15 ?_
       with_reducible refine (ih k dq24 _ _ l0 ((rd_T93 l0 a1).f3) _ _ l2 (fun k_ => ((P3_ k_ ∨ w.heap.size ≤ k_) ∧ k_ ≠ gb310)) _ _ l3 t330 _ ?side1 ?side2 ?side3 ?side4 ?side5 A51.out).mono ?_
       (case side1 => exact dq4)
       (case side2 => exact dq3)
       (case side3 => exact dq5)
       (case side4 => exact HC2.out)
       (case side5 => exact HO3.out)
       rintro e w58 ⟨v331, rfl, ho0, hb⟩
       refine ⟨_, rfl, ?_⟩
       have n0_ := Aside0.mk (Kd.V_below dq98 hb)
       have n1_ := Aside0.mk (Kd.V_lower (Kd.V_mono (ok' := fun k_ => (P3_ k_ ∨ w.heap.size ≤ k_) ∧ k_ ≠ gb310) ho0 (fun k_ hk_ => ⟨Or.elim hk_ (fun hs_ => hs_.1) (fun hn_ => (.inr (Nat.le_trans (below_size dq99) hn_))), Or.elim hk_ (fun hs_ => hs_.2) (fun hn_ => (Kd.freshB (g := gb310) (o := .cells #[.int .i64 ((rd_T93 l0 a1).f0), .bool ((rd_T93 l0 a1).f1), .slice A309_2 ((rd_T93 l0 a1).f2).length c309_2, .int .i64 ((rd_T93 l0 a1).f3), .int .i64 ((rd_T93 l0 a1).f4), .int .i64 ((rd_T93 l0 a1).f5), .int .i64 ((rd_T93 l0 a1).f6)] 93 (0, 0)) dq101 k_ hn_))⟩)) (below_size dq99))
       have n2_ := Aside0.mk (blk_below (g := gb310) (o := .cells #[.int .i64 ((rd_T93 l0 a1).f0), .bool ((rd_T93 l0 a1).f1), .slice A309_2 ((rd_T93 l0 a1).f2).length c309_2, .int .i64 ((rd_T93 l0 a1).f3), .int .i64 ((rd_T93 l0 a1).f4), .int .i64 ((rd_T93 l0 a1).f5), .int .i64 ((rd_T93 l0 a1).f6)] 93 (0, 0)) dq101 hb)
       have n3_ := Aside0.mk (below_step dq99 hb)
       clear HO3
       clear BK310
       clear HB
       have HO3 := n0_
       have HO332 := n1_
       have BK310 := n2_
       have HB := n3_
       clear n0_ n1_ n2_ n3_
       (try clear hb)
       (try clear hb2)
       (try clear hk)
       (try clear hi)
       (try clear ho0)
       refine hK.out _ _ ⟨(blk_cell BK310.out 0).trans rfl, (blk_cell BK310.out 1).trans rfl, (blk_cell BK310.out 2).trans rfl, (blk_cell BK310.out 3).trans rfl, (blk_cell BK310.out 4).trans rfl, (blk_cell BK310.out 5).trans rfl, (blk_cell BK310.out 6).trans rfl⟩ (fun hHeld => ?_)
       clear hK K
       refine norm_ (a' := ?_) ?_ ?_
       rotate_left
       ·show Act.put _ (some 76) _ = _
        simp only [Act.put, List.setIfInBounds_toArray, List.set_cons_zero, List.set_cons_succ, i64_w, i32_w]
        rfl
       refine one_ (i := 11) (N := some 82) #[true, true, true, true, true, true, true, true, true, true, true, true, false, false] rfl rfl (one_of HT_.out dq16) dq28 (fun K hK => ?_)
       refine goes_ Tryd.func77 dq16 rfl #[.slice (some ad309) l0.length c0, .int .i64 ((rd_T93 l0 a1).f4), .slice A2 l2.length c2, .slice A3 l3.length c3] dq29 rfl rfl dq15 ?_
       with_reducible refine (ih k dq24 _ _ l0 ((rd_T93 l0 a1).f4) _ _ l2 (fun k_ => ((P3_ k_ ∨ w.heap.size ≤ k_) ∧ k_ ≠ gb310)) _ _ l3 t333 _ ?side1 ?side2 ?side3 ?side4 ?side5 A52.out).mono ?_
       (case side1 => exact dq4)
       (case side2 => exact dq3)
       (case side3 => exact dq5)
       (case side4 => exact HC2.out)
       (case side5 => exact HO3.out)
       rintro e w59 ⟨v334, rfl, ho0, hb⟩
       refine ⟨_, rfl, ?_⟩
       have n0_ := Aside0.mk (Kd.V_below dq98 hb)
       have n1_ := Aside0.mk (Kd.V_below (by (with_reducible repeat (first | apply Kd.V_alloc | apply Kd.V_drewN | apply Kd.V_drew)); exact HO332.out) hb)
       have n2_ := Aside0.mk (Kd.V_lower (Kd.V_mono (ok' := fun k_ => (P3_ k_ ∨ w.heap.size ≤ k_) ∧ k_ ≠ gb310) ho0 (fun k_ hk_ => ⟨Or.elim hk_ (fun hs_ => hs_.1) (fun hn_ => (.inr (Nat.le_trans (below_size dq99) hn_))), Or.elim hk_ (fun hs_ => hs_.2) (fun hn_ => (Kd.freshB (g := gb310) (o := .cells #[.int .i64 ((rd_T93 l0 a1).f0), .bool ((rd_T93 l0 a1).f1), .slice A309_2 ((rd_T93 l0 a1).f2).length c309_2, .int .i64 ((rd_T93 l0 a1).f3), .int .i64 ((rd_T93 l0 a1).f4), .int .i64 ((rd_T93 l0 a1).f5), .int .i64 ((rd_T93 l0 a1).f6)] 93 (0, 0)) dq101 k_ hn_))⟩)) (below_size dq99))
       have n3_ := Aside0.mk (blk_below (g := gb310) (o := .cells #[.int .i64 ((rd_T93 l0 a1).f0), .bool ((rd_T93 l0 a1).f1), .slice A309_2 ((rd_T93 l0 a1).f2).length c309_2, .int .i64 ((rd_T93 l0 a1).f3), .int .i64 ((rd_T93 l0 a1).f4), .int .i64 ((rd_T93 l0 a1).f5), .int .i64 ((rd_T93 l0 a1).f6)] 93 (0, 0)) dq101 hb)
       have n4_ := Aside0.mk (below_step dq99 hb)
       clear HO3
       clear HO332
       clear BK310
       clear HB
       have HO3 := n0_
       have HO332 := n1_
       have HO335 := n2_
       have BK310 := n3_
       have HB := n4_
       clear n0_ n1_ n2_ n3_ n4_
       (try clear hb)
       (try clear hb2)
       (try clear hk)
       (try clear hi)
       (try clear ho0)
       obtain ⟨Ao60, co60, eo60⟩ := Kd.V_slice HO332.out
       (first | subst eo60 | (injection eo60 with f1_ f2_ f3_; have f4_ := f1_.symm; have f5_ := f3_.symm; clear f1_ f2_ f3_; subst f4_; subst f5_))
       obtain ⟨Ao61, co61, eo61⟩ := Kd.V_slice HO335.out
       (first | subst eo61 | (injection eo61 with f1_ f2_ f3_; have f4_ := f1_.symm; have f5_ := f3_.symm; clear f1_ f2_ f3_; subst f4_; subst f5_))
       refine hK.out _ _ ⟨(blk_cell BK310.out 0).trans rfl, (blk_cell BK310.out 1).trans rfl, (blk_cell BK310.out 2).trans rfl, (blk_cell BK310.out 3).trans rfl, (blk_cell BK310.out 4).trans rfl, (blk_cell BK310.out 5).trans rfl, (blk_cell BK310.out 6).trans rfl⟩ (fun hHeld => ?_)
       clear hK K
       refine norm_ (a' := ?_) ?_ ?_
       rotate_left
       ·show Act.put _ (some 82) _ = _
        simp only [Act.put, List.setIfInBounds_toArray, List.set_cons_zero, List.set_cons_succ, i64_w, i32_w]
        rfl
       refine one_ (i := 12) (N := some 83) #[true, true, true, true, true, true, true, true, true, true, true, true, true, false] rfl rfl (one_of HT_.out dq16) dq28 (fun K hK => ?_)
       refine goes_ Tryd.func113 dq16 rfl #[.slice Ao60 t330.length co60, .slice Ao61 t333.length co61] dq29 rfl rfl dq15 ?_
       with_reducible refine (impl_places_joined.calls k _ _ t330 _ _ t333 t336 _ ?side1 ?side2 ?side3 ?side4 A53.out).mono ?_
       (case side1 => repeat (first | exact (Kd.V_reads' HO332.out).2.2 | (with_reducible refine Kd.C_alloc ?_ _) | (with_reducible refine Kd.C_drewN ?_ _) | (with_reducible refine Kd.C_drew ?_)))
       (case side2 => exact (Kd.V_reads' HO332.out).2.1)
       (case side3 => repeat (first | exact (Kd.V_reads' HO335.out).2.2 | (with_reducible refine Kd.C_alloc ?_ _) | (with_reducible refine Kd.C_drewN ?_ _) | (with_reducible refine Kd.C_drew ?_)))
       (case side4 => exact (Kd.V_reads' HO335.out).2.1)
       rintro e w62 ⟨v337, rfl, ho0, hb⟩
       refine ⟨_, rfl, ?_⟩
       have n0_ := Aside0.mk (Kd.V_elder' dq98 (Kd.R_base ho0) hb)
       have n1_ := Aside0.mk (Kd.V_elder' (by (with_reducible repeat (first | apply Kd.V_alloc | apply Kd.V_drewN | apply Kd.V_drew)); exact HO332.out) (Kd.R_base ho0) hb)
       have n2_ := Aside0.mk (Kd.V_elder' (by (with_reducible repeat (first | apply Kd.V_alloc | apply Kd.V_drewN | apply Kd.V_drew)); exact HO335.out) (Kd.R_base ho0) hb)
       have n3_ := Aside0.mk (Kd.R_lower (Kd.R_newM (M := fun k_ => (w.heap.size ≤ k_)) ho0 (below_size dq99) (fun k_ h_ => h_)) (below_size dq99))
       have n4_ := Aside0.mk (blk_below (g := gb310) (o := .cells #[.int .i64 ((rd_T93 l0 a1).f0), .bool ((rd_T93 l0 a1).f1), .slice A309_2 ((rd_T93 l0 a1).f2).length c309_2, .int .i64 ((rd_T93 l0 a1).f3), .int .i64 ((rd_T93 l0 a1).f4), .int .i64 ((rd_T93 l0 a1).f5), .int .i64 ((rd_T93 l0 a1).f6)] 93 (0, 0)) dq101 hb)
       have n5_ := Aside0.mk (below_step dq99 hb)
       clear HO3
       clear HO332
       clear HO335
       clear BK310
       clear HB
       have HO3 := n0_
       have HO332 := n1_
       have HO335 := n2_
       have HO338 := n3_
       have BK310 := n4_
       have HB := n5_
       clear n0_ n1_ n2_ n3_ n4_ n5_
       (try clear hb)
       (try clear hb2)
       (try clear hk)
       (try clear hi)
       (try clear ho0)
       refine hK.out _ _ ⟨(blk_cell BK310.out 0).trans rfl, (blk_cell BK310.out 1).trans rfl, (blk_cell BK310.out 2).trans rfl, (blk_cell BK310.out 3).trans rfl, (blk_cell BK310.out 4).trans rfl, (blk_cell BK310.out 5).trans rfl, (blk_cell BK310.out 6).trans rfl⟩ (fun hHeld => ?_)
       clear hK K
       refine norm_ (a' := ?_) ?_ ?_
       rotate_left
       ·show Act.put _ (some 83) _ = _
        simp only [Act.put, List.setIfInBounds_toArray, List.set_cons_zero, List.set_cons_succ, i64_w, i32_w]
        rfl
       refine pureA (i := 13) (N := some 8) #[true, true, true, true, true, true, true, true, true, true, true, true, true, true] ?_
       refine done_ (done_of HT_.out dq16) ?_
       try go_wp2
       go_ret
       exact ⟨_, dq20, Kd.V_mono (Kd.R_V (by (with_reducible repeat (first | apply Kd.R_alloc | apply Kd.R_drewN | apply Kd.R_drew)); exact Kd.R_mono HO338.out (fun _ hk => hk.1))) (fun k_ hk => by first | exact ⟨(.inr (hk.1)), hk.2⟩ | exact (.inr (hk))), dq99⟩
      ·rw [if_neg c50] at H
       have c50b0 := beq_eq_false_iff_ne.mpr c50
       have c50b1 := bne_iff_ne.mpr c50
       have H' := Aside0.mk H
       clear H
       have p309 : 0 ≤ (a1 : Int) := of_decide_eq_true dq21
       have q309 : a1 < (l0.length : Int) := of_decide_eq_true dq21
       obtain ⟨ad309, A309_2, c309_2, e309, hx309_0, hx309_1, hx309_2, hx309_3, hx309_4, hx309_5, hx309_6, hl309_2, hi309_2⟩ := at_T93 HR0.out a1 p309 q309
       cases e309
       have HR309_2 := Aside0.mk hi309_2
       have HC309_2 := Aside0.mk hl309_2
       clear hi309_2 hl309_2
       replace p309 := eq_true p309
       replace q309 := eq_true q309
       go_enter Tryd.func77, Tryd.ntmps77
       go_wp2_with (first | ((with_reducible refine gate_dst (N := 9) rfl ?_); refine box_event ?hg (N := 9) ?hd (cs := #[.int .i64 0, .bool false, .slice none 0 0, .int .i64 0, .int .i64 0, .int .i64 0, .int .i64 0]) (t := 93) ?hr ?_; (case hd => rfl); (case hg => rfl); (case hr => exact dq0); intro gb310 hg w63 hbox hb; have n0_ := Aside0.mk (Kd.V_below (Kd.V_elderB dq98 gb310 (Nat.le_of_eq hg.symm)) hb); have n1_ := Aside0.mk (below_step dq18 hb); have n2_ := Aside0.mk (hbox); have n3_ := Aside0.mk ((dq17 : w.heap.size ≤ gb310)); have n4_ := Aside0.mk ((dq17 : w.heap.size ≤ gb310)); clear HO3; clear HB; have HO3 := n0_; have HB := n1_; have BK310 := n2_; have GW310 := n3_; have GE310 := n4_; clear n0_ n1_ n2_ n3_ n4_; clear hb hbox hg; obtain ⟨⟨hcz64_0, hcz64_1, hcz64_2, hcz64_3, hcz64_4, hcz64_5, hcz64_6⟩, hfz64_0, hfz64_1, hfz64_2, hfz64_3, hfz64_4, hfz64_5, hfz64_6⟩ := blkC7 BK310.out))
       go_loopg [13, 87] k (fun kq v13 v87 w' => ∃ (x13_1 : List Bool) (x87_1 : Int), v87 = .int .i64 x87_1 ∧ Aside0 (impl_ends.l1 kq l0 l2 x13_1 ((rd_T93 l0 a1).f5) x87_1 ((rd_T93 l0 a1).f0) ((rd_T93 l0 a1).f1) ((rd_T93 l0 a1).f2) ((rd_T93 l0 a1).f3) ((rd_T93 l0 a1).f4) ((rd_T93 l0 a1).f5) ((rd_T93 l0 a1).f6) = some r) ∧ Aside0 (kq ≤ k) ∧ Aside0 (Kd.V Kd.bool 4 w' w.heap.size (fun k_ => (P3_ k_ ∨ w.heap.size ≤ k_) ∧ k_ ≠ gb310) v13 x13_1) ∧ Aside0 (w'.heap[gb310]? = some (.cells #[.int .i64 ((rd_T93 l0 a1).f0), .bool ((rd_T93 l0 a1).f1), (.slice A309_2 ((rd_T93 l0 a1).f2).length c309_2), .int .i64 ((rd_T93 l0 a1).f3), .int .i64 ((rd_T93 l0 a1).f4), .int .i64 ((rd_T93 l0 a1).f5), .int .i64 ((rd_T93 l0 a1).f6)] 93 (0, 0))) ∧ Aside0 (Below w.heap.size w w'))
       case atStart => exact ⟨(l3), (0), dq14, H', ⟨Nat.le_refl _⟩, ⟨dq103⟩, ⟨dq100⟩, ⟨dq99⟩⟩
       case round =>
        clear H'
        try clear c1
        try clear c2
        try clear p2
        try clear c3
        try clear p3
        try clear q3
        try clear hx3
        try clear c4
        try clear c5
        try clear c7
        try clear c10
        try clear c10b0
        try clear c10b1
        try clear c11
        try clear c12
        try clear c13
        try clear c14
        try clear c20
        try clear c20b0
        try clear c21
        try clear c22
        try clear c30
        try clear p30
        try clear q30
        try clear hx30
        try clear c35
        try clear c36
        try clear c40
        try clear c40b0
        try clear c40b1
        try clear c50
        try clear c50b0
        try clear c50b1
        try clear hcz44_0
        try clear hcz44_1
        try clear hcz44_2
        try clear hcz44_3
        try clear hcz44_4
        try clear hcz44_5
        try clear hcz44_6
        try clear hcz55_0
        try clear hcz55_1
        try clear hcz55_2
        try clear hcz55_3
        try clear hcz55_4
        try clear hcz55_5
        try clear hcz55_6
        try clear hcz64_0
        try clear hcz64_1
        try clear hcz64_2
        try clear hcz64_3
        try clear hcz64_4
        try clear hcz64_5
        try clear hcz64_6
        try clear hfz44_0
        try clear hfz44_1
        try clear hfz44_2
        try clear hfz44_3
        try clear hfz44_4
        try clear hfz44_5
        try clear hfz44_6
        try clear hfz55_0
        try clear hfz55_1
        try clear hfz55_2
        try clear hfz55_3
        try clear hfz55_4
        try clear hfz55_5
        try clear hfz55_6
        try clear hfz64_0
        try clear hfz64_1
        try clear hfz64_2
        try clear hfz64_3
        try clear hfz64_4
        try clear hfz64_5
        try clear hfz64_6
        try clear hx309_0
        try clear hx309_1
        try clear hx309_2
        try clear hx309_3
        try clear hx309_4
        try clear hx309_5
        try clear hx309_6
        try clear p309
        try clear q309
        obtain ⟨x13_1, x87_1, rfl, HA, HK1, HO_13, BK310, HB⟩ := hrel
        cases gk with
        | zero => exact absurd HA.out (by simp [impl_ends.l1])
        | succ k1 =>
         have H := HA.out
         clear HA
         simp only [impl_ends.l1] at H
         by_cases c65 : x87_1 < ((rd_T93 l0 a1).f5)
         ·rw [if_pos c65] at H
          have c65b0 := decide_eq_true c65
          clear c65
          replace H := Option.bind_eq_some_iff.mp H
          obtain ⟨t339, A660, H⟩ := H
          replace H : (impl_ends.l1 k1 l0 l2 t339 ((rd_T93 l0 a1).f5) (wrap64 (x87_1 + 1)) ((rd_T93 l0 a1).f0) ((rd_T93 l0 a1).f1) ((rd_T93 l0 a1).f2) ((rd_T93 l0 a1).f3) ((rd_T93 l0 a1).f4) ((rd_T93 l0 a1).f5) ((rd_T93 l0 a1).f6)) = some r := H
          have A66 := Aside0.mk A660
          clear A660
          have H' := Aside0.mk H
          clear H
          obtain ⟨⟨hcz67_0, hcz67_1, hcz67_2, hcz67_3, hcz67_4, hcz67_5, hcz67_6⟩, hfz67_0, hfz67_1, hfz67_2, hfz67_3, hfz67_4, hfz67_5, hfz67_6⟩ := blkC7 BK310.out
          obtain ⟨Ao68, co68, eo68⟩ := Kd.V_slice HO_13.out
          subst eo68
          go_wp2_with (first | ((with_reducible refine gate_callee (f := 77) rfl ?_); refine goesL_ (some 94) rfl rfl Tryd.func77 dq16 rfl #[.slice (some ad309) l0.length c0, .int .i64 ((rd_T93 l0 a1).f3), .slice A2 l2.length c2, .slice Ao68 x13_1.length co68] rfl dq15 ?_; (with_reducible refine (ih k1 dq22 _ _ l0 ((rd_T93 l0 a1).f3) _ _ l2 (fun k_ => ((P3_ k_ ∨ w.heap.size ≤ k_) ∧ k_ ≠ gb310)) _ _ x13_1 t339 _ ?side1 ?side2 ?side3 ?side4 ?side5 A66.out).mono ?_); (case side1 => exact dq4); (case side2 => exact dq3); (case side3 => exact dq5); (case side4 => exact HC2.out); (case side5 => exact HO_13.out); rintro e w69 ⟨v340, rfl, ho0, hb⟩; refine ⟨_, rfl, ?_⟩; have n0_ := Aside0.mk (Kd.V_below dq104 hb); have n1_ := Aside0.mk (Kd.V_lower (Kd.V_mono (ok' := fun k_ => (P3_ k_ ∨ w.heap.size ≤ k_) ∧ k_ ≠ gb310) ho0 (fun k_ hk_ => ⟨Or.elim hk_ (fun hs_ => hs_.1) (fun hn_ => (.inr (Nat.le_trans (below_size dq99) hn_))), Or.elim hk_ (fun hs_ => hs_.2) (fun hn_ => (Kd.freshB (g := gb310) (o := .cells #[.int .i64 ((rd_T93 l0 a1).f0), .bool ((rd_T93 l0 a1).f1), .slice A309_2 ((rd_T93 l0 a1).f2).length c309_2, .int .i64 ((rd_T93 l0 a1).f3), .int .i64 ((rd_T93 l0 a1).f4), .int .i64 ((rd_T93 l0 a1).f5), .int .i64 ((rd_T93 l0 a1).f6)] 93 (0, 0)) dq101 k_ hn_))⟩)) (below_size dq99)); have n2_ := Aside0.mk (blk_below (g := gb310) (o := .cells #[.int .i64 ((rd_T93 l0 a1).f0), .bool ((rd_T93 l0 a1).f1), .slice A309_2 ((rd_T93 l0 a1).f2).length c309_2, .int .i64 ((rd_T93 l0 a1).f3), .int .i64 ((rd_T93 l0 a1).f4), .int .i64 ((rd_T93 l0 a1).f5), .int .i64 ((rd_T93 l0 a1).f6)] 93 (0, 0)) dq101 hb); have n3_ := Aside0.mk (below_step dq99 hb); clear HO_13; clear BK310; clear HB; have HO_13 := n0_; have HO341 := n1_; have BK310 := n2_; have HB := n3_; clear n0_ n1_ n2_ n3_; (try clear hb); (try clear hb2); (try clear hk); (try clear hi); (try clear ho0)))
          go_roundg k1
          case measure => have := HK1.out; omega
          case rel => exact ⟨(t339), (wrap64 (x87_1 + 1)), dq14, H', ⟨dq22⟩, ⟨by (with_reducible repeat (first | apply Kd.V_alloc | apply Kd.V_drewN | apply Kd.V_drew)); exact HO341.out⟩, ⟨dq101⟩, ⟨dq99⟩⟩
         ·rw [if_neg c65] at H
          have c65b0 := decide_eq_false c65
          clear c65
          have H' := Aside0.mk H
          clear H
          obtain ⟨⟨hcz70_0, hcz70_1, hcz70_2, hcz70_3, hcz70_4, hcz70_5, hcz70_6⟩, hfz70_0, hfz70_1, hfz70_2, hfz70_3, hfz70_4, hfz70_5, hfz70_6⟩ := blkC7 BK310.out
          go_wp2
          go_loopg [13, 14, 15] k1 (fun kq v13 v14 v15 w' => ∃ (x13_2 : List Bool) (x14_2 : List Bool) (x15_2 : Int), v15 = .int .i64 x15_2 ∧ Aside0 (impl_ends.l2 kq l0 l2 x13_2 x14_2 x15_2 ((rd_T93 l0 a1).f0) ((rd_T93 l0 a1).f1) ((rd_T93 l0 a1).f2) ((rd_T93 l0 a1).f3) ((rd_T93 l0 a1).f4) ((rd_T93 l0 a1).f5) ((rd_T93 l0 a1).f6) = some r) ∧ Aside0 (kq ≤ k1) ∧ Aside0 (Kd.V Kd.bool 4 w' w.heap.size (fun k_ => (P3_ k_ ∨ w.heap.size ≤ k_) ∧ k_ ≠ gb310) v13 x13_2) ∧ Aside0 (Kd.V Kd.bool 4 w' w.heap.size (fun k_ => (P3_ k_ ∨ w.heap.size ≤ k_) ∧ k_ ≠ gb310) v14 x14_2) ∧ Aside0 (w'.heap[gb310]? = some (.cells #[.int .i64 ((rd_T93 l0 a1).f0), .bool ((rd_T93 l0 a1).f1), (.slice A309_2 ((rd_T93 l0 a1).f2).length c309_2), .int .i64 ((rd_T93 l0 a1).f3), .int .i64 ((rd_T93 l0 a1).f4), .int .i64 ((rd_T93 l0 a1).f5), .int .i64 ((rd_T93 l0 a1).f6)] 93 (0, 0))) ∧ Aside0 (Below w.heap.size w w'))
          case atStart => exact ⟨(x13_1), (x13_1), (((rd_T93 l0 a1).f5)), dq14, H', ⟨Nat.le_refl _⟩, ⟨dq104⟩, ⟨dq104⟩, ⟨dq101⟩, ⟨dq99⟩⟩
          case round =>
           clear H'
           try clear c1
           try clear c2
           try clear p2
           try clear c3
           try clear p3
           try clear q3
           try clear hx3
           try clear c4
           try clear c5
           try clear c6
           try clear p6
           try clear c7
           try clear c10
           try clear c10b0
           try clear c10b1
           try clear c11
           try clear c12
           try clear c13
           try clear c14
           try clear c20
           try clear c20b0
           try clear c21
           try clear c22
           try clear c30
           try clear p30
           try clear q30
           try clear hx30
           try clear c35
           try clear c36
           try clear c40
           try clear c40b0
           try clear c40b1
           try clear c50
           try clear c50b0
           try clear c50b1
           try clear p64
           try clear c65
           try clear c65b0
           try clear hcz44_0
           try clear hcz44_1
           try clear hcz44_2
           try clear hcz44_3
           try clear hcz44_4
           try clear hcz44_5
           try clear hcz44_6
           try clear hcz55_0
           try clear hcz55_1
           try clear hcz55_2
           try clear hcz55_3
           try clear hcz55_4
           try clear hcz55_5
           try clear hcz55_6
           try clear hcz64_0
           try clear hcz64_1
           try clear hcz64_2
           try clear hcz64_3
           try clear hcz64_4
           try clear hcz64_5
           try clear hcz64_6
           try clear hcz67_0
           try clear hcz67_1
           try clear hcz67_2
           try clear hcz67_3
           try clear hcz67_4
           try clear hcz67_5
           try clear hcz67_6
           try clear hcz70_0
           try clear hcz70_1
           try clear hcz70_2
           try clear hcz70_3
           try clear hcz70_4
           try clear hcz70_5
           try clear hcz70_6
           try clear hfz44_0
           try clear hfz44_1
           try clear hfz44_2
           try clear hfz44_3
           try clear hfz44_4
           try clear hfz44_5
           try clear hfz44_6
           try clear hfz55_0
           try clear hfz55_1
           try clear hfz55_2
           try clear hfz55_3
           try clear hfz55_4
           try clear hfz55_5
           try clear hfz55_6
           try clear hfz64_0
           try clear hfz64_1
           try clear hfz64_2
           try clear hfz64_3
           try clear hfz64_4
           try clear hfz64_5
           try clear hfz64_6
           try clear hfz67_0
           try clear hfz67_1
           try clear hfz67_2
           try clear hfz67_3
           try clear hfz67_4
           try clear hfz67_5
           try clear hfz67_6
           try clear hfz70_0
           try clear hfz70_1
           try clear hfz70_2
           try clear hfz70_3
           try clear hfz70_4
           try clear hfz70_5
           try clear hfz70_6
           try clear hx309_0
           try clear hx309_1
           try clear hx309_2
           try clear hx309_3
           try clear hx309_4
           try clear hx309_5
           try clear hx309_6
           try clear p2
           try clear p3
           try clear p30
           try clear p309
           try clear q3
           try clear q30
           try clear q309
           obtain ⟨x13_2, x14_2, x15_2, rfl, HA, HK2, HO_13, HO_14, BK310, HB⟩ := hrel
           cases gk with
           | zero => exact absurd HA.out (by simp [impl_ends.l2])
           | succ k2 =>
            have H := HA.out
            clear HA
            simp only [impl_ends.l2] at H
            have HC71 := Aside0.mk H
            clear H
            go_upto_region 24 with (fail)
            go_cut [107] (fun v107 wc => ∃ (kq : Nat) (x107_70 : Bool), v107 = .bool x107_70 ∧ Aside0 (impl_ends.j3 kq l0 l2 x13_2 x14_2 x15_2 x107_70 ((rd_T93 l0 a1).f0) ((rd_T93 l0 a1).f1) ((rd_T93 l0 a1).f2) ((rd_T93 l0 a1).f3) ((rd_T93 l0 a1).f4) ((rd_T93 l0 a1).f5) ((rd_T93 l0 a1).f6) = some r) ∧ Aside0 (kq ≤ k2) ∧ Aside0 (Kd.V Kd.bool 4 wc w.heap.size (fun k_ => (P3_ k_ ∨ w.heap.size ≤ k_) ∧ k_ ≠ gb310) u13 x13_2) ∧ Aside0 (Kd.V Kd.bool 4 wc w.heap.size (fun k_ => (P3_ k_ ∨ w.heap.size ≤ k_) ∧ k_ ≠ gb310) u14 x14_2) ∧ Aside0 (wc.heap[gb310]? = some (.cells #[.int .i64 ((rd_T93 l0 a1).f0), .bool ((rd_T93 l0 a1).f1), (.slice A309_2 ((rd_T93 l0 a1).f2).length c309_2), .int .i64 ((rd_T93 l0 a1).f3), .int .i64 ((rd_T93 l0 a1).f4), .int .i64 ((rd_T93 l0 a1).f5), .int .i64 ((rd_T93 l0 a1).f6)] 93 (0, 0))) ∧ Aside0 (Below w.heap.size w wc))
            case first =>
             have H := HC71.out
             clear HC71
             by_cases c72 : ((rd_T93 l0 a1).f6) = (-1)
             ·rw [if_pos c72] at H
              have c72b0 := beq_iff_eq.mpr c72
              have c72b1 := bne_eq_false_iff_eq.mpr c72
              clear c72
              (first | rw [c72b0] | (simp only [i64_w, i32_w]; rw [c72b0]) | skip)
              have H' := Aside0.mk H
              clear H
              obtain ⟨⟨hcz73_0, hcz73_1, hcz73_2, hcz73_3, hcz73_4, hcz73_5, hcz73_6⟩, hfz73_0, hfz73_1, hfz73_2, hfz73_3, hfz73_4, hfz73_5, hfz73_6⟩ := blkC7 BK310.out
              go_wp2
              go_meet
              case rel => exact ⟨_, (true), dq14, H', ⟨dq48⟩, ⟨dq104⟩, ⟨dq105⟩, ⟨dq101⟩, ⟨dq99⟩⟩
             ·rw [if_neg c72] at H
              have c72b0 := beq_eq_false_iff_ne.mpr c72
              have c72b1 := bne_iff_ne.mpr c72
              (first | rw [c72b0] | (simp only [i64_w, i32_w]; rw [c72b0]) | skip)
              have H' := Aside0.mk H
              clear H
              obtain ⟨⟨hcz74_0, hcz74_1, hcz74_2, hcz74_3, hcz74_4, hcz74_5, hcz74_6⟩, hfz74_0, hfz74_1, hfz74_2, hfz74_3, hfz74_4, hfz74_5, hfz74_6⟩ := blkC7 BK310.out
              go_wp2
              go_meet
              case rel => exact ⟨_, (decide (x15_2 < ((rd_T93 l0 a1).f6))), dq14, H', ⟨dq48⟩, ⟨dq104⟩, ⟨dq105⟩, ⟨dq101⟩, ⟨dq99⟩⟩
            case rest =>
             clear HC71
             try clear c1
             try clear c2
             try clear p2
             try clear c3
             try clear p3
             try clear q3
             try clear hx3
             try clear c4
             try clear c5
             try clear c6
             try clear p6
             try clear c7
             try clear c10
             try clear c10b0
             try clear c10b1
             try clear c11
             try clear c12
             try clear c13
             try clear c14
             try clear c20
             try clear c20b0
             try clear c21
             try clear c22
             try clear c30
             try clear p30
             try clear q30
             try clear hx30
             try clear c35
             try clear c36
             try clear c40
             try clear c40b0
             try clear c40b1
             try clear c50
             try clear c50b0
             try clear c50b1
             try clear p64
             try clear c65
             try clear c65b0
             try clear c72
             try clear c72b0
             try clear c72b1
             try clear hcz44_0
             try clear hcz44_1
             try clear hcz44_2
             try clear hcz44_3
             try clear hcz44_4
             try clear hcz44_5
             try clear hcz44_6
             try clear hcz55_0
             try clear hcz55_1
             try clear hcz55_2
             try clear hcz55_3
             try clear hcz55_4
             try clear hcz55_5
             try clear hcz55_6
             try clear hcz64_0
             try clear hcz64_1
             try clear hcz64_2
             try clear hcz64_3
             try clear hcz64_4
             try clear hcz64_5
             try clear hcz64_6
             try clear hcz67_0
             try clear hcz67_1
             try clear hcz67_2
             try clear hcz67_3
             try clear hcz67_4
             try clear hcz67_5
             try clear hcz67_6
             try clear hcz70_0
             try clear hcz70_1
             try clear hcz70_2
             try clear hcz70_3
             try clear hcz70_4
             try clear hcz70_5
             try clear hcz70_6
             try clear hcz73_0
             try clear hcz73_1
             try clear hcz73_2
             try clear hcz73_3
             try clear hcz73_4
             try clear hcz73_5
             try clear hcz73_6
             try clear hcz74_0
             try clear hcz74_1
             try clear hcz74_2
             try clear hcz74_3
             try clear hcz74_4
             try clear hcz74_5
             try clear hcz74_6
             try clear hfz44_0
             try clear hfz44_1
             try clear hfz44_2
             try clear hfz44_3
             try clear hfz44_4
             try clear hfz44_5
             try clear hfz44_6
             try clear hfz55_0
             try clear hfz55_1
             try clear hfz55_2
             try clear hfz55_3
             try clear hfz55_4
             try clear hfz55_5
             try clear hfz55_6
             try clear hfz64_0
             try clear hfz64_1
             try clear hfz64_2
             try clear hfz64_3
             try clear hfz64_4
             try clear hfz64_5
             try clear hfz64_6
             try clear hfz67_0
             try clear hfz67_1
             try clear hfz67_2
             try clear hfz67_3
             try clear hfz67_4
             try clear hfz67_5
             try clear hfz67_6
             try clear hfz70_0
             try clear hfz70_1
             try clear hfz70_2
             try clear hfz70_3
             try clear hfz70_4
             try clear hfz70_5
             try clear hfz70_6
             try clear hfz73_0
             try clear hfz73_1
             try clear hfz73_2
             try clear hfz73_3
             try clear hfz73_4
             try clear hfz73_5
             try clear hfz73_6
             try clear hfz74_0
             try clear hfz74_1
             try clear hfz74_2
             try clear hfz74_3
             try clear hfz74_4
             try clear hfz74_5
             try clear hfz74_6
             try clear hx309_0
             try clear hx309_1
             try clear hx309_2
             try clear hx309_3
             try clear hx309_4
             try clear hx309_5
             try clear hx309_6
             try clear p2
             try clear p3
             try clear p30
             try clear p309
             try clear p6
             try clear p64
             try clear q3
             try clear q30
             try clear q309
             obtain ⟨kq, x107_70, rfl, HA, HJ70, HO_13, HO_14, BK310, HB⟩ := hcut
             cases kq with
             | zero => exact absurd HA.out (by simp [impl_ends.j3])
             | succ kj70 =>
              have H := HA.out
              clear HA
              simp only [impl_ends.j3] at H
              by_cases c75 : x107_70 = true
              ·subst c75
               have H1 : ((impl_ends.f kj70 l0 ((rd_T93 l0 a1).f3) l2 x13_2).bind fun t342 => ((impl_places_joined.f kj70 x14_2 t342).bind fun t345 => ((impl_places_bool_114.f kj70 t345 x14_2).bind fun t348 => (if t348 = true then (some x14_2) else (if ((rd_T93 l0 a1).f6) = (-1) then (impl_ends.l2 kj70 l0 l2 t345 t345 (wrap64 (x15_2 + 1)) ((rd_T93 l0 a1).f0) ((rd_T93 l0 a1).f1) ((rd_T93 l0 a1).f2) ((rd_T93 l0 a1).f3) ((rd_T93 l0 a1).f4) ((rd_T93 l0 a1).f5) ((rd_T93 l0 a1).f6)) else (impl_ends.l2 kj70 l0 l2 t342 t345 (wrap64 (x15_2 + 1)) ((rd_T93 l0 a1).f0) ((rd_T93 l0 a1).f1) ((rd_T93 l0 a1).f2) ((rd_T93 l0 a1).f3) ((rd_T93 l0 a1).f4) ((rd_T93 l0 a1).f5) ((rd_T93 l0 a1).f6))))))) = some r := by rw [if_pos rfl] at H; exact H
               clear H
               have H := H1
               clear H1
               replace H := Option.bind_eq_some_iff.mp H
               obtain ⟨t342, A760, H⟩ := H
               replace H : ((impl_places_joined.f kj70 x14_2 t342).bind fun t345 => ((impl_places_bool_114.f kj70 t345 x14_2).bind fun t348 => (if t348 = true then (some x14_2) else (if ((rd_T93 l0 a1).f6) = (-1) then (impl_ends.l2 kj70 l0 l2 t345 t345 (wrap64 (x15_2 + 1)) ((rd_T93 l0 a1).f0) ((rd_T93 l0 a1).f1) ((rd_T93 l0 a1).f2) ((rd_T93 l0 a1).f3) ((rd_T93 l0 a1).f4) ((rd_T93 l0 a1).f5) ((rd_T93 l0 a1).f6)) else (impl_ends.l2 kj70 l0 l2 t342 t345 (wrap64 (x15_2 + 1)) ((rd_T93 l0 a1).f0) ((rd_T93 l0 a1).f1) ((rd_T93 l0 a1).f2) ((rd_T93 l0 a1).f3) ((rd_T93 l0 a1).f4) ((rd_T93 l0 a1).f5) ((rd_T93 l0 a1).f6)))))) = some r := H
               have A76 := Aside0.mk A760
               clear A760
               replace H := Option.bind_eq_some_iff.mp H
               obtain ⟨t345, A770, H⟩ := H
               replace H : ((impl_places_bool_114.f kj70 t345 x14_2).bind fun t348 => (if t348 = true then (some x14_2) else (if ((rd_T93 l0 a1).f6) = (-1) then (impl_ends.l2 kj70 l0 l2 t345 t345 (wrap64 (x15_2 + 1)) ((rd_T93 l0 a1).f0) ((rd_T93 l0 a1).f1) ((rd_T93 l0 a1).f2) ((rd_T93 l0 a1).f3) ((rd_T93 l0 a1).f4) ((rd_T93 l0 a1).f5) ((rd_T93 l0 a1).f6)) else (impl_ends.l2 kj70 l0 l2 t342 t345 (wrap64 (x15_2 + 1)) ((rd_T93 l0 a1).f0) ((rd_T93 l0 a1).f1) ((rd_T93 l0 a1).f2) ((rd_T93 l0 a1).f3) ((rd_T93 l0 a1).f4) ((rd_T93 l0 a1).f5) ((rd_T93 l0 a1).f6))))) = some r := H
               have A77 := Aside0.mk A770
               clear A770
               replace H := Option.bind_eq_some_iff.mp H
               obtain ⟨t348, A780, H⟩ := H
               replace H : (if t348 = true then (some x14_2) else (if ((rd_T93 l0 a1).f6) = (-1) then (impl_ends.l2 kj70 l0 l2 t345 t345 (wrap64 (x15_2 + 1)) ((rd_T93 l0 a1).f0) ((rd_T93 l0 a1).f1) ((rd_T93 l0 a1).f2) ((rd_T93 l0 a1).f3) ((rd_T93 l0 a1).f4) ((rd_T93 l0 a1).f5) ((rd_T93 l0 a1).f6)) else (impl_ends.l2 kj70 l0 l2 t342 t345 (wrap64 (x15_2 + 1)) ((rd_T93 l0 a1).f0) ((rd_T93 l0 a1).f1) ((rd_T93 l0 a1).f2) ((rd_T93 l0 a1).f3) ((rd_T93 l0 a1).f4) ((rd_T93 l0 a1).f5) ((rd_T93 l0 a1).f6)))) = some r := H
               have A78 := Aside0.mk A780
               clear A780
               by_cases c79 : t348 = true
               ·subst c79
                have H1 : (some x14_2) = some r := by rw [if_pos rfl] at H; exact H
                clear H
                have H := H1
                clear H1
                obtain rfl := Option.some.inj H
                obtain ⟨⟨hcz80_0, hcz80_1, hcz80_2, hcz80_3, hcz80_4, hcz80_5, hcz80_6⟩, hfz80_0, hfz80_1, hfz80_2, hfz80_3, hfz80_4, hfz80_5, hfz80_6⟩ := blkC7 BK310.out
                obtain ⟨Ao81, co81, eo81⟩ := Kd.V_slice HO_13.out
                subst eo81
                go_wp2_with (first | ((with_reducible refine gate_callee (f := 77) rfl ?_); refine goesL_ (some 115) rfl rfl Tryd.func77 dq16 rfl #[.slice (some ad309) l0.length c0, .int .i64 ((rd_T93 l0 a1).f3), .slice A2 l2.length c2, .slice Ao81 x13_2.length co81] rfl dq15 ?_; (with_reducible refine (ih kj70 dq107 _ _ l0 ((rd_T93 l0 a1).f3) _ _ l2 (fun k_ => ((P3_ k_ ∨ w.heap.size ≤ k_) ∧ k_ ≠ gb310)) _ _ x13_2 t342 _ ?side1 ?side2 ?side3 ?side4 ?side5 A76.out).mono ?_); (case side1 => exact dq4); (case side2 => exact dq3); (case side3 => exact dq5); (case side4 => exact HC2.out); (case side5 => exact HO_13.out); rintro e w82 ⟨v343, rfl, ho0, hb⟩; refine ⟨_, rfl, ?_⟩; have n0_ := Aside0.mk (Kd.V_below dq104 hb); have n1_ := Aside0.mk (Kd.V_below dq105 hb); have n2_ := Aside0.mk (Kd.V_lower (Kd.V_mono (ok' := fun k_ => (P3_ k_ ∨ w.heap.size ≤ k_) ∧ k_ ≠ gb310) ho0 (fun k_ hk_ => ⟨Or.elim hk_ (fun hs_ => hs_.1) (fun hn_ => (.inr (Nat.le_trans (below_size dq99) hn_))), Or.elim hk_ (fun hs_ => hs_.2) (fun hn_ => (Kd.freshB (g := gb310) (o := .cells #[.int .i64 ((rd_T93 l0 a1).f0), .bool ((rd_T93 l0 a1).f1), .slice A309_2 ((rd_T93 l0 a1).f2).length c309_2, .int .i64 ((rd_T93 l0 a1).f3), .int .i64 ((rd_T93 l0 a1).f4), .int .i64 ((rd_T93 l0 a1).f5), .int .i64 ((rd_T93 l0 a1).f6)] 93 (0, 0)) dq101 k_ hn_))⟩)) (below_size dq99)); have n3_ := Aside0.mk (blk_below (g := gb310) (o := .cells #[.int .i64 ((rd_T93 l0 a1).f0), .bool ((rd_T93 l0 a1).f1), .slice A309_2 ((rd_T93 l0 a1).f2).length c309_2, .int .i64 ((rd_T93 l0 a1).f3), .int .i64 ((rd_T93 l0 a1).f4), .int .i64 ((rd_T93 l0 a1).f5), .int .i64 ((rd_T93 l0 a1).f6)] 93 (0, 0)) dq101 hb); have n4_ := Aside0.mk (below_step dq99 hb); clear HO_13; clear HO_14; clear BK310; clear HB; have HO_13 := n0_; have HO_14 := n1_; have HO344 := n2_; have BK310 := n3_; have HB := n4_; clear n0_ n1_ n2_ n3_ n4_; (try clear hb); (try clear hb2); (try clear hk); (try clear hi); (try clear ho0); obtain ⟨Ao83, co83, eo83⟩ := Kd.V_slice HO_14.out; subst eo83; obtain ⟨Ao84, co84, eo84⟩ := Kd.V_slice HO344.out; subst eo84) | ((with_reducible refine gate_callee (f := 113) rfl ?_); refine goesL_ (some 118) rfl rfl Tryd.func113 dq16 rfl #[.slice Ao83 x14_2.length co83, .slice Ao84 t342.length co84] rfl dq15 ?_; (with_reducible refine (impl_places_joined.calls kj70 _ _ x14_2 _ _ t342 t345 _ ?side1 ?side2 ?side3 ?side4 A77.out).mono ?_); (case side1 => exact dq6); (case side2 => exact (Kd.V_reads' HO_14.out).2.1); (case side3 => exact dq7); (case side4 => exact (Kd.V_reads' HO344.out).2.1); rintro e w85 ⟨v346, rfl, ho0, hb⟩; refine ⟨_, rfl, ?_⟩; have n0_ := Aside0.mk (Kd.V_elder' dq104 (Kd.R_base ho0) hb); have n1_ := Aside0.mk (Kd.V_elder' dq105 (Kd.R_base ho0) hb); have n2_ := Aside0.mk (Kd.V_elder' dq106 (Kd.R_base ho0) hb); have n3_ := Aside0.mk (Kd.R_lower (Kd.R_newM (M := fun k_ => (w.heap.size ≤ k_)) ho0 (below_size dq99) (fun k_ h_ => h_)) (below_size dq99)); have n4_ := Aside0.mk (blk_below (g := gb310) (o := .cells #[.int .i64 ((rd_T93 l0 a1).f0), .bool ((rd_T93 l0 a1).f1), .slice A309_2 ((rd_T93 l0 a1).f2).length c309_2, .int .i64 ((rd_T93 l0 a1).f3), .int .i64 ((rd_T93 l0 a1).f4), .int .i64 ((rd_T93 l0 a1).f5), .int .i64 ((rd_T93 l0 a1).f6)] 93 (0, 0)) dq101 hb); have n5_ := Aside0.mk (below_step dq99 hb); clear HO_13; clear HO_14; clear HO344; clear BK310; clear HB; have HO_13 := n0_; have HO_14 := n1_; have HO344 := n2_; have HO347 := n3_; have BK310 := n4_; have HB := n5_; clear n0_ n1_ n2_ n3_ n4_ n5_; (try clear hb); (try clear hb2); (try clear hk); (try clear hi); (try clear ho0); obtain ⟨Ao86, co86, eo86⟩ := Kd.R_slice HO347.out; subst eo86) | ((with_reducible refine gate_callee (f := 114) rfl ?_); refine goesL_ (some 121) rfl rfl Tryd.func114 dq16 rfl #[.slice Ao86 t345.length co86, .slice Ao83 x14_2.length co83] rfl dq15 ?_; (with_reducible refine (impl_places_bool_114.calls kj70 _ _ t345 _ _ x14_2 true _ ?side1 ?side2 ?side3 ?side4 A78.out).mono ?_); (case side1 => exact dq8); (case side2 => exact (Kd.R_reads' HO347.out).2.1); (case side3 => exact dq6); (case side4 => exact (Kd.V_reads' HO_14.out).2.1); rintro e w' ⟨rfl, ⟨nd, rfl⟩⟩; refine ⟨_, rfl, ?_⟩))
                go_ret
                exact ⟨_, dq20, by (with_reducible repeat (first | apply Kd.V_alloc | apply Kd.V_drewN | apply Kd.V_drew)); exact Kd.V_mono HO_14.out (fun _ hk => hk.1.1), dq99⟩
               ·replace c79 := Bool.eq_false_iff.mpr c79
                subst c79
                have H1 : (if ((rd_T93 l0 a1).f6) = (-1) then (impl_ends.l2 kj70 l0 l2 t345 t345 (wrap64 (x15_2 + 1)) ((rd_T93 l0 a1).f0) ((rd_T93 l0 a1).f1) ((rd_T93 l0 a1).f2) ((rd_T93 l0 a1).f3) ((rd_T93 l0 a1).f4) ((rd_T93 l0 a1).f5) ((rd_T93 l0 a1).f6)) else (impl_ends.l2 kj70 l0 l2 t342 t345 (wrap64 (x15_2 + 1)) ((rd_T93 l0 a1).f0) ((rd_T93 l0 a1).f1) ((rd_T93 l0 a1).f2) ((rd_T93 l0 a1).f3) ((rd_T93 l0 a1).f4) ((rd_T93 l0 a1).f5) ((rd_T93 l0 a1).f6))) = some r := by rw [if_neg (show ¬ (false = true) by decide)] at H; exact H
                clear H
                have H := H1
                clear H1
                by_cases c87 : ((rd_T93 l0 a1).f6) = (-1)
                ·rw [if_pos c87] at H
                 have c87b0 := beq_iff_eq.mpr c87
                 have c87b1 := bne_eq_false_iff_eq.mpr c87
                 clear c87
                 have H' := Aside0.mk H
                 clear H
                 obtain ⟨⟨hcz88_0, hcz88_1, hcz88_2, hcz88_3, hcz88_4, hcz88_5, hcz88_6⟩, hfz88_0, hfz88_1, hfz88_2, hfz88_3, hfz88_4, hfz88_5, hfz88_6⟩ := blkC7 BK310.out
                 obtain ⟨Ao89, co89, eo89⟩ := Kd.V_slice HO_13.out
                 subst eo89
                 go_wp2_with (first | ((with_reducible refine gate_callee (f := 77) rfl ?_); refine goesL_ (some 115) rfl rfl Tryd.func77 dq16 rfl #[.slice (some ad309) l0.length c0, .int .i64 ((rd_T93 l0 a1).f3), .slice A2 l2.length c2, .slice Ao89 x13_2.length co89] rfl dq15 ?_; (with_reducible refine (ih kj70 dq107 _ _ l0 ((rd_T93 l0 a1).f3) _ _ l2 (fun k_ => ((P3_ k_ ∨ w.heap.size ≤ k_) ∧ k_ ≠ gb310)) _ _ x13_2 t342 _ ?side1 ?side2 ?side3 ?side4 ?side5 A76.out).mono ?_); (case side1 => exact dq4); (case side2 => exact dq3); (case side3 => exact dq5); (case side4 => exact HC2.out); (case side5 => exact HO_13.out); rintro e w90 ⟨v343, rfl, ho0, hb⟩; refine ⟨_, rfl, ?_⟩; have n0_ := Aside0.mk (Kd.V_below dq104 hb); have n1_ := Aside0.mk (Kd.V_below dq105 hb); have n2_ := Aside0.mk (Kd.V_lower (Kd.V_mono (ok' := fun k_ => (P3_ k_ ∨ w.heap.size ≤ k_) ∧ k_ ≠ gb310) ho0 (fun k_ hk_ => ⟨Or.elim hk_ (fun hs_ => hs_.1) (fun hn_ => (.inr (Nat.le_trans (below_size dq99) hn_))), Or.elim hk_ (fun hs_ => hs_.2) (fun hn_ => (Kd.freshB (g := gb310) (o := .cells #[.int .i64 ((rd_T93 l0 a1).f0), .bool ((rd_T93 l0 a1).f1), .slice A309_2 ((rd_T93 l0 a1).f2).length c309_2, .int .i64 ((rd_T93 l0 a1).f3), .int .i64 ((rd_T93 l0 a1).f4), .int .i64 ((rd_T93 l0 a1).f5), .int .i64 ((rd_T93 l0 a1).f6)] 93 (0, 0)) dq101 k_ hn_))⟩)) (below_size dq99)); have n3_ := Aside0.mk (blk_below (g := gb310) (o := .cells #[.int .i64 ((rd_T93 l0 a1).f0), .bool ((rd_T93 l0 a1).f1), .slice A309_2 ((rd_T93 l0 a1).f2).length c309_2, .int .i64 ((rd_T93 l0 a1).f3), .int .i64 ((rd_T93 l0 a1).f4), .int .i64 ((rd_T93 l0 a1).f5), .int .i64 ((rd_T93 l0 a1).f6)] 93 (0, 0)) dq101 hb); have n4_ := Aside0.mk (below_step dq99 hb); clear HO_13; clear HO_14; clear BK310; clear HB; have HO_13 := n0_; have HO_14 := n1_; have HO344 := n2_; have BK310 := n3_; have HB := n4_; clear n0_ n1_ n2_ n3_ n4_; (try clear hb); (try clear hb2); (try clear hk); (try clear hi); (try clear ho0); obtain ⟨Ao91, co91, eo91⟩ := Kd.V_slice HO_14.out; subst eo91; obtain ⟨Ao92, co92, eo92⟩ := Kd.V_slice HO344.out; subst eo92) | ((with_reducible refine gate_callee (f := 113) rfl ?_); refine goesL_ (some 118) rfl rfl Tryd.func113 dq16 rfl #[.slice Ao91 x14_2.length co91, .slice Ao92 t342.length co92] rfl dq15 ?_; (with_reducible refine (impl_places_joined.calls kj70 _ _ x14_2 _ _ t342 t345 _ ?side1 ?side2 ?side3 ?side4 A77.out).mono ?_); (case side1 => exact dq6); (case side2 => exact (Kd.V_reads' HO_14.out).2.1); (case side3 => exact dq7); (case side4 => exact (Kd.V_reads' HO344.out).2.1); rintro e w93 ⟨v346, rfl, ho0, hb⟩; refine ⟨_, rfl, ?_⟩; have n0_ := Aside0.mk (Kd.V_elder' dq104 (Kd.R_base ho0) hb); have n1_ := Aside0.mk (Kd.V_elder' dq105 (Kd.R_base ho0) hb); have n2_ := Aside0.mk (Kd.V_elder' dq106 (Kd.R_base ho0) hb); have n3_ := Aside0.mk (Kd.R_lower (Kd.R_newM (M := fun k_ => (w.heap.size ≤ k_)) ho0 (below_size dq99) (fun k_ h_ => h_)) (below_size dq99)); have n4_ := Aside0.mk (blk_below (g := gb310) (o := .cells #[.int .i64 ((rd_T93 l0 a1).f0), .bool ((rd_T93 l0 a1).f1), .slice A309_2 ((rd_T93 l0 a1).f2).length c309_2, .int .i64 ((rd_T93 l0 a1).f3), .int .i64 ((rd_T93 l0 a1).f4), .int .i64 ((rd_T93 l0 a1).f5), .int .i64 ((rd_T93 l0 a1).f6)] 93 (0, 0)) dq101 hb); have n5_ := Aside0.mk (below_step dq99 hb); clear HO_13; clear HO_14; clear HO344; clear BK310; clear HB; have HO_13 := n0_; have HO_14 := n1_; have HO344 := n2_; have HO347 := n3_; have BK310 := n4_; have HB := n5_; clear n0_ n1_ n2_ n3_ n4_ n5_; (try clear hb); (try clear hb2); (try clear hk); (try clear hi); (try clear ho0); obtain ⟨Ao94, co94, eo94⟩ := Kd.R_slice HO347.out; subst eo94) | ((with_reducible refine gate_callee (f := 114) rfl ?_); refine goesL_ (some 121) rfl rfl Tryd.func114 dq16 rfl #[.slice Ao94 t345.length co94, .slice Ao91 x14_2.length co91] rfl dq15 ?_; (with_reducible refine (impl_places_bool_114.calls kj70 _ _ t345 _ _ x14_2 false _ ?side1 ?side2 ?side3 ?side4 A78.out).mono ?_); (case side1 => exact dq8); (case side2 => exact (Kd.R_reads' HO347.out).2.1); (case side3 => exact dq6); (case side4 => exact (Kd.V_reads' HO_14.out).2.1); rintro e w' ⟨rfl, ⟨nd, rfl⟩⟩; refine ⟨_, rfl, ?_⟩; obtain ⟨⟨hcz95_0, hcz95_1, hcz95_2, hcz95_3, hcz95_4, hcz95_5, hcz95_6⟩, hfz95_0, hfz95_1, hfz95_2, hfz95_3, hfz95_4, hfz95_5, hfz95_6⟩ := blkC7 BK310.out))
                 go_roundg kj70
                 case measure => have := HK1.out; have := HK2.out; have := HJ70.out; omega
                 case rel => exact ⟨(t345), (t345), (wrap64 (x15_2 + 1)), dq14, H', ⟨dq107⟩, ⟨Kd.V_mono (Kd.R_V dq108) (fun k_ hk => by first | exact ⟨(.inr (hk.1)), hk.2⟩ | exact (.inr (hk)))⟩, ⟨Kd.V_mono (Kd.R_V dq108) (fun k_ hk => by first | exact ⟨(.inr (hk.1)), hk.2⟩ | exact (.inr (hk)))⟩, ⟨dq101⟩, ⟨dq99⟩⟩
                ·rw [if_neg c87] at H
                 have c87b0 := beq_eq_false_iff_ne.mpr c87
                 have c87b1 := bne_iff_ne.mpr c87
                 have H' := Aside0.mk H
                 clear H
                 obtain ⟨⟨hcz96_0, hcz96_1, hcz96_2, hcz96_3, hcz96_4, hcz96_5, hcz96_6⟩, hfz96_0, hfz96_1, hfz96_2, hfz96_3, hfz96_4, hfz96_5, hfz96_6⟩ := blkC7 BK310.out
                 obtain ⟨Ao97, co97, eo97⟩ := Kd.V_slice HO_13.out
                 subst eo97
                 go_wp2_with (first | ((with_reducible refine gate_callee (f := 77) rfl ?_); refine goesL_ (some 115) rfl rfl Tryd.func77 dq16 rfl #[.slice (some ad309) l0.length c0, .int .i64 ((rd_T93 l0 a1).f3), .slice A2 l2.length c2, .slice Ao97 x13_2.length co97] rfl dq15 ?_; (with_reducible refine (ih kj70 dq107 _ _ l0 ((rd_T93 l0 a1).f3) _ _ l2 (fun k_ => ((P3_ k_ ∨ w.heap.size ≤ k_) ∧ k_ ≠ gb310)) _ _ x13_2 t342 _ ?side1 ?side2 ?side3 ?side4 ?side5 A76.out).mono ?_); (case side1 => exact dq4); (case side2 => exact dq3); (case side3 => exact dq5); (case side4 => exact HC2.out); (case side5 => exact HO_13.out); rintro e w98 ⟨v343, rfl, ho0, hb⟩; refine ⟨_, rfl, ?_⟩; have n0_ := Aside0.mk (Kd.V_below dq104 hb); have n1_ := Aside0.mk (Kd.V_below dq105 hb); have n2_ := Aside0.mk (Kd.V_lower (Kd.V_mono (ok' := fun k_ => (P3_ k_ ∨ w.heap.size ≤ k_) ∧ k_ ≠ gb310) ho0 (fun k_ hk_ => ⟨Or.elim hk_ (fun hs_ => hs_.1) (fun hn_ => (.inr (Nat.le_trans (below_size dq99) hn_))), Or.elim hk_ (fun hs_ => hs_.2) (fun hn_ => (Kd.freshB (g := gb310) (o := .cells #[.int .i64 ((rd_T93 l0 a1).f0), .bool ((rd_T93 l0 a1).f1), .slice A309_2 ((rd_T93 l0 a1).f2).length c309_2, .int .i64 ((rd_T93 l0 a1).f3), .int .i64 ((rd_T93 l0 a1).f4), .int .i64 ((rd_T93 l0 a1).f5), .int .i64 ((rd_T93 l0 a1).f6)] 93 (0, 0)) dq101 k_ hn_))⟩)) (below_size dq99)); have n3_ := Aside0.mk (blk_below (g := gb310) (o := .cells #[.int .i64 ((rd_T93 l0 a1).f0), .bool ((rd_T93 l0 a1).f1), .slice A309_2 ((rd_T93 l0 a1).f2).length c309_2, .int .i64 ((rd_T93 l0 a1).f3), .int .i64 ((rd_T93 l0 a1).f4), .int .i64 ((rd_T93 l0 a1).f5), .int .i64 ((rd_T93 l0 a1).f6)] 93 (0, 0)) dq101 hb); have n4_ := Aside0.mk (below_step dq99 hb); clear HO_13; clear HO_14; clear BK310; clear HB; have HO_13 := n0_; have HO_14 := n1_; have HO344 := n2_; have BK310 := n3_; have HB := n4_; clear n0_ n1_ n2_ n3_ n4_; (try clear hb); (try clear hb2); (try clear hk); (try clear hi); (try clear ho0); obtain ⟨Ao99, co99, eo99⟩ := Kd.V_slice HO_14.out; subst eo99; obtain ⟨Ao100, co100, eo100⟩ := Kd.V_slice HO344.out; subst eo100) | ((with_reducible refine gate_callee (f := 113) rfl ?_); refine goesL_ (some 118) rfl rfl Tryd.func113 dq16 rfl #[.slice Ao99 x14_2.length co99, .slice Ao100 t342.length co100] rfl dq15 ?_; (with_reducible refine (impl_places_joined.calls kj70 _ _ x14_2 _ _ t342 t345 _ ?side1 ?side2 ?side3 ?side4 A77.out).mono ?_); (case side1 => exact dq6); (case side2 => exact (Kd.V_reads' HO_14.out).2.1); (case side3 => exact dq7); (case side4 => exact (Kd.V_reads' HO344.out).2.1); rintro e w101 ⟨v346, rfl, ho0, hb⟩; refine ⟨_, rfl, ?_⟩; have n0_ := Aside0.mk (Kd.V_elder' dq104 (Kd.R_base ho0) hb); have n1_ := Aside0.mk (Kd.V_elder' dq105 (Kd.R_base ho0) hb); have n2_ := Aside0.mk (Kd.V_elder' dq106 (Kd.R_base ho0) hb); have n3_ := Aside0.mk (Kd.R_lower (Kd.R_newM (M := fun k_ => (w.heap.size ≤ k_)) ho0 (below_size dq99) (fun k_ h_ => h_)) (below_size dq99)); have n4_ := Aside0.mk (blk_below (g := gb310) (o := .cells #[.int .i64 ((rd_T93 l0 a1).f0), .bool ((rd_T93 l0 a1).f1), .slice A309_2 ((rd_T93 l0 a1).f2).length c309_2, .int .i64 ((rd_T93 l0 a1).f3), .int .i64 ((rd_T93 l0 a1).f4), .int .i64 ((rd_T93 l0 a1).f5), .int .i64 ((rd_T93 l0 a1).f6)] 93 (0, 0)) dq101 hb); have n5_ := Aside0.mk (below_step dq99 hb); clear HO_13; clear HO_14; clear HO344; clear BK310; clear HB; have HO_13 := n0_; have HO_14 := n1_; have HO344 := n2_; have HO347 := n3_; have BK310 := n4_; have HB := n5_; clear n0_ n1_ n2_ n3_ n4_ n5_; (try clear hb); (try clear hb2); (try clear hk); (try clear hi); (try clear ho0); obtain ⟨Ao102, co102, eo102⟩ := Kd.R_slice HO347.out; subst eo102) | ((with_reducible refine gate_callee (f := 114) rfl ?_); refine goesL_ (some 121) rfl rfl Tryd.func114 dq16 rfl #[.slice Ao102 t345.length co102, .slice Ao99 x14_2.length co99] rfl dq15 ?_; (with_reducible refine (impl_places_bool_114.calls kj70 _ _ t345 _ _ x14_2 false _ ?side1 ?side2 ?side3 ?side4 A78.out).mono ?_); (case side1 => exact dq8); (case side2 => exact (Kd.R_reads' HO347.out).2.1); (case side3 => exact dq6); (case side4 => exact (Kd.V_reads' HO_14.out).2.1); rintro e w' ⟨rfl, ⟨nd, rfl⟩⟩; refine ⟨_, rfl, ?_⟩; obtain ⟨⟨hcz103_0, hcz103_1, hcz103_2, hcz103_3, hcz103_4, hcz103_5, hcz103_6⟩, hfz103_0, hfz103_1, hfz103_2, hfz103_3, hfz103_4, hfz103_5, hfz103_6⟩ := blkC7 BK310.out))
                 go_roundg kj70
                 case measure => have := HK1.out; have := HK2.out; have := HJ70.out; omega
                 case rel => exact ⟨(t342), (t345), (wrap64 (x15_2 + 1)), dq14, H', ⟨dq107⟩, ⟨by (with_reducible repeat (first | apply Kd.V_alloc | apply Kd.V_drewN | apply Kd.V_drew)); exact Kd.V_mono HO344.out (fun _ hk => ⟨hk.1.1, hk.1.2⟩)⟩, ⟨Kd.V_mono (Kd.R_V dq108) (fun k_ hk => by first | exact ⟨(.inr (hk.1)), hk.2⟩ | exact (.inr (hk)))⟩, ⟨dq101⟩, ⟨dq99⟩⟩
              ·replace c75 := Bool.eq_false_iff.mpr c75
               subst c75
               have H1 : (some x14_2) = some r := by rw [if_neg (show ¬ (false = true) by decide)] at H; exact H
               clear H
               have H := H1
               clear H1
               obtain rfl := Option.some.inj H
               go_wp2
               go_ret
               exact ⟨_, dq20, by (with_reducible repeat (first | apply Kd.V_alloc | apply Kd.V_drewN | apply Kd.V_drew)); exact Kd.V_mono HO_14.out (fun _ hk => hk.1), dq99⟩
  ·rw [if_neg c6] at H
   exact absurd H dq23
 ·rw [if_neg c5] at H
  exact absurd H dq23

end Go.Proofs.YtilmhfkbpnejeaaDoor.L

namespace Go.Proofs.YtilmhfkbpnejeaaDoor.L
open Go.RowKit Go.Proofs.YtilmhfkbpnejeaaDoorW.PrintWords Go.Proofs.YtilmhfkbpnejeaaDoorW.PrintLast Go.Proofs.YtilmhfkbpnejeaaDoorW.PrintMore
set_option linter.unusedVariables false

structure Gl (w : World) : Prop where
  tabs : Lib.Utf8Tabs 0 1 w
theorem Gl_below {w w' : World} (h : Gl w) (hb : Below w.heap.size w w') : Gl w' := ⟨Go.Proofs.Utf8Tabs_below h.1 hb⟩
end Go.Proofs.YtilmhfkbpnejeaaDoor.L

namespace Go.Proofs
open Go.Shelf
def Tryd.lays196_ren : Go.Shelf.Ren := ⟨fun | 196 => 111 | 259 => 139 | n => n, fun | 9 => 9 | 4 => 4 | 3 => 3 | 5 => 5 | 12 => 12 | 119 => 156 | 0 => 0 | 46 => 117 | 139 => 159 | 138 => 158 | 53 => 150 | n => n, fun | 3 => 0 | 4 => 1 | n => n⟩
theorem Tryd.lays196 : Go.Proofs.Lays.n196 Tryd.prog Tryd.lays196_ren := {
  mixed := by kernel_rfl
  f196 := Tryd.func111.trans (congrArg some (by kernel_rfl))
  f259 := Tryd.func139.trans (congrArg some (by kernel_rfl))
  t0 := Tryd.underlying0
  a0 := Tryd.isAgg0
  z0 := Tryd.sizeOf0
  v0 := Tryd.zeroValue0
  t3 := Tryd.underlying3
  a3 := Tryd.isAgg3
  z3 := Tryd.sizeOf3
  v3 := Tryd.zeroValue3
  t4 := Tryd.underlying4
  a4 := Tryd.isAgg4
  z4 := Tryd.sizeOf4
  v4 := Tryd.zeroValue4
  t5 := Tryd.underlying5
  a5 := Tryd.isAgg5
  z5 := Tryd.sizeOf5
  v5 := Tryd.zeroValue5
  t9 := Tryd.underlying9
  a9 := Tryd.isAgg9
  z9 := Tryd.sizeOf9
  v9 := Tryd.zeroValue9
  t12 := Tryd.underlying12
  a12 := Tryd.isAgg12
  z12 := Tryd.sizeOf12
  v12 := Tryd.zeroValue12
  t46 := Tryd.underlying117
  a46 := Tryd.isAgg117
  z46 := Tryd.sizeOf117
  v46 := Tryd.zeroValue117
  t53 := Tryd.underlying150
  a53 := Tryd.isAgg150
  z53 := Tryd.sizeOf150
  v53 := Tryd.zeroValue150
  t119 := Tryd.underlying156
  a119 := Tryd.isAgg156
  z119 := Tryd.sizeOf156
  t138 := Tryd.underlying158
  a138 := Tryd.isAgg158
  z138 := Tryd.sizeOf158
  v138 := Tryd.zeroValue158
  t139 := Tryd.underlying159
  a139 := Tryd.isAgg159
  z139 := Tryd.sizeOf159
  v139 := Tryd.zeroValue159
  g3 := by kernel_rfl
  g4 := by kernel_rfl }
end Go.Proofs

namespace Go.Proofs.YtilmhfkbpnejeaaDoor.L
open Go.RowKit Go.Proofs.YtilmhfkbpnejeaaDoorW.PrintWords Go.Proofs.YtilmhfkbpnejeaaDoorW.PrintLast Go.Proofs.YtilmhfkbpnejeaaDoorW.PrintMore
set_option linter.unusedVariables false
set_option linter.unusedSimpArgs false

/-- The characters from place pos on, at most fuel of them. -/
def runesFrom (s : ByteArray) : Nat → Nat → List Int
  | 0, _ => []
  | fuel + 1, pos => if pos < s.size then ((Utf8.decode s pos).1 : Int) :: runesFrom s fuel (pos + (Utf8.decode s pos).2) else []
def runesOf (s : ByteArray) : List Int := runesFrom s s.size 0
theorem runesFrom_end (s : ByteArray) (fuel pos : Nat) (h : ¬ pos < s.size) : runesFrom s fuel pos = [] := by
  cases fuel with
  | zero => rfl
  | succ f => simp [runesFrom, h]
theorem rune_width (s : ByteArray) (pos : Nat) (h : pos < s.size) : 1 ≤ (Utf8.decode s pos).2 := by
  by_cases ha : (s[pos]'h).toNat < 128
  · rw [decode_ascii s pos h ha]
    exact Nat.le_refl _
  · exact (decode_high s pos h (by omega)).2
def impl_Runes.f (a0 : ByteArray) : Option (List Int × Bool) :=
  if a0.size ≤ 9223372036854775807 then (if 20000 < a0.size then some ([], false) else if Lib.validD a0.data.toList = true then some (runesOf a0, true) else some ([], false)) else none
set_option maxHeartbeats 4000000 in
set_option maxRecDepth 100000 in
theorem impl_Runes.calls (a0 : ByteArray) (r1 : List Int) (r2 : Bool) (w : World) (hT : Gl w) (h : impl_Runes.f a0 = some (r1, r2)) :
    Calls Tryd.prog 76 #[.string a0] w fun e w' => ∃ v0_ : Value, e = .returned (.tuple #[v0_, .bool r2]) ∧ Kd.R (Kd.int .i64) 2 w' w.heap.size (fun _ => True) v0_ r1 ∧ Below w.heap.size w w' := by
  unfold impl_Runes.f at h
  by_cases hs : a0.size ≤ 9223372036854775807
  · rw [if_pos hs] at h
    by_cases c1 : 20000 < a0.size
    · rw [if_pos c1] at h
      simp only [Option.some.injEq, Prod.mk.injEq] at h
      obtain ⟨rfl, rfl⟩ := h
      have d1 : decide ((20000 : Int) < (a0.size : Int)) = true := decide_eq_true (by omega)
      go_enter Tryd.func76, Tryd.ntmps76
      go_wp2
      go_ret2
      exact ⟨_, rfl, Kd.R_nil _ _ _ _ _, Below.refl _ _⟩
    · rw [if_neg c1] at h
      have d1 : decide ((20000 : Int) < (a0.size : Int)) = false := decide_eq_false (by omega)
      have HV := fun q => Any.utf8_ValidString Tryd.lays196 a0 (w.drewN q) hs (Go.Proofs.Utf8Tabs_below hT.tabs (pw_below_drewN (Below.refl _ _) q))
      have HV0 := Any.utf8_ValidString Tryd.lays196 a0 w hs hT.tabs
      clear hT
      cases c2 : Lib.validD a0.data.toList with
      | false =>
        rw [c2] at h HV HV0
        simp only [Bool.false_eq_true, if_false, Option.some.injEq, Prod.mk.injEq] at h
        obtain ⟨rfl, rfl⟩ := h
        clear c2
        go_enter Tryd.func76, Tryd.ntmps76
        go_wp2_with (go_at_call 111; (first | refine HV0.mono ?_ | refine (HV _).mono ?_); rintro e w' ⟨rfl, hb⟩)
        go_ret2
        exact ⟨_, rfl, Kd.R_nil _ _ _ _ _, hb⟩
      | true =>
        rw [c2] at h HV HV0
        simp only [if_true, Option.some.injEq, Prod.mk.injEq] at h
        obtain ⟨rfl, rfl⟩ := h
        clear c2
        have HB := Aside0.mk (Below.refl w.heap.size w)
        go_enter Tryd.func76, Tryd.ntmps76
        go_wp2_with (first | (go_at_call 111; (first | refine HV0.mono ?_ | refine (HV _).mono ?_); rintro e w' ⟨rfl, hb⟩; have n1_ := Aside0.mk hb; clear HB; have HB := n1_; clear n1_ hb) | ((with_reducible refine gate_dst (N := 15) rfl ?_); refine Kd.R_lit (Kd.int .i64) _ 2 ?hg (N := 15) ?hd (xs := ([] : List Int)) (inner := []) (ok := fun _ => True) (okp := fun _ => True) ?hr ?hp (fun _ hk => hk) trivial (Below.refl _ _) (Nat.le_refl _) (by simp) ?_; (case hd => rfl); (case hg => rfl); (case hr => first | (go_simp; done) | (go_simp; rfl)); (case hp => exact (Reps.none _ _)); intro v109 w3 ho4 hb hg_ hnew_; clear hg_ hnew_; have n0_ := Aside0.mk (Kd.R_lower ho4 (below_size (by repeat (first | (with_reducible first | exact HB.out | apply below_alloc | apply pw_below_drewN | apply below_drew1) | exact HB.out)))); have n1_ := Aside0.mk (below_step (by repeat (first | (with_reducible first | exact HB.out | apply below_alloc | apply pw_below_drewN | apply below_drew1) | exact HB.out)) hb); clear HB; have HO110 := n0_; have HB := n1_; clear n0_ n1_; clear hb ho4))
        clear HV HV0
        have HBs := Aside0.mk HB.out.size
        go_loopw [4] (fun s4 wr => ∃ (pos fuel : Nat) (acc : List Int), Aside0 (Kd.R (Kd.int .i64) 2 wr w.heap.size (fun k => k ≠ w3.heap.size) s4 acc) ∧ wr.heap[w3.heap.size]? = some (.stringIter a0 pos) ∧ Aside0 (Below w.heap.size w wr) ∧ Aside0 (acc ++ runesFrom a0 fuel pos = runesOf a0) ∧ Aside0 (a0.size ≤ pos + fuel) ∧ Aside0 (acc.length ≤ pos)) (fun _ wr => a0.size - wr.iterPos w3.heap.size)
        case atStart =>
          refine ⟨0, a0.size, [], ⟨?_⟩, World.iter_heap w3 a0 0, ⟨?_⟩, ⟨rfl⟩, ⟨by omega⟩, ⟨Nat.le_refl _⟩⟩
          · exact Kd.R_mono (Kd.R_below (Kd.R_bound HO110.out) (below_alloc (Below.refl _ _) _)) (fun k hk => by have := hk.2.2.1; omega)
          · exact HB.out.trans (Below.mono (below_alloc (Below.refl _ _) _) HBs.out)
        case round =>
          obtain ⟨pos, fuel, acc, HO, hit, HB, HA, HF, HL⟩ := hrel
          by_cases hp : pos < a0.size
          · have hnx : ∀ ty, (Instr.next (.pointer (some ⟨w3.heap.size, 0, none⟩)) true ty).run Tryd.prog wr = _ := fun ty => Lib.run_next_any_at wr w3.heap.size a0 pos ty hit hp
            have hwd := Aside0.mk (rune_width a0 pos hp)
            have hd1 := Aside0.mk (decode_le a0 pos)
            have HO2 := Aside0.mk (Kd.R_move HO.out (fun k hk => Lib.iterAt_other wr w3.heap.size k a0 (pos + (Utf8.decode a0 pos).2) hk))
            have hit2 := Aside0.mk (Lib.iterAt_heap wr w3.heap.size a0 pos (pos + (Utf8.decode a0 pos).2) hit)
            have HB2 := Aside0.mk (Lib.below_iterAt HB.out HBs.out a0 (pos + (Utf8.decode a0 pos).2))
            have hpp := Aside0.mk hp
            have hsz := Aside0.mk hs
            clear HO HB
            have hsmall := Aside0.mk (show a0.size ≤ 20000 by omega)
            have hwr : wrap64 ((Utf8.decode a0 pos).1 : Int) = ((Utf8.decode a0 pos).1 : Int) := by have := hd1.out; unfold wrap64; omega
            go_wp2_with (first | ((with_reducible refine gate_builtin (b := .append) (xs := #[.tmp 21, .tmp 24]) rfl ?_); at_builtin; refine Kd.R_append (Kd.int .i64) (w0 := w) w.heap.size rfl (.tmp 21) (.tmp 24) 56 2 (.int .i64 0) 8 rfl Tryd.underlying56 info2 rfl (by decide) (by omega) u4 acc ((Utf8.decode a0 pos).1 : Int) [.int .i64 ((Utf8.decode a0 pos).1 : Int)] (fun k => k ≠ w3.heap.size) (fun _ => False) rfl rfl ?aP (fun _ hk => hk.elim) ?aF ?aO ?aB ?aS ?aL ?_; (case aP => exact rfl); (case aB => exact HB2.out); (case aF => exact (fun k hk => by have h1 := (Array.getElem?_eq_some_iff.1 hit2.out).1; omega)); (case aO => exact HO2.out); (case aS => exact HB2.out.size); (case aL => have := HL.out; have := hpp.out; have := hsmall.out; omega); intro v114 w11 ho hb hg hat; have n0_ := Aside0.mk hb; have n1_ := Aside0.mk ho; have n2_ := Aside0.mk ((hg.block w3.heap.size (Array.getElem?_eq_some_iff.1 hit2.out).1 (fun e => HO2.out.1 w3.heap.size e.symm rfl)).trans hit2.out); have HB := n0_; have HO := n1_; have HI := n2_; clear n0_ n1_ n2_; clear ho hb hg hat))
            go_roundw
            case rel =>
              obtain ⟨f, hf⟩ : ∃ f, fuel = f + 1 := ⟨fuel - 1, by have := HF.out; have := hpp.out; omega⟩
              refine ⟨pos + (Utf8.decode a0 pos).2, f, acc ++ [((Utf8.decode a0 pos).1 : Int)], HO, HI.out, HB, ⟨?_⟩, ⟨?_⟩, ⟨?_⟩⟩
              · have e := HA.out
                rw [hf] at e
                rw [← e]
                simp [runesFrom, hpp.out]
              · have := HF.out; have := hwd.out; omega
              · have := HL.out; have := hwd.out; simp; omega
            case measure =>
              have := hwd.out; have := hpp.out
              simp only [World.iterPos, HI.out, hit]
              omega
          · have hnx : ∀ ty, (Instr.next (.pointer (some ⟨w3.heap.size, 0, none⟩)) true ty).run Tryd.prog wr = _ := fun ty => Lib.run_next_end_at wr w3.heap.size a0 pos ty hit hp
            go_wp2
            go_ret2
            have e := HA.out
            rw [runesFrom_end a0 fuel pos hp, List.append_nil] at e
            rw [e] at HO
            exact ⟨_, rfl, Kd.R_mono HO.out (fun _ _ => trivial), HB.out⟩
  · rw [if_neg hs] at h
    cases h
end Go.Proofs.YtilmhfkbpnejeaaDoor.L

namespace Go.Proofs.YtilmhfkbpnejeaaDoor.L
open Go.RowKit Go.Proofs.YtilmhfkbpnejeaaDoorW.PrintWords Go.Proofs.YtilmhfkbpnejeaaDoorW.PrintLast Go.Proofs.YtilmhfkbpnejeaaDoorW.PrintMore
attribute [local go_sem] max2_int min2_int max_two min_two max_three min_three max_four min_four
set_option linter.unusedVariables false
set_option linter.unusedSimpArgs false

/-! ### impl_Matches: function 35 -/
def impl_Matches.f (k : Nat) (l0 : List (S93)) (a1 : ByteArray) : Option (Bool) := (impl_Runes.f a1).bind fun bt349 => ((impl_RegexOk.f k l0).bind fun t353 => (if t353 = true then (if bt349.2 = true then (if (bt349.1.length : Int) > 300 then (some false) else (if 0 ≤ (wrap64 ((bt349.1.length : Int) + 1)) then (if (wrap64 ((bt349.1.length : Int) + 1) : Int).toNat ≤ 281474976710656 then ((some (List.replicate (wrap64 ((bt349.1.length : Int) + 1) : Int).toNat false : List Bool)).bind fun y354 => (if 0 < (y354.length : Int) then ((impl_ends.f k l0 (wrap64 ((l0.length : Int) - 1)) bt349.1 (y354.set (0 : Int).toNat true)).bind fun t358 => (if 0 ≤ (bt349.1.length : Int) then (if (bt349.1.length : Int) < (t358.length : Int) then (some (rdOf false t358 (bt349.1.length : Int))) else (none)) else (none))) else (none))) else (none)) else (none))) else (some false)) else (some false)))
set_option maxHeartbeats 8000000 in
set_option maxRecDepth 100000 in
theorem impl_Matches.calls (k : Nat) (A0 : Option Addr) (c0 : Nat) (l0 : List (S93)) (a1 : ByteArray) (r : Bool) (w : World) (hT : Gl w) (hr0 : Kd.C k93 w A0 l0.length l0) (hc0 : l0.length ≤ c0) (h : impl_Matches.f k l0 a1 = some r) :
  Calls Tryd.prog 35 #[.slice A0 l0.length c0, .string a1] w fun e w' => e = .returned (.bool r) ∧ Below w.heap.size w w' := by
 have HR0 := Aside0.mk hr0
 have HC0 := Aside0.mk hc0
 clear hr0 hc0
 have HT := Aside0.mk hT
 clear hT
 have HB := Aside0.mk (Below.refl w.heap.size w)
 have H : ((impl_Runes.f a1).bind fun bt349 => ((impl_RegexOk.f k l0).bind fun t353 => (if t353 = true then (if bt349.2 = true then (if (bt349.1.length : Int) > 300 then (some false) else (if 0 ≤ (wrap64 ((bt349.1.length : Int) + 1)) then (if (wrap64 ((bt349.1.length : Int) + 1) : Int).toNat ≤ 281474976710656 then ((some (List.replicate (wrap64 ((bt349.1.length : Int) + 1) : Int).toNat false : List Bool)).bind fun y354 => (if 0 < (y354.length : Int) then ((impl_ends.f k l0 (wrap64 ((l0.length : Int) - 1)) bt349.1 (y354.set (0 : Int).toNat true)).bind fun t358 => (if 0 ≤ (bt349.1.length : Int) then (if (bt349.1.length : Int) < (t358.length : Int) then (some (rdOf false t358 (bt349.1.length : Int))) else (none)) else (none))) else (none))) else (none)) else (none))) else (some false)) else (some false)))) = some r := h
 clear h
 replace H := Option.bind_eq_some_iff.mp H
 obtain ⟨⟨t349, t350⟩, A30, H⟩ := H
 replace H : ((impl_RegexOk.f k l0).bind fun t353 => (if t353 = true then (if t350 = true then (if (t349.length : Int) > 300 then (some false) else (if 0 ≤ (wrap64 ((t349.length : Int) + 1)) then (if (wrap64 ((t349.length : Int) + 1) : Int).toNat ≤ 281474976710656 then ((some (List.replicate (wrap64 ((t349.length : Int) + 1) : Int).toNat false : List Bool)).bind fun y354 => (if 0 < (y354.length : Int) then ((impl_ends.f k l0 (wrap64 ((l0.length : Int) - 1)) t349 (y354.set (0 : Int).toNat true)).bind fun t358 => (if 0 ≤ (t349.length : Int) then (if (t349.length : Int) < (t358.length : Int) then (some (rdOf false t358 (t349.length : Int))) else (none)) else (none))) else (none))) else (none)) else (none))) else (some false)) else (some false))) = some r := H
 have A3 := Aside0.mk A30
 clear A30
 replace H := Option.bind_eq_some_iff.mp H
 obtain ⟨t353, A40, H⟩ := H
 replace H : (if t353 = true then (if t350 = true then (if (t349.length : Int) > 300 then (some false) else (if 0 ≤ (wrap64 ((t349.length : Int) + 1)) then (if (wrap64 ((t349.length : Int) + 1) : Int).toNat ≤ 281474976710656 then ((some (List.replicate (wrap64 ((t349.length : Int) + 1) : Int).toNat false : List Bool)).bind fun y354 => (if 0 < (y354.length : Int) then ((impl_ends.f k l0 (wrap64 ((l0.length : Int) - 1)) t349 (y354.set (0 : Int).toNat true)).bind fun t358 => (if 0 ≤ (t349.length : Int) then (if (t349.length : Int) < (t358.length : Int) then (some (rdOf false t358 (t349.length : Int))) else (none)) else (none))) else (none))) else (none)) else (none))) else (some false)) else (some false)) = some r := H
 have A4 := Aside0.mk A40
 clear A40
 by_cases c5 : t353 = true
 ·subst c5
  have H1 : (if t350 = true then (if (t349.length : Int) > 300 then (some false) else (if 0 ≤ (wrap64 ((t349.length : Int) + 1)) then (if (wrap64 ((t349.length : Int) + 1) : Int).toNat ≤ 281474976710656 then ((some (List.replicate (wrap64 ((t349.length : Int) + 1) : Int).toNat false : List Bool)).bind fun y354 => (if 0 < (y354.length : Int) then ((impl_ends.f k l0 (wrap64 ((l0.length : Int) - 1)) t349 (y354.set (0 : Int).toNat true)).bind fun t358 => (if 0 ≤ (t349.length : Int) then (if (t349.length : Int) < (t358.length : Int) then (some (rdOf false t358 (t349.length : Int))) else (none)) else (none))) else (none))) else (none)) else (none))) else (some false)) = some r := by rw [if_pos rfl] at H; exact H
  clear H
  have H := H1
  clear H1
  by_cases c6 : t350 = true
  ·subst c6
   have H1 : (if (t349.length : Int) > 300 then (some false) else (if 0 ≤ (wrap64 ((t349.length : Int) + 1)) then (if (wrap64 ((t349.length : Int) + 1) : Int).toNat ≤ 281474976710656 then ((some (List.replicate (wrap64 ((t349.length : Int) + 1) : Int).toNat false : List Bool)).bind fun y354 => (if 0 < (y354.length : Int) then ((impl_ends.f k l0 (wrap64 ((l0.length : Int) - 1)) t349 (y354.set (0 : Int).toNat true)).bind fun t358 => (if 0 ≤ (t349.length : Int) then (if (t349.length : Int) < (t358.length : Int) then (some (rdOf false t358 (t349.length : Int))) else (none)) else (none))) else (none))) else (none)) else (none))) = some r := by rw [if_pos rfl] at H; exact H
   clear H
   have H := H1
   clear H1
   by_cases c7 : (t349.length : Int) > 300
   ·rw [if_pos c7] at H
    have c7b0 : decide (300 < (t349.length : Int)) = true := decide_eq_true c7
    have c7b1 : decide (300 < t349.length) = true := decide_eq_true dq24
    clear c7
    obtain rfl := Option.some.inj H
    go_enter Tryd.func35, Tryd.ntmps35
    go_wp2_with (first | ((with_reducible refine gate_callee (f := 76) rfl ?_); refine goesL_ (some 10) rfl rfl Tryd.func76 dq16 rfl #[.string a1] rfl dq15 ?_; (with_reducible refine (impl_Runes.calls a1 t349 true _ ?side1 A3.out).mono ?_); (case side1 => exact dq9); rintro e w8 ⟨v351, rfl, ho0, hb⟩; refine ⟨_, rfl, ?_⟩; have n0_ := Aside0.mk (Kd.R_lower ho0 (below_size dq18)); have n1_ := Aside0.mk (below_step dq18 hb); clear HB; have HO352 := n0_; have HB := n1_; clear n0_ n1_; (try clear hb); (try clear hb2); (try clear hk); (try clear hi); (try clear ho0)) | ((with_reducible refine gate_callee (f := 42) rfl ?_); refine goesL_ (some 14) rfl rfl Tryd.func42 dq16 rfl #[.slice A0 l0.length c0] rfl dq15 ?_; (with_reducible refine (impl_RegexOk.calls k _ _ l0 true _ ?side1 ?side2 A4.out).mono ?_); (case side1 => exact dq4); (case side2 => exact dq3); rintro e w9 ⟨rfl, hb⟩; refine ⟨_, rfl, ?_⟩; have n0_ := Aside0.mk (Kd.R_below dq109 hb); have n1_ := Aside0.mk (below_step dq18 hb); clear HO352; clear HB; have HO352 := n0_; have HB := n1_; clear n0_ n1_; (try clear hb); (try clear hb2); (try clear hk); (try clear hi); obtain ⟨Ao10, co10, eo10⟩ := Kd.R_slice HO352.out; subst eo10))
    go_ret
    exact ⟨dq20, dq18⟩
   ·rw [if_neg c7] at H
    have c7b0 : decide (300 < (t349.length : Int)) = false := decide_eq_false c7
    have c7b1 : decide (300 < t349.length) = false := decide_eq_false dq24
    clear c7
    obtain ⟨ji11, hji11⟩ : ∃ j_ : Int, (wrap64 ((t349.length : Int) + 1)) = j_ := ⟨_, rfl⟩
    replace H : (if 0 ≤ (ji11) then (if (ji11 : Int).toNat ≤ 281474976710656 then ((some (List.replicate (ji11 : Int).toNat false : List Bool)).bind fun y354 => (if 0 < (y354.length : Int) then ((impl_ends.f k l0 (wrap64 ((l0.length : Int) - 1)) t349 (y354.set (0 : Int).toNat true)).bind fun t358 => (if 0 ≤ (t349.length : Int) then (if (t349.length : Int) < (t358.length : Int) then (some (rdOf false t358 (t349.length : Int))) else (none)) else (none))) else (none))) else (none)) else (none)) = some r := by first | (rw [hji11] at H; exact H) | (simp only [hji11] at H ⊢; exact H)
    (try rw [hji11] at A3)
    (try rw [hji11] at A4)
    have hji11w : (IntKind.i64.wrap ((t349.length : Int) + 1)) = ji11 := (i64_w _).trans hji11
    by_cases c12 : 0 ≤ (ji11)
    ·rw [if_pos c12] at H
     have c12b0 := eq_true c12
     have c12b1 := decide_eq_true c12
     clear c12
     by_cases c13 : (ji11 : Int).toNat ≤ 281474976710656
     ·rw [if_pos c13] at H
      have c13b0 := eq_true c13
      have c13b1 := decide_eq_true c13
      clear c13
      obtain ⟨y354, hy354⟩ : ∃ y_ : List Bool, y_ = (List.replicate (ji11 : Int).toNat false) := ⟨_, rfl⟩
      replace H : (if 0 < (y354.length : Int) then ((impl_ends.f k l0 (wrap64 ((l0.length : Int) - 1)) t349 (y354.set (0 : Int).toNat true)).bind fun t358 => (if 0 ≤ (t349.length : Int) then (if (t349.length : Int) < (t358.length : Int) then (some (rdOf false t358 (t349.length : Int))) else (none)) else (none))) else (none)) = some r := by first | (rw [hy354]; with_reducible exact H) | (have H2_ := (Option.bind_some _ _).symm.trans H; rw [hy354]; with_reducible exact H2_) | (have H2_ := (Option.bind_some _ _).symm.trans H; with_reducible exact H2_) | with_reducible exact H | (rw [hy354]; exact H) | exact H
      have Ny354 := Aside0.mk hy354
      clear hy354
      by_cases c14 : 0 < (y354.length : Int)
      ·rw [if_pos c14] at H
       have c14b0 := decide_eq_true c14
       have c14b1 : decide (0 < y354.length) = true := decide_eq_true dq24
       clear c14
       obtain ⟨y357, hy357⟩ : ∃ y_ : List Bool, y_ = (y354.set (0 : Int).toNat true) := ⟨_, rfl⟩
       replace H : ((impl_ends.f k l0 (wrap64 ((l0.length : Int) - 1)) t349 y357).bind fun t358 => (if 0 ≤ (t349.length : Int) then (if (t349.length : Int) < (t358.length : Int) then (some (rdOf false t358 (t349.length : Int))) else (none)) else (none))) = some r := by first | (rw [hy357]; with_reducible exact H) | (have H2_ := (Option.bind_some _ _).symm.trans H; rw [hy357]; with_reducible exact H2_) | (have H2_ := (Option.bind_some _ _).symm.trans H; with_reducible exact H2_) | with_reducible exact H | (rw [hy357]; exact H) | exact H
       have Ny357 := Aside0.mk hy357
       clear hy357
       replace H := Option.bind_eq_some_iff.mp H
       obtain ⟨t358, A160, H⟩ := H
       replace H : (if 0 ≤ (t349.length : Int) then (if (t349.length : Int) < (t358.length : Int) then (some (rdOf false t358 (t349.length : Int))) else (none)) else (none)) = some r := H
       have A16 := Aside0.mk A160
       clear A160
       by_cases c17 : 0 ≤ (t349.length : Int)
       ·rw [if_pos c17] at H
        have c17b0 := decide_eq_true c17
        have c17b1 : decide (0 ≤ t349.length) = true := decide_eq_true dq24
        clear c17
        by_cases c18 : (t349.length : Int) < (t358.length : Int)
        ·rw [if_pos c18] at H
         have c18b0 := decide_eq_true c18
         have c18b1 : decide (t349.length < t358.length) = true := decide_eq_true (Int.ofNat_lt.mp c18)
         clear c18
         obtain rfl := Option.some.inj H
         go_enter Tryd.func35, Tryd.ntmps35
         go_wp2_with (first | ((with_reducible refine gate_callee (f := 76) rfl ?_); refine goesL_ (some 10) rfl rfl Tryd.func76 dq16 rfl #[.string a1] rfl dq15 ?_; (with_reducible refine (impl_Runes.calls a1 t349 true _ ?side1 A3.out).mono ?_); (case side1 => exact dq9); rintro e w19 ⟨v351, rfl, ho0, hb⟩; refine ⟨_, rfl, ?_⟩; have n0_ := Aside0.mk (Kd.R_lower ho0 (below_size dq18)); have n1_ := Aside0.mk (below_step dq18 hb); clear HB; have HO352 := n0_; have HB := n1_; clear n0_ n1_; (try clear hb); (try clear hb2); (try clear hk); (try clear hi); (try clear ho0)) | ((with_reducible refine gate_callee (f := 42) rfl ?_); refine goesL_ (some 14) rfl rfl Tryd.func42 dq16 rfl #[.slice A0 l0.length c0] rfl dq15 ?_; (with_reducible refine (impl_RegexOk.calls k _ _ l0 true _ ?side1 ?side2 A4.out).mono ?_); (case side1 => exact dq4); (case side2 => exact dq3); rintro e w20 ⟨rfl, hb⟩; refine ⟨_, rfl, ?_⟩; have n0_ := Aside0.mk (Kd.R_below dq109 hb); have n1_ := Aside0.mk (below_step dq18 hb); clear HO352; clear HB; have HO352 := n0_; have HB := n1_; clear n0_ n1_; (try clear hb); (try clear hb2); (try clear hk); (try clear hi); obtain ⟨Ao21, co21, eo21⟩ := Kd.R_slice HO352.out; subst eo21) | ((with_reducible refine gate_dst (N := 28) rfl ?_); (try (refine gate_guard dq29 ?_; dsimp only)); refine Kd.R_make Kd.bool _ 4 rfl (N := 28) rfl 95 _ _ rfl ji11 rfl rfl Tryd.underlying95 (.bool false) 1 info4 rfl dq28 dq24 false (ok := fun _ => True) (okp := fun _ => True) rfl (fun _ hk => hk) trivial (of_decide_eq_true dq21) (Nat.le_trans (Nat.mul_le_mul_right _ (of_decide_eq_true dq21 : ji11.toNat ≤ 281474976710656)) dq24) (Below.refl _ _) (Nat.le_refl _) ?_; intro v355 w22 ho23 hb hg_ hnew_; clear hg_ hnew_; (first | rw [← Ny354.out] at ho23 | (simp only [Int.reduceToNat] at ho23; rw [← Ny354.out] at ho23)); have n0_ := Aside0.mk (Kd.R_below dq109 hb); have n1_ := Aside0.mk (Kd.R_lower ho23 (below_size dq18)); have n2_ := Aside0.mk (below_step dq18 hb); clear HO352; clear HB; have HO352 := n0_; have HO356 := n1_; have HB := n2_; clear n0_ n1_ n2_; clear hb ho23; have p15 : 0 ≤ (0 : Int) := dq24; have q15 : (0 : Int) < ((y354.length : Int) : Int) := of_decide_eq_true dq21; have qi15 : (0 < y354.length) = True := eq_true dq24; obtain ⟨go15, co15, eo15, gb15, gl15, cl15, HG15⟩ := Kd.R_form HO356.out dq24; (first | cases eo15 | (injection eo15 with ea_ en_ ec_; (first | subst ea_ | (injection ea_ with ea_; subst ea_)); subst ec_; clear en_)); have GB15 := Aside0.mk gb15; have GG15 := Aside0.mk HG15; clear gb15 gl15 HG15; obtain ⟨hx15_0, hf15_0⟩ := Kd.R_celln false HO356.out (0 : Int) p15 q15; (try rw [show ((0 : Int)).toNat = 0 from rfl] at hx15_0); (try simp only [Nat.reduceMul, Nat.zero_mul, Nat.zero_add, Nat.reduceAdd] at hx15_0); (try rw [show ((0 : Int)).toNat = 0 from rfl] at hf15_0); (try simp only [Nat.reduceMul, Nat.zero_mul, Nat.zero_add, Nat.reduceAdd] at hf15_0); replace p15 := eq_true p15; replace q15 := eq_true q15; obtain ⟨hy24_, hz24_⟩ := Kd.R_celln false HO356.out (0 : Int) dq24 (of_decide_eq_true dq21); (try simp only [Int.reduceToNat, Int.toNat_zero, Int.toNat_ofNat, Nat.reduceMul, Nat.zero_mul, Nat.zero_add] at hy24_ hz24_); (try rw [show ((0 : Int)).toNat = 0 from rfl] at hy24_); (try rw [show ((0 : Int)).toNat = 0 from rfl] at hz24_); have HP24 := Kd.R_putg HO356.out (0 : Int) true) | ((with_reducible refine gate_store (t := 4) (p := 30) rfl ?_); refine store_event (t := 4) (p := 30) (v := ?vo_w25) (w1 := (w22.setCell ⟨go15, (0 : Int).toNat, none⟩ (.bool true))) ?hg ?ho ?hn ?hr ?_; (case ho => rfl); (case hg => rfl); (case hn => rfl); (case hr => exact dq0); intro w25 hw; have hg : w22.grownBy w25 (some go15) := (by rw [hw]; exact HP24.2); have hp_ : Kd.R Kd.bool 4 w25 w.heap.size (fun _ => True) (.slice (some ⟨go15, 0, none⟩) y354.length co15) y357 := (by rw [hw, Ny357.out]; exact HP24.1); clear HP24; have n0_ := Aside0.mk (Kd.R_over' (v := (.slice (some ⟨go15, 0, none⟩) y354.length co15)) dq109 (Kd.R_typed HO356.out) dq28 hg); have n1_ := Aside0.mk (hp_); have n2_ := Aside0.mk ((by rw [hw]; exact below_set (HB.out) GB15.out : Below w.heap.size w w25)); clear HO352; clear HO356; clear HB; have HO352 := n0_; have HO356 := n1_; have HB := n2_; clear n0_ n1_ n2_; clear hg hw hp_) | ((with_reducible refine gate_callee (f := 77) rfl ?_); refine goesL_ (some 37) rfl rfl Tryd.func77 dq16 rfl #[.slice A0 l0.length c0, .int .i64 (wrap64 ((l0.length : Int) - 1)), .slice Ao21 t349.length co21, .slice (some ⟨go15, 0, none⟩) y357.length co15] rfl (by (try simp only [List.map_toArray, List.map_cons, List.map_nil]); first | done | (rw [show y357.length = y354.length from (Kd.R_reads' HO356.out).1.symm] <;> rfl) | rfl | (simp only [List.length_drop, List.length_take]; rfl)) ?_; (with_reducible refine (impl_ends.calls k _ _ l0 (wrap64 ((l0.length : Int) - 1)) _ _ t349 (fun k_ => some k_ = (.slice (some ⟨go15, 0, none⟩) y354.length co15 : Value).ownBlock) _ _ y357 t358 _ ?side1 ?side2 ?side3 ?side4 ?side5 A16.out).mono ?_); (case side1 => exact dq4); (case side2 => exact dq3); (case side3 => repeat (first | exact (Kd.R_reads' HO352.out).2.2 | (with_reducible refine Kd.C_alloc ?_ _) | (with_reducible refine Kd.C_drewN ?_ _) | (with_reducible refine Kd.C_drew ?_))); (case side4 => exact (Kd.R_reads' HO352.out).2.1); (case side5 => rw [show y357.length = y354.length from (Kd.R_reads' HO356.out).1.symm]; exact Kd.R_V (Kd.R_tight rfl (Kd.R_apart' (HO356.out) (Kd.R_typed HO352.out) dq28))); rintro e w26 ⟨v359, rfl, ho0, hb⟩; refine ⟨_, rfl, ?_⟩; have n0_ := Aside0.mk (Kd.R_below dq109 hb); have n1_ := Aside0.mk (Kd.R_below (by (with_reducible repeat (first | apply Kd.R_alloc | apply Kd.R_drewN | apply Kd.R_drew)); exact HO356.out) hb); have n2_ := Aside0.mk (Kd.V_lower (Kd.V_mono (ok' := fun k_ => some k_ ≠ (.slice Ao21 t349.length co21 : Value).ownBlock) ho0 (fun k_ hk_ => Or.elim hk_ (fun hs_ => ((Kd.R_apart' (HO356.out) (Kd.R_typed HO352.out) dq28).1 k_ hs_.symm).2) (fun hn_ => (Kd.fresh' (Kd.R_lt dq109) k_ hn_)))) (below_size dq18)); have n3_ := Aside0.mk (below_step dq18 hb); clear HO352; clear HO356; clear HB; have HO352 := n0_; have HO356 := n1_; have HO360 := n2_; have HB := n3_; clear n0_ n1_ n2_ n3_; (try clear hb); (try clear hb2); (try clear hk); (try clear hi); (try clear ho0); obtain ⟨Ao27, co27, eo27⟩ := Kd.V_slice HO360.out; subst eo27; have p361 : 0 ≤ ((t349.length : Int) : Int) := of_decide_eq_true dq21; have q361 : (t349.length : Int) < (t358.length : Int) := of_decide_eq_true dq21; obtain ⟨ad361, e361, hx361_0⟩ := Kd.at_bool (Kd.V_reads' HO360.out).2.2 (t349.length : Int) p361 q361; cases e361; (try simp only [Go.IntWalk.toNatUp] at hx361_0); replace p361 := eq_true p361; replace q361 := eq_true q361))
         go_ret
         exact ⟨dq53, dq18⟩
        ·rw [if_neg c18] at H
         exact absurd H dq23
       ·rw [if_neg c17] at H
        exact absurd H dq23
      ·rw [if_neg c14] at H
       exact absurd H dq23
     ·rw [if_neg c13] at H
      exact absurd H dq23
    ·rw [if_neg c12] at H
     exact absurd H dq23
  ·replace c6 := Bool.eq_false_iff.mpr c6
   subst c6
   have H1 : (some false) = some r := by rw [if_neg (show ¬ (false = true) by decide)] at H; exact H
   clear H
   have H := H1
   clear H1
   obtain rfl := Option.some.inj H
   go_enter Tryd.func35, Tryd.ntmps35
   go_wp2_with (first | ((with_reducible refine gate_callee (f := 76) rfl ?_); refine goesL_ (some 10) rfl rfl Tryd.func76 dq16 rfl #[.string a1] rfl dq15 ?_; (with_reducible refine (impl_Runes.calls a1 t349 false _ ?side1 A3.out).mono ?_); (case side1 => exact dq9); rintro e w28 ⟨v351, rfl, ho0, hb⟩; refine ⟨_, rfl, ?_⟩; have n0_ := Aside0.mk (Kd.R_lower ho0 (below_size dq18)); have n1_ := Aside0.mk (below_step dq18 hb); clear HB; have HO352 := n0_; have HB := n1_; clear n0_ n1_; (try clear hb); (try clear hb2); (try clear hk); (try clear hi); (try clear ho0)) | ((with_reducible refine gate_callee (f := 42) rfl ?_); refine goesL_ (some 14) rfl rfl Tryd.func42 dq16 rfl #[.slice A0 l0.length c0] rfl dq15 ?_; (with_reducible refine (impl_RegexOk.calls k _ _ l0 true _ ?side1 ?side2 A4.out).mono ?_); (case side1 => exact dq4); (case side2 => exact dq3); rintro e w29 ⟨rfl, hb⟩; refine ⟨_, rfl, ?_⟩; have n0_ := Aside0.mk (Kd.R_below dq109 hb); have n1_ := Aside0.mk (below_step dq18 hb); clear HO352; clear HB; have HO352 := n0_; have HB := n1_; clear n0_ n1_; (try clear hb); (try clear hb2); (try clear hk); (try clear hi)))
   go_ret
   exact ⟨dq20, dq18⟩
 ·replace c5 := Bool.eq_false_iff.mpr c5
  subst c5
  have H1 : (some false) = some r := by rw [if_neg (show ¬ (false = true) by decide)] at H; exact H
  clear H
  have H := H1
  clear H1
  obtain rfl := Option.some.inj H
  go_enter Tryd.func35, Tryd.ntmps35
  go_wp2_with (first | ((with_reducible refine gate_callee (f := 76) rfl ?_); refine goesL_ (some 10) rfl rfl Tryd.func76 dq16 rfl #[.string a1] rfl dq15 ?_; (with_reducible refine (impl_Runes.calls a1 t349 t350 _ ?side1 A3.out).mono ?_); (case side1 => exact dq9); rintro e w30 ⟨v351, rfl, ho0, hb⟩; refine ⟨_, rfl, ?_⟩; have n0_ := Aside0.mk (Kd.R_lower ho0 (below_size dq18)); have n1_ := Aside0.mk (below_step dq18 hb); clear HB; have HO352 := n0_; have HB := n1_; clear n0_ n1_; (try clear hb); (try clear hb2); (try clear hk); (try clear hi); (try clear ho0)) | ((with_reducible refine gate_callee (f := 42) rfl ?_); refine goesL_ (some 14) rfl rfl Tryd.func42 dq16 rfl #[.slice A0 l0.length c0] rfl dq15 ?_; (with_reducible refine (impl_RegexOk.calls k _ _ l0 false _ ?side1 ?side2 A4.out).mono ?_); (case side1 => exact dq4); (case side2 => exact dq3); rintro e w31 ⟨rfl, hb⟩; refine ⟨_, rfl, ?_⟩; have n0_ := Aside0.mk (Kd.R_below dq109 hb); have n1_ := Aside0.mk (below_step dq18 hb); clear HO352; clear HB; have HO352 := n0_; have HB := n1_; clear n0_ n1_; (try clear hb); (try clear hb2); (try clear hk); (try clear hi)))
  go_ret
  exact ⟨dq20, dq18⟩

/-! ### laws_eqRange: function 143 -/
def laws_eqRange.f (a0_0 : Int) (a0_1 : Int) (a1_0 : Int) (a1_1 : Int) : Option (Bool) := if a0_0 = a1_0 then (if a0_1 = a1_1 then (some true) else (some false)) else (some false)
set_option maxHeartbeats 8000000 in
set_option maxRecDepth 100000 in
theorem laws_eqRange.calls (a0_0 : Int) (a0_1 : Int) (a1_0 : Int) (a1_1 : Int) (r : Bool) (w : World) (h : laws_eqRange.f a0_0 a0_1 a1_0 a1_1 = some r) :
  Calls Tryd.prog 143 #[.agg #[.int .i64 a0_0, .int .i64 a0_1], .agg #[.int .i64 a1_0, .int .i64 a1_1]] w fun e w' => e = .returned (.bool r) ∧ Below w.heap.size w w' := by
 have hu100 := Tryd.underlying100
 have HB := Aside0.mk (Below.refl w.heap.size w)
 have H : (if a0_0 = a1_0 then (if a0_1 = a1_1 then (some true) else (some false)) else (some false)) = some r := h
 clear h
 by_cases c3 : a0_0 = a1_0
 ·rw [if_pos c3] at H
  have c3b0 := beq_iff_eq.mpr c3
  have c3b1 := bne_eq_false_iff_eq.mpr c3
  clear c3
  by_cases c4 : a0_1 = a1_1
  ·rw [if_pos c4] at H
   have c4b0 := beq_iff_eq.mpr c4
   have c4b1 := bne_eq_false_iff_eq.mpr c4
   clear c4
   obtain rfl := Option.some.inj H
   go_enter Tryd.func143, Tryd.ntmps143
   go_wp2_with (first | ((with_reducible refine gate_dst (N := 2) rfl ?_); refine box_event ?hg (N := 2) ?hd (cs := #[.int .i64 a0_0, .int .i64 a0_1]) (t := 100) ?hr ?_; (case hd => rfl); (case hg => rfl); (case hr => exact dq0); intro gb362 hg w5 hbox hb; have n0_ := Aside0.mk (below_step dq18 hb); have n1_ := Aside0.mk (hbox); have n2_ := Aside0.mk ((dq17 : w.heap.size ≤ gb362)); have n3_ := Aside0.mk ((dq17 : w.heap.size ≤ gb362)); clear HB; have HB := n0_; have BK362 := n1_; have GW362 := n2_; have GE362 := n3_; clear n0_ n1_ n2_ n3_; clear hb hbox hg) | ((with_reducible refine gate_dst (N := 3) rfl ?_); refine box_event ?hg (N := 3) ?hd (cs := #[.int .i64 a1_0, .int .i64 a1_1]) (t := 100) ?hr ?_; (case hd => rfl); (case hg => rfl); (case hr => exact dq0); intro gb363 hg w6 hbox hb; have n0_ := Aside0.mk (blk_below (g := gb362) (o := .cells #[.int .i64 a0_0, .int .i64 a0_1] 100 (0, 0)) dq114 hb); have n1_ := Aside0.mk (below_step dq113 hb); have n2_ := Aside0.mk (hbox); have n3_ := Aside0.mk ((dq112 : w.heap.size ≤ gb363)); have n4_ := Aside0.mk ((dq112 : w.heap.size ≤ gb363)); have n5_ := Aside0.mk ((dq111 : gb362 ≠ gb363)); have n6_ := Aside0.mk ((dq110 : gb363 ≠ gb362)); clear BK362; clear HB; have BK362 := n0_; have HB := n1_; have BK363 := n2_; have GW363 := n3_; have GE363 := n4_; have NB362_363 := n5_; have NB363_362 := n6_; clear n0_ n1_ n2_ n3_ n4_ n5_ n6_; clear hb hbox hg; have hnb7 := NB362_363.out; have hnc7 := NB363_362.out; obtain ⟨⟨hcz8_0, hcz8_1⟩, hfz8_0, hfz8_1⟩ := blkC2 BK362.out; obtain ⟨⟨hcz9_0, hcz9_1⟩, hfz9_0, hfz9_1⟩ := blkC2 BK363.out))
   go_ret
   exact ⟨dq20, dq115⟩
  ·rw [if_neg c4] at H
   have c4b0 := beq_eq_false_iff_ne.mpr c4
   have c4b1 := bne_iff_ne.mpr c4
   obtain rfl := Option.some.inj H
   go_enter Tryd.func143, Tryd.ntmps143
   go_wp2_with (first | ((with_reducible refine gate_dst (N := 2) rfl ?_); refine box_event ?hg (N := 2) ?hd (cs := #[.int .i64 a0_0, .int .i64 a0_1]) (t := 100) ?hr ?_; (case hd => rfl); (case hg => rfl); (case hr => exact dq0); intro gb362 hg w10 hbox hb; have n0_ := Aside0.mk (below_step dq18 hb); have n1_ := Aside0.mk (hbox); have n2_ := Aside0.mk ((dq17 : w.heap.size ≤ gb362)); have n3_ := Aside0.mk ((dq17 : w.heap.size ≤ gb362)); clear HB; have HB := n0_; have BK362 := n1_; have GW362 := n2_; have GE362 := n3_; clear n0_ n1_ n2_ n3_; clear hb hbox hg) | ((with_reducible refine gate_dst (N := 3) rfl ?_); refine box_event ?hg (N := 3) ?hd (cs := #[.int .i64 a1_0, .int .i64 a1_1]) (t := 100) ?hr ?_; (case hd => rfl); (case hg => rfl); (case hr => exact dq0); intro gb363 hg w11 hbox hb; have n0_ := Aside0.mk (blk_below (g := gb362) (o := .cells #[.int .i64 a0_0, .int .i64 a0_1] 100 (0, 0)) dq114 hb); have n1_ := Aside0.mk (below_step dq113 hb); have n2_ := Aside0.mk (hbox); have n3_ := Aside0.mk ((dq112 : w.heap.size ≤ gb363)); have n4_ := Aside0.mk ((dq112 : w.heap.size ≤ gb363)); have n5_ := Aside0.mk ((dq111 : gb362 ≠ gb363)); have n6_ := Aside0.mk ((dq110 : gb363 ≠ gb362)); clear BK362; clear HB; have BK362 := n0_; have HB := n1_; have BK363 := n2_; have GW363 := n3_; have GE363 := n4_; have NB362_363 := n5_; have NB363_362 := n6_; clear n0_ n1_ n2_ n3_ n4_ n5_ n6_; clear hb hbox hg; have hnb12 := NB362_363.out; have hnc12 := NB363_362.out; obtain ⟨⟨hcz13_0, hcz13_1⟩, hfz13_0, hfz13_1⟩ := blkC2 BK362.out; obtain ⟨⟨hcz14_0, hcz14_1⟩, hfz14_0, hfz14_1⟩ := blkC2 BK363.out))
   go_ret
   exact ⟨dq20, dq115⟩
 ·rw [if_neg c3] at H
  have c3b0 := beq_eq_false_iff_ne.mpr c3
  have c3b1 := bne_iff_ne.mpr c3
  obtain rfl := Option.some.inj H
  go_enter Tryd.func143, Tryd.ntmps143
  go_wp2_with (first | ((with_reducible refine gate_dst (N := 2) rfl ?_); refine box_event ?hg (N := 2) ?hd (cs := #[.int .i64 a0_0, .int .i64 a0_1]) (t := 100) ?hr ?_; (case hd => rfl); (case hg => rfl); (case hr => exact dq0); intro gb362 hg w15 hbox hb; have n0_ := Aside0.mk (below_step dq18 hb); have n1_ := Aside0.mk (hbox); have n2_ := Aside0.mk ((dq17 : w.heap.size ≤ gb362)); have n3_ := Aside0.mk ((dq17 : w.heap.size ≤ gb362)); clear HB; have HB := n0_; have BK362 := n1_; have GW362 := n2_; have GE362 := n3_; clear n0_ n1_ n2_ n3_; clear hb hbox hg) | ((with_reducible refine gate_dst (N := 3) rfl ?_); refine box_event ?hg (N := 3) ?hd (cs := #[.int .i64 a1_0, .int .i64 a1_1]) (t := 100) ?hr ?_; (case hd => rfl); (case hg => rfl); (case hr => exact dq0); intro gb363 hg w16 hbox hb; have n0_ := Aside0.mk (blk_below (g := gb362) (o := .cells #[.int .i64 a0_0, .int .i64 a0_1] 100 (0, 0)) dq114 hb); have n1_ := Aside0.mk (below_step dq113 hb); have n2_ := Aside0.mk (hbox); have n3_ := Aside0.mk ((dq112 : w.heap.size ≤ gb363)); have n4_ := Aside0.mk ((dq112 : w.heap.size ≤ gb363)); have n5_ := Aside0.mk ((dq111 : gb362 ≠ gb363)); have n6_ := Aside0.mk ((dq110 : gb363 ≠ gb362)); clear BK362; clear HB; have BK362 := n0_; have HB := n1_; have BK363 := n2_; have GW363 := n3_; have GE363 := n4_; have NB362_363 := n5_; have NB363_362 := n6_; clear n0_ n1_ n2_ n3_ n4_ n5_ n6_; clear hb hbox hg; have hnb17 := NB362_363.out; have hnc17 := NB363_362.out; obtain ⟨⟨hcz18_0, hcz18_1⟩, hfz18_0, hfz18_1⟩ := blkC2 BK362.out; obtain ⟨⟨hcz19_0, hcz19_1⟩, hfz19_0, hfz19_1⟩ := blkC2 BK363.out))
  go_ret
  exact ⟨dq20, dq115⟩

/-! ### laws_eqRangeS: function 115 -/
def laws_eqRangeS.l0 : Nat → List (S100) → List (S100) → Int → Option (Bool)
 | 0, _, _, _ => none
 | k + 1, x0, x1, x5 => if x5 < (x0.length : Int) then (if 0 ≤ x5 then (if x5 < (x1.length : Int) then ((laws_eqRange.f ((rd_T100 x0 x5).f0) ((rd_T100 x0 x5).f1) ((rd_T100 x1 x5).f0) ((rd_T100 x1 x5).f1)).bind fun t366 => (if t366 = true then (laws_eqRangeS.l0 k x0 x1 (wrap64 (x5 + 1))) else (some false))) else (none)) else (none)) else (some true)
def laws_eqRangeS.f (k : Nat) (l0 : List (S100)) (l1 : List (S100)) : Option (Bool) := if (l0.length : Int) = (l1.length : Int) then (laws_eqRangeS.l0 k l0 l1 0) else (some false)
def laws_eqRangeS.T6 : Bool × List (List Nat × List Nat) := (true, [([], []), ([], []), ([0, 1], [0, 1]), ([2], [2]), ([], []), ([], []), ([4, 5], [4, 5]), ([6], [6]), ([3, 7], [3, 7]), ([8], [8])])
def laws_eqRangeS.B6 : List Nat := [0, 0, 3, 7, 0, 0, 48, 112, 255, 511]
theorem laws_eqRangeS.tab6 : rtab .any (opsOf Tryd.f115 6) = laws_eqRangeS.T6 := by kernel_rfl
theorem laws_eqRangeS.bits6 : waitsOk laws_eqRangeS.T6.2 laws_eqRangeS.B6 = true := by kernel_rfl
set_option maxHeartbeats 8000000 in
set_option maxRecDepth 100000 in
theorem laws_eqRangeS.calls (k : Nat) (A0 : Option Addr) (c0 : Nat) (l0 : List (S100)) (A1 : Option Addr) (c1 : Nat) (l1 : List (S100)) (r : Bool) (w : World) (hr0 : Kd.C k100 w A0 l0.length l0) (hc0 : l0.length ≤ c0) (hr1 : Kd.C k100 w A1 l1.length l1) (hc1 : l1.length ≤ c1) (h : laws_eqRangeS.f k l0 l1 = some r) :
  Calls Tryd.prog 115 #[.slice A0 l0.length c0, .slice A1 l1.length c1] w fun e w' => e = .returned (.bool r) ∧ Below w.heap.size w w' := by
 have hu100 := Tryd.underlying100
 have HR0 := Aside0.mk hr0
 have HC0 := Aside0.mk hc0
 clear hr0 hc0
 have HR1 := Aside0.mk hr1
 have HC1 := Aside0.mk hc1
 clear hr1 hc1
 have HB := Aside0.mk (Below.refl w.heap.size w)
 have H : (if (l0.length : Int) = (l1.length : Int) then (laws_eqRangeS.l0 k l0 l1 0) else (some false)) = some r := h
 clear h
 by_cases c3 : (l0.length : Int) = (l1.length : Int)
 ·rw [if_pos c3] at H
  have c3b0 := beq_iff_eq.mpr c3
  have c3b1 := bne_eq_false_iff_eq.mpr c3
  have c3b2 : (l0.length == l1.length) = true := by first | simpa using c3 | (simp at c3 ⊢; omega)
  clear c3
  have H' := Aside0.mk H
  clear H
  go_enter Tryd.func115, Tryd.ntmps115
  go_wp2
  go_loopg [5] k (fun kq v5 w' => ∃ (x5_1 : Int), v5 = .int .i64 x5_1 ∧ Aside0 (laws_eqRangeS.l0 kq l0 l1 x5_1 = some r) ∧ Aside0 (kq ≤ k) ∧ Aside0 (Below w.heap.size w w'))
  case atStart => exact ⟨(0), dq14, H', ⟨Nat.le_refl _⟩, ⟨dq18⟩⟩
  case round =>
   clear H'
   try clear c1
   try clear p2
   try clear c3
   try clear c3b0
   try clear c3b1
   try clear c3b2
   obtain ⟨x5_1, rfl, HA, HK1, HB⟩ := hrel
   cases gk with
   | zero => exact absurd HA.out (by simp [laws_eqRangeS.l0])
   | succ k1 =>
    have H := HA.out
    clear HA
    simp only [laws_eqRangeS.l0] at H
    by_cases c4 : x5_1 < (l0.length : Int)
    ·rw [if_pos c4] at H
     have c4b0 := decide_eq_true c4
     clear c4
     by_cases c5 : 0 ≤ x5_1
     ·rw [if_pos c5] at H
      have c5b0 := decide_eq_true c5
      clear c5
      by_cases c6 : x5_1 < (l1.length : Int)
      ·rw [if_pos c6] at H
       have c6b0 := decide_eq_true c6
       clear c6
       replace H := Option.bind_eq_some_iff.mp H
       obtain ⟨t366, A70, H⟩ := H
       replace H : (if t366 = true then (laws_eqRangeS.l0 k1 l0 l1 (wrap64 (x5_1 + 1))) else (some false)) = some r := H
       have A7 := Aside0.mk A70
       clear A70
       by_cases c8 : t366 = true
       ·subst c8
        have H1 : (laws_eqRangeS.l0 k1 l0 l1 (wrap64 (x5_1 + 1))) = some r := by rw [if_pos rfl] at H; exact H
        clear H
        have H := H1
        clear H1
        have H' := Aside0.mk H
        clear H
        try go_wp2
        have n0_ := Aside0.mk (below_drew1 HB.out)
        clear HB
        have HB := n0_
        clear n0_
        have p364 : 0 ≤ (x5_1 : Int) := of_decide_eq_true dq21
        have q364 : x5_1 < (l0.length : Int) := of_decide_eq_true dq21
        obtain ⟨ad364, e364, hx364_0, hx364_1⟩ := at_T100 HR0.out x5_1 p364 q364
        have hw364_1 := hx364_1
        have hw364_0 := hx364_0
        cases e364
        replace hx364_0 := (HB.out.cell (World.block_lt_of_cell? w _ hx364_0)).trans hx364_0
        replace hx364_1 := (HB.out.cell (World.block_lt_of_cell? w _ hx364_1)).trans hx364_1
        replace p364 := eq_true p364
        replace q364 := eq_true q364
        have p365 : 0 ≤ (x5_1 : Int) := of_decide_eq_true dq21
        have q365 : x5_1 < (l1.length : Int) := of_decide_eq_true dq21
        obtain ⟨ad365, e365, hx365_0, hx365_1⟩ := at_T100 HR1.out x5_1 p365 q365
        have hw365_1 := hx365_1
        have hw365_0 := hx365_0
        cases e365
        replace hx365_0 := (HB.out.cell (World.block_lt_of_cell? w _ hx365_0)).trans hx365_0
        replace hx365_1 := (HB.out.cell (World.block_lt_of_cell? w _ hx365_1)).trans hx365_1
        replace p365 := eq_true p365
        replace q365 := eq_true q365
        refine start_ (n := 10) (S := fun w' => w'.cell? (ad364.add ((x5_1).toNat * 2)) = some (.int .i64 ((rd_T100 l0 x5_1).f0)) ∧ w'.cell? ⟨(ad364.add ((x5_1).toNat * 2)).block, (ad364.add ((x5_1).toNat * 2)).off + 1, none⟩ = some (.int .i64 ((rd_T100 l0 x5_1).f1)) ∧ w'.cell? (ad365.add ((x5_1).toNat * 2)) = some (.int .i64 ((rd_T100 l1 x5_1).f0)) ∧ w'.cell? ⟨(ad365.add ((x5_1).toNat * 2)).block, (ad365.add ((x5_1).toNat * 2)).off + 1, none⟩ = some (.int .i64 ((rd_T100 l1 x5_1).f1))) (ds := []) #[false, false, false, false, false, false, false, false, false, false] dq16 rfl rfl ⟨((HB.out.cell (World.block_lt_of_cell? w _ hw364_0)).trans hw364_0), ((HB.out.cell (World.block_lt_of_cell? w _ hw364_1)).trans hw364_1), ((HB.out.cell (World.block_lt_of_cell? w _ hw365_0)).trans hw365_0), ((HB.out.cell (World.block_lt_of_cell? w _ hw365_1)).trans hw365_1)⟩ (fun hHeld => ?_); refine with_tabW laws_eqRangeS.tab6 laws_eqRangeS.bits6 (fun HT_ HW_ => ?_)
        generalize wr.drew = w9 at HB hx364_0 hx364_1 hx365_0 hx365_1 hHeld ⊢
        refine pureA (i := 0) (N := some 17) #[true, false, false, false, false, false, false, false, false, false] ?_
        refine pureA (i := 1) (N := some 18) #[true, true, false, false, false, false, false, false, false, false] ?_
        refine pureA (i := 2) (N := some 19) #[true, true, true, false, false, false, false, false, false, false] ?_
        refine pureA (i := 4) (N := some 21) #[true, true, true, false, true, false, false, false, false, false] ?_
        refine pureA (i := 5) (N := some 22) #[true, true, true, false, true, true, false, false, false, false] ?_
        refine pureA (i := 6) (N := some 23) #[true, true, true, false, true, true, true, false, false, false] ?_
        refine takeA4 (i := 3) (N := some 20) #[true, true, true, true, true, true, true, false, false, false] ?_
        refine takeA4 (i := 7) (N := some 24) #[true, true, true, true, true, true, true, true, false, false] ?_
        refine one_ (i := 8) (N := some 25) #[true, true, true, true, true, true, true, true, true, false] rfl rfl (one_of HT_.out dq16) dq28 (fun K hK => ?_)
        refine goes_ Tryd.func143 dq16 rfl #[.agg #[.int .i64 ((rd_T100 l0 x5_1).f0), .int .i64 ((rd_T100 l0 x5_1).f1)], .agg #[.int .i64 ((rd_T100 l1 x5_1).f0), .int .i64 ((rd_T100 l1 x5_1).f1)]] dq29 rfl rfl dq15 ?_
        with_reducible refine (laws_eqRange.calls ((rd_T100 l0 x5_1).f0) ((rd_T100 l0 x5_1).f1) ((rd_T100 l1 x5_1).f0) ((rd_T100 l1 x5_1).f1) true _ A7.out).mono ?_
        rintro e w10 ⟨rfl, hb⟩
        refine ⟨_, rfl, ?_⟩
        have n0_ := Aside0.mk (below_step dq18 hb)
        clear HB
        have HB := n0_
        clear n0_
        (try clear hb)
        (try clear hb2)
        (try clear hk)
        (try clear hi)
        refine hK.out _ _ ⟨((HB.out.cell (World.block_lt_of_cell? w _ hw364_0)).trans hw364_0), ((HB.out.cell (World.block_lt_of_cell? w _ hw364_1)).trans hw364_1), ((HB.out.cell (World.block_lt_of_cell? w _ hw365_0)).trans hw365_0), ((HB.out.cell (World.block_lt_of_cell? w _ hw365_1)).trans hw365_1)⟩ (fun hHeld => ?_)
        clear hK K
        refine norm_ (a' := ?_) ?_ ?_
        rotate_left
        ·show Act.put _ (some 25) _ = _
         simp only [Act.put, List.setIfInBounds_toArray, List.set_cons_zero, List.set_cons_succ, i64_w, i32_w]
         rfl
        refine pureA (i := 9) (N := some 26) #[true, true, true, true, true, true, true, true, true, true] ?_
        refine done_ (done_of HT_.out dq16) ?_
        try go_wp2
        go_roundg k1
        case measure => have := HK1.out; omega
        case rel => exact ⟨(wrap64 (x5_1 + 1)), dq14, H', ⟨dq22⟩, ⟨dq18⟩⟩
       ·replace c8 := Bool.eq_false_iff.mpr c8
        subst c8
        have H1 : (some false) = some r := by rw [if_neg (show ¬ (false = true) by decide)] at H; exact H
        clear H
        have H := H1
        clear H1
        obtain rfl := Option.some.inj H
        try go_wp2
        have n0_ := Aside0.mk (below_drew1 HB.out)
        clear HB
        have HB := n0_
        clear n0_
        have p364 : 0 ≤ (x5_1 : Int) := of_decide_eq_true dq21
        have q364 : x5_1 < (l0.length : Int) := of_decide_eq_true dq21
        obtain ⟨ad364, e364, hx364_0, hx364_1⟩ := at_T100 HR0.out x5_1 p364 q364
        have hw364_1 := hx364_1
        have hw364_0 := hx364_0
        cases e364
        replace hx364_0 := (HB.out.cell (World.block_lt_of_cell? w _ hx364_0)).trans hx364_0
        replace hx364_1 := (HB.out.cell (World.block_lt_of_cell? w _ hx364_1)).trans hx364_1
        replace p364 := eq_true p364
        replace q364 := eq_true q364
        have p365 : 0 ≤ (x5_1 : Int) := of_decide_eq_true dq21
        have q365 : x5_1 < (l1.length : Int) := of_decide_eq_true dq21
        obtain ⟨ad365, e365, hx365_0, hx365_1⟩ := at_T100 HR1.out x5_1 p365 q365
        have hw365_1 := hx365_1
        have hw365_0 := hx365_0
        cases e365
        replace hx365_0 := (HB.out.cell (World.block_lt_of_cell? w _ hx365_0)).trans hx365_0
        replace hx365_1 := (HB.out.cell (World.block_lt_of_cell? w _ hx365_1)).trans hx365_1
        replace p365 := eq_true p365
        replace q365 := eq_true q365
        refine start_ (n := 10) (S := fun w' => w'.cell? (ad364.add ((x5_1).toNat * 2)) = some (.int .i64 ((rd_T100 l0 x5_1).f0)) ∧ w'.cell? ⟨(ad364.add ((x5_1).toNat * 2)).block, (ad364.add ((x5_1).toNat * 2)).off + 1, none⟩ = some (.int .i64 ((rd_T100 l0 x5_1).f1)) ∧ w'.cell? (ad365.add ((x5_1).toNat * 2)) = some (.int .i64 ((rd_T100 l1 x5_1).f0)) ∧ w'.cell? ⟨(ad365.add ((x5_1).toNat * 2)).block, (ad365.add ((x5_1).toNat * 2)).off + 1, none⟩ = some (.int .i64 ((rd_T100 l1 x5_1).f1))) (ds := []) #[false, false, false, false, false, false, false, false, false, false] dq16 rfl rfl ⟨((HB.out.cell (World.block_lt_of_cell? w _ hw364_0)).trans hw364_0), ((HB.out.cell (World.block_lt_of_cell? w _ hw364_1)).trans hw364_1), ((HB.out.cell (World.block_lt_of_cell? w _ hw365_0)).trans hw365_0), ((HB.out.cell (World.block_lt_of_cell? w _ hw365_1)).trans hw365_1)⟩ (fun hHeld => ?_); refine with_tabW laws_eqRangeS.tab6 laws_eqRangeS.bits6 (fun HT_ HW_ => ?_)
        generalize wr.drew = w11 at HB hx364_0 hx364_1 hx365_0 hx365_1 hHeld ⊢
        refine pureA (i := 0) (N := some 17) #[true, false, false, false, false, false, false, false, false, false] ?_
        refine pureA (i := 1) (N := some 18) #[true, true, false, false, false, false, false, false, false, false] ?_
        refine pureA (i := 2) (N := some 19) #[true, true, true, false, false, false, false, false, false, false] ?_
        refine pureA (i := 4) (N := some 21) #[true, true, true, false, true, false, false, false, false, false] ?_
        refine pureA (i := 5) (N := some 22) #[true, true, true, false, true, true, false, false, false, false] ?_
        refine pureA (i := 6) (N := some 23) #[true, true, true, false, true, true, true, false, false, false] ?_
        refine takeA4 (i := 3) (N := some 20) #[true, true, true, true, true, true, true, false, false, false] ?_
        refine takeA4 (i := 7) (N := some 24) #[true, true, true, true, true, true, true, true, false, false] ?_
        refine one_ (i := 8) (N := some 25) #[true, true, true, true, true, true, true, true, true, false] rfl rfl (one_of HT_.out dq16) dq28 (fun K hK => ?_)
        refine goes_ Tryd.func143 dq16 rfl #[.agg #[.int .i64 ((rd_T100 l0 x5_1).f0), .int .i64 ((rd_T100 l0 x5_1).f1)], .agg #[.int .i64 ((rd_T100 l1 x5_1).f0), .int .i64 ((rd_T100 l1 x5_1).f1)]] dq29 rfl rfl dq15 ?_
        with_reducible refine (laws_eqRange.calls ((rd_T100 l0 x5_1).f0) ((rd_T100 l0 x5_1).f1) ((rd_T100 l1 x5_1).f0) ((rd_T100 l1 x5_1).f1) false _ A7.out).mono ?_
        rintro e w12 ⟨rfl, hb⟩
        refine ⟨_, rfl, ?_⟩
        have n0_ := Aside0.mk (below_step dq18 hb)
        clear HB
        have HB := n0_
        clear n0_
        (try clear hb)
        (try clear hb2)
        (try clear hk)
        (try clear hi)
        refine hK.out _ _ ⟨((HB.out.cell (World.block_lt_of_cell? w _ hw364_0)).trans hw364_0), ((HB.out.cell (World.block_lt_of_cell? w _ hw364_1)).trans hw364_1), ((HB.out.cell (World.block_lt_of_cell? w _ hw365_0)).trans hw365_0), ((HB.out.cell (World.block_lt_of_cell? w _ hw365_1)).trans hw365_1)⟩ (fun hHeld => ?_)
        clear hK K
        refine norm_ (a' := ?_) ?_ ?_
        rotate_left
        ·show Act.put _ (some 25) _ = _
         simp only [Act.put, List.setIfInBounds_toArray, List.set_cons_zero, List.set_cons_succ, i64_w, i32_w]
         rfl
        refine pureA (i := 9) (N := some 26) #[true, true, true, true, true, true, true, true, true, true] ?_
        refine done_ (done_of HT_.out dq16) ?_
        try go_wp2
        go_ret
        exact ⟨dq20, dq18⟩
      ·rw [if_neg c6] at H
       exact absurd H dq23
     ·rw [if_neg c5] at H
      exact absurd H dq23
    ·rw [if_neg c4] at H
     have c4b0 := decide_eq_false c4
     clear c4
     obtain rfl := Option.some.inj H
     go_wp2
     go_ret
     exact ⟨dq20, dq18⟩
 ·rw [if_neg c3] at H
  have c3b0 := beq_eq_false_iff_ne.mpr c3
  have c3b1 := bne_iff_ne.mpr c3
  have c3b2 : (l0.length == l1.length) = false := by first | simpa using c3 | (simp at c3 ⊢; omega)
  obtain rfl := Option.some.inj H
  go_enter Tryd.func115, Tryd.ntmps115
  go_wp2
  go_ret
  exact ⟨dq20, dq18⟩

/-! ### laws_eqRNode: function 78 -/
def laws_eqRNode.f (k : Nat) (a0_0 : Int) (a0_1 : Bool) (l0_2 : List (S100)) (a0_3 : Int) (a0_4 : Int) (a0_5 : Int) (a0_6 : Int) (a1_0 : Int) (a1_1 : Bool) (l1_2 : List (S100)) (a1_3 : Int) (a1_4 : Int) (a1_5 : Int) (a1_6 : Int) : Option (Bool) := if a0_0 = a1_0 then (if (a0_1 != a1_1) = true then (some false) else ((laws_eqRangeS.f k l0_2 l1_2).bind fun t369 => (if t369 = true then (if a0_3 = a1_3 then (if a0_4 = a1_4 then (if a0_5 = a1_5 then (if a0_6 = a1_6 then (some true) else (some false)) else (some false)) else (some false)) else (some false)) else (some false)))) else (some false)
set_option maxHeartbeats 8000000 in
set_option maxRecDepth 100000 in
theorem laws_eqRNode.calls (k : Nat) (a0_0 : Int) (a0_1 : Bool) (A0_2 : Option Addr) (c0_2 : Nat) (l0_2 : List (S100)) (a0_3 : Int) (a0_4 : Int) (a0_5 : Int) (a0_6 : Int) (a1_0 : Int) (a1_1 : Bool) (A1_2 : Option Addr) (c1_2 : Nat) (l1_2 : List (S100)) (a1_3 : Int) (a1_4 : Int) (a1_5 : Int) (a1_6 : Int) (r : Bool) (w : World) (hr0_2 : Kd.C k100 w A0_2 l0_2.length l0_2) (hc0_2 : l0_2.length ≤ c0_2) (hr1_2 : Kd.C k100 w A1_2 l1_2.length l1_2) (hc1_2 : l1_2.length ≤ c1_2) (h : laws_eqRNode.f k a0_0 a0_1 l0_2 a0_3 a0_4 a0_5 a0_6 a1_0 a1_1 l1_2 a1_3 a1_4 a1_5 a1_6 = some r) :
  Calls Tryd.prog 78 #[.agg #[.int .i64 a0_0, .bool a0_1, .slice A0_2 l0_2.length c0_2, .int .i64 a0_3, .int .i64 a0_4, .int .i64 a0_5, .int .i64 a0_6], .agg #[.int .i64 a1_0, .bool a1_1, .slice A1_2 l1_2.length c1_2, .int .i64 a1_3, .int .i64 a1_4, .int .i64 a1_5, .int .i64 a1_6]] w fun e w' => e = .returned (.bool r) ∧ Below w.heap.size w w' := by
 have hu93 := Tryd.underlying93
 have HR0_2 := Aside0.mk hr0_2
 have HC0_2 := Aside0.mk hc0_2
 clear hr0_2 hc0_2
 have HR1_2 := Aside0.mk hr1_2
 have HC1_2 := Aside0.mk hc1_2
 clear hr1_2 hc1_2
 have HB := Aside0.mk (Below.refl w.heap.size w)
 have H : (if a0_0 = a1_0 then (if (a0_1 != a1_1) = true then (some false) else ((laws_eqRangeS.f k l0_2 l1_2).bind fun t369 => (if t369 = true then (if a0_3 = a1_3 then (if a0_4 = a1_4 then (if a0_5 = a1_5 then (if a0_6 = a1_6 then (some true) else (some false)) else (some false)) else (some false)) else (some false)) else (some false)))) else (some false)) = some r := h
 clear h
 by_cases c3 : a0_0 = a1_0
 ·rw [if_pos c3] at H
  have c3b0 := beq_iff_eq.mpr c3
  have c3b1 := bne_eq_false_iff_eq.mpr c3
  clear c3
  by_cases c4 : (a0_1 != a1_1) = true
  ·rw [if_pos c4] at H
   have c4b0 : (a0_1 != a1_1) = true := c4
   (try (have c4b1 : decide (a0_1 = a1_1) = false := by simpa using c4))
   (try (have c4b2 : (a0_1 == a1_1) = false := by simpa using c4))
   (try (have c4b3 : ¬ (a0_1 = a1_1) := by simpa using c4))
   clear c4
   obtain rfl := Option.some.inj H
   go_enter Tryd.func78, Tryd.ntmps78
   go_wp2_with (first | ((with_reducible refine gate_dst (N := 2) rfl ?_); refine box_event ?hg (N := 2) ?hd (cs := #[.int .i64 a0_0, .bool a0_1, .slice A0_2 l0_2.length c0_2, .int .i64 a0_3, .int .i64 a0_4, .int .i64 a0_5, .int .i64 a0_6]) (t := 93) ?hr ?_; (case hd => rfl); (case hg => rfl); (case hr => exact dq0); intro gb367 hg w5 hbox hb; have n0_ := Aside0.mk (below_step dq18 hb); have n1_ := Aside0.mk (hbox); have n2_ := Aside0.mk ((dq17 : w.heap.size ≤ gb367)); have n3_ := Aside0.mk ((dq17 : w.heap.size ≤ gb367)); clear HB; have HB := n0_; have BK367 := n1_; have GW367 := n2_; have GE367 := n3_; clear n0_ n1_ n2_ n3_; clear hb hbox hg) | ((with_reducible refine gate_dst (N := 3) rfl ?_); refine box_event ?hg (N := 3) ?hd (cs := #[.int .i64 a1_0, .bool a1_1, .slice A1_2 l1_2.length c1_2, .int .i64 a1_3, .int .i64 a1_4, .int .i64 a1_5, .int .i64 a1_6]) (t := 93) ?hr ?_; (case hd => rfl); (case hg => rfl); (case hr => exact dq0); intro gb368 hg w6 hbox hb; have n0_ := Aside0.mk (blk_below (g := gb367) (o := .cells #[.int .i64 a0_0, .bool a0_1, .slice A0_2 l0_2.length c0_2, .int .i64 a0_3, .int .i64 a0_4, .int .i64 a0_5, .int .i64 a0_6] 93 (0, 0)) dq120 hb); have n1_ := Aside0.mk (below_step dq119 hb); have n2_ := Aside0.mk (hbox); have n3_ := Aside0.mk ((dq118 : w.heap.size ≤ gb368)); have n4_ := Aside0.mk ((dq118 : w.heap.size ≤ gb368)); have n5_ := Aside0.mk ((dq117 : gb367 ≠ gb368)); have n6_ := Aside0.mk ((dq116 : gb368 ≠ gb367)); clear BK367; clear HB; have BK367 := n0_; have HB := n1_; have BK368 := n2_; have GW368 := n3_; have GE368 := n4_; have NB367_368 := n5_; have NB368_367 := n6_; clear n0_ n1_ n2_ n3_ n4_ n5_ n6_; clear hb hbox hg; have hnb7 := NB367_368.out; have hnc7 := NB368_367.out; obtain ⟨⟨hcz8_0, hcz8_1, hcz8_2, hcz8_3, hcz8_4, hcz8_5, hcz8_6⟩, hfz8_0, hfz8_1, hfz8_2, hfz8_3, hfz8_4, hfz8_5, hfz8_6⟩ := blkC7 BK367.out; obtain ⟨⟨hcz9_0, hcz9_1, hcz9_2, hcz9_3, hcz9_4, hcz9_5, hcz9_6⟩, hfz9_0, hfz9_1, hfz9_2, hfz9_3, hfz9_4, hfz9_5, hfz9_6⟩ := blkC7 BK368.out))
   go_ret
   exact ⟨dq20, dq121⟩
  ·rw [if_neg c4] at H
   have c4b0 : (a0_1 != a1_1) = false := by simpa using c4
   (try (have c4b1 : decide (a0_1 = a1_1) = true := by simpa using c4))
   (try (have c4b2 : (a0_1 == a1_1) = true := by simpa using c4))
   clear c4
   replace H := Option.bind_eq_some_iff.mp H
   obtain ⟨t369, A100, H⟩ := H
   replace H : (if t369 = true then (if a0_3 = a1_3 then (if a0_4 = a1_4 then (if a0_5 = a1_5 then (if a0_6 = a1_6 then (some true) else (some false)) else (some false)) else (some false)) else (some false)) else (some false)) = some r := H
   have A10 := Aside0.mk A100
   clear A100
   by_cases c11 : t369 = true
   ·subst c11
    have H1 : (if a0_3 = a1_3 then (if a0_4 = a1_4 then (if a0_5 = a1_5 then (if a0_6 = a1_6 then (some true) else (some false)) else (some false)) else (some false)) else (some false)) = some r := by rw [if_pos rfl] at H; exact H
    clear H
    have H := H1
    clear H1
    by_cases c12 : a0_3 = a1_3
    ·rw [if_pos c12] at H
     have c12b0 := beq_iff_eq.mpr c12
     have c12b1 := bne_eq_false_iff_eq.mpr c12
     clear c12
     by_cases c13 : a0_4 = a1_4
     ·rw [if_pos c13] at H
      have c13b0 := beq_iff_eq.mpr c13
      have c13b1 := bne_eq_false_iff_eq.mpr c13
      clear c13
      by_cases c14 : a0_5 = a1_5
      ·rw [if_pos c14] at H
       have c14b0 := beq_iff_eq.mpr c14
       have c14b1 := bne_eq_false_iff_eq.mpr c14
       clear c14
       by_cases c15 : a0_6 = a1_6
       ·rw [if_pos c15] at H
        have c15b0 := beq_iff_eq.mpr c15
        have c15b1 := bne_eq_false_iff_eq.mpr c15
        clear c15
        obtain rfl := Option.some.inj H
        go_enter Tryd.func78, Tryd.ntmps78
        go_wp2_with (first | ((with_reducible refine gate_dst (N := 2) rfl ?_); refine box_event ?hg (N := 2) ?hd (cs := #[.int .i64 a0_0, .bool a0_1, .slice A0_2 l0_2.length c0_2, .int .i64 a0_3, .int .i64 a0_4, .int .i64 a0_5, .int .i64 a0_6]) (t := 93) ?hr ?_; (case hd => rfl); (case hg => rfl); (case hr => exact dq0); intro gb367 hg w16 hbox hb; have n0_ := Aside0.mk (below_step dq18 hb); have n1_ := Aside0.mk (hbox); have n2_ := Aside0.mk ((dq17 : w.heap.size ≤ gb367)); have n3_ := Aside0.mk ((dq17 : w.heap.size ≤ gb367)); clear HB; have HB := n0_; have BK367 := n1_; have GW367 := n2_; have GE367 := n3_; clear n0_ n1_ n2_ n3_; clear hb hbox hg) | ((with_reducible refine gate_dst (N := 3) rfl ?_); refine box_event ?hg (N := 3) ?hd (cs := #[.int .i64 a1_0, .bool a1_1, .slice A1_2 l1_2.length c1_2, .int .i64 a1_3, .int .i64 a1_4, .int .i64 a1_5, .int .i64 a1_6]) (t := 93) ?hr ?_; (case hd => rfl); (case hg => rfl); (case hr => exact dq0); intro gb368 hg w17 hbox hb; have n0_ := Aside0.mk (blk_below (g := gb367) (o := .cells #[.int .i64 a0_0, .bool a0_1, .slice A0_2 l0_2.length c0_2, .int .i64 a0_3, .int .i64 a0_4, .int .i64 a0_5, .int .i64 a0_6] 93 (0, 0)) dq120 hb); have n1_ := Aside0.mk (below_step dq119 hb); have n2_ := Aside0.mk (hbox); have n3_ := Aside0.mk ((dq118 : w.heap.size ≤ gb368)); have n4_ := Aside0.mk ((dq118 : w.heap.size ≤ gb368)); have n5_ := Aside0.mk ((dq117 : gb367 ≠ gb368)); have n6_ := Aside0.mk ((dq116 : gb368 ≠ gb367)); clear BK367; clear HB; have BK367 := n0_; have HB := n1_; have BK368 := n2_; have GW368 := n3_; have GE368 := n4_; have NB367_368 := n5_; have NB368_367 := n6_; clear n0_ n1_ n2_ n3_ n4_ n5_ n6_; clear hb hbox hg; have hnb18 := NB367_368.out; have hnc18 := NB368_367.out; obtain ⟨⟨hcz19_0, hcz19_1, hcz19_2, hcz19_3, hcz19_4, hcz19_5, hcz19_6⟩, hfz19_0, hfz19_1, hfz19_2, hfz19_3, hfz19_4, hfz19_5, hfz19_6⟩ := blkC7 BK367.out; obtain ⟨⟨hcz20_0, hcz20_1, hcz20_2, hcz20_3, hcz20_4, hcz20_5, hcz20_6⟩, hfz20_0, hfz20_1, hfz20_2, hfz20_3, hfz20_4, hfz20_5, hfz20_6⟩ := blkC7 BK368.out) | ((with_reducible refine gate_callee (f := 115) rfl ?_); refine goesL_ (some 19) rfl rfl Tryd.func115 dq16 rfl #[.slice A0_2 l0_2.length c0_2, .slice A1_2 l1_2.length c1_2] rfl dq15 ?_; (with_reducible refine (laws_eqRangeS.calls k _ _ l0_2 _ _ l1_2 true _ ?side1 ?side2 ?side3 ?side4 A10.out).mono ?_); (case side1 => exact dq1); (case side2 => exact HC0_2.out); (case side3 => exact dq10); (case side4 => exact HC1_2.out); rintro e w21 ⟨rfl, hb⟩; refine ⟨_, rfl, ?_⟩; have n0_ := Aside0.mk (blk_below (g := gb367) (o := .cells #[.int .i64 a0_0, .bool a0_1, .slice A0_2 l0_2.length c0_2, .int .i64 a0_3, .int .i64 a0_4, .int .i64 a0_5, .int .i64 a0_6] 93 (0, 0)) dq120 hb); have n1_ := Aside0.mk (blk_below (g := gb368) (o := .cells #[.int .i64 a1_0, .bool a1_1, .slice A1_2 l1_2.length c1_2, .int .i64 a1_3, .int .i64 a1_4, .int .i64 a1_5, .int .i64 a1_6] 93 (0, 0)) dq122 hb); have n2_ := Aside0.mk (below_step dq121 hb); clear BK367; clear BK368; clear HB; have BK367 := n0_; have BK368 := n1_; have HB := n2_; clear n0_ n1_ n2_; (try clear hb); (try clear hb2); (try clear hk); (try clear hi); obtain ⟨⟨hcz22_0, hcz22_1, hcz22_2, hcz22_3, hcz22_4, hcz22_5, hcz22_6⟩, hfz22_0, hfz22_1, hfz22_2, hfz22_3, hfz22_4, hfz22_5, hfz22_6⟩ := blkC7 BK367.out; obtain ⟨⟨hcz23_0, hcz23_1, hcz23_2, hcz23_3, hcz23_4, hcz23_5, hcz23_6⟩, hfz23_0, hfz23_1, hfz23_2, hfz23_3, hfz23_4, hfz23_5, hfz23_6⟩ := blkC7 BK368.out))
        go_ret
        exact ⟨dq20, dq121⟩
       ·rw [if_neg c15] at H
        have c15b0 := beq_eq_false_iff_ne.mpr c15
        have c15b1 := bne_iff_ne.mpr c15
        obtain rfl := Option.some.inj H
        go_enter Tryd.func78, Tryd.ntmps78
        go_wp2_with (first | ((with_reducible refine gate_dst (N := 2) rfl ?_); refine box_event ?hg (N := 2) ?hd (cs := #[.int .i64 a0_0, .bool a0_1, .slice A0_2 l0_2.length c0_2, .int .i64 a0_3, .int .i64 a0_4, .int .i64 a0_5, .int .i64 a0_6]) (t := 93) ?hr ?_; (case hd => rfl); (case hg => rfl); (case hr => exact dq0); intro gb367 hg w24 hbox hb; have n0_ := Aside0.mk (below_step dq18 hb); have n1_ := Aside0.mk (hbox); have n2_ := Aside0.mk ((dq17 : w.heap.size ≤ gb367)); have n3_ := Aside0.mk ((dq17 : w.heap.size ≤ gb367)); clear HB; have HB := n0_; have BK367 := n1_; have GW367 := n2_; have GE367 := n3_; clear n0_ n1_ n2_ n3_; clear hb hbox hg) | ((with_reducible refine gate_dst (N := 3) rfl ?_); refine box_event ?hg (N := 3) ?hd (cs := #[.int .i64 a1_0, .bool a1_1, .slice A1_2 l1_2.length c1_2, .int .i64 a1_3, .int .i64 a1_4, .int .i64 a1_5, .int .i64 a1_6]) (t := 93) ?hr ?_; (case hd => rfl); (case hg => rfl); (case hr => exact dq0); intro gb368 hg w25 hbox hb; have n0_ := Aside0.mk (blk_below (g := gb367) (o := .cells #[.int .i64 a0_0, .bool a0_1, .slice A0_2 l0_2.length c0_2, .int .i64 a0_3, .int .i64 a0_4, .int .i64 a0_5, .int .i64 a0_6] 93 (0, 0)) dq120 hb); have n1_ := Aside0.mk (below_step dq119 hb); have n2_ := Aside0.mk (hbox); have n3_ := Aside0.mk ((dq118 : w.heap.size ≤ gb368)); have n4_ := Aside0.mk ((dq118 : w.heap.size ≤ gb368)); have n5_ := Aside0.mk ((dq117 : gb367 ≠ gb368)); have n6_ := Aside0.mk ((dq116 : gb368 ≠ gb367)); clear BK367; clear HB; have BK367 := n0_; have HB := n1_; have BK368 := n2_; have GW368 := n3_; have GE368 := n4_; have NB367_368 := n5_; have NB368_367 := n6_; clear n0_ n1_ n2_ n3_ n4_ n5_ n6_; clear hb hbox hg; have hnb26 := NB367_368.out; have hnc26 := NB368_367.out; obtain ⟨⟨hcz27_0, hcz27_1, hcz27_2, hcz27_3, hcz27_4, hcz27_5, hcz27_6⟩, hfz27_0, hfz27_1, hfz27_2, hfz27_3, hfz27_4, hfz27_5, hfz27_6⟩ := blkC7 BK367.out; obtain ⟨⟨hcz28_0, hcz28_1, hcz28_2, hcz28_3, hcz28_4, hcz28_5, hcz28_6⟩, hfz28_0, hfz28_1, hfz28_2, hfz28_3, hfz28_4, hfz28_5, hfz28_6⟩ := blkC7 BK368.out) | ((with_reducible refine gate_callee (f := 115) rfl ?_); refine goesL_ (some 19) rfl rfl Tryd.func115 dq16 rfl #[.slice A0_2 l0_2.length c0_2, .slice A1_2 l1_2.length c1_2] rfl dq15 ?_; (with_reducible refine (laws_eqRangeS.calls k _ _ l0_2 _ _ l1_2 true _ ?side1 ?side2 ?side3 ?side4 A10.out).mono ?_); (case side1 => exact dq1); (case side2 => exact HC0_2.out); (case side3 => exact dq10); (case side4 => exact HC1_2.out); rintro e w29 ⟨rfl, hb⟩; refine ⟨_, rfl, ?_⟩; have n0_ := Aside0.mk (blk_below (g := gb367) (o := .cells #[.int .i64 a0_0, .bool a0_1, .slice A0_2 l0_2.length c0_2, .int .i64 a0_3, .int .i64 a0_4, .int .i64 a0_5, .int .i64 a0_6] 93 (0, 0)) dq120 hb); have n1_ := Aside0.mk (blk_below (g := gb368) (o := .cells #[.int .i64 a1_0, .bool a1_1, .slice A1_2 l1_2.length c1_2, .int .i64 a1_3, .int .i64 a1_4, .int .i64 a1_5, .int .i64 a1_6] 93 (0, 0)) dq122 hb); have n2_ := Aside0.mk (below_step dq121 hb); clear BK367; clear BK368; clear HB; have BK367 := n0_; have BK368 := n1_; have HB := n2_; clear n0_ n1_ n2_; (try clear hb); (try clear hb2); (try clear hk); (try clear hi); obtain ⟨⟨hcz30_0, hcz30_1, hcz30_2, hcz30_3, hcz30_4, hcz30_5, hcz30_6⟩, hfz30_0, hfz30_1, hfz30_2, hfz30_3, hfz30_4, hfz30_5, hfz30_6⟩ := blkC7 BK367.out; obtain ⟨⟨hcz31_0, hcz31_1, hcz31_2, hcz31_3, hcz31_4, hcz31_5, hcz31_6⟩, hfz31_0, hfz31_1, hfz31_2, hfz31_3, hfz31_4, hfz31_5, hfz31_6⟩ := blkC7 BK368.out))
        go_ret
        exact ⟨dq20, dq121⟩
      ·rw [if_neg c14] at H
       have c14b0 := beq_eq_false_iff_ne.mpr c14
       have c14b1 := bne_iff_ne.mpr c14
       obtain rfl := Option.some.inj H
       go_enter Tryd.func78, Tryd.ntmps78
       go_wp2_with (first | ((with_reducible refine gate_dst (N := 2) rfl ?_); refine box_event ?hg (N := 2) ?hd (cs := #[.int .i64 a0_0, .bool a0_1, .slice A0_2 l0_2.length c0_2, .int .i64 a0_3, .int .i64 a0_4, .int .i64 a0_5, .int .i64 a0_6]) (t := 93) ?hr ?_; (case hd => rfl); (case hg => rfl); (case hr => exact dq0); intro gb367 hg w32 hbox hb; have n0_ := Aside0.mk (below_step dq18 hb); have n1_ := Aside0.mk (hbox); have n2_ := Aside0.mk ((dq17 : w.heap.size ≤ gb367)); have n3_ := Aside0.mk ((dq17 : w.heap.size ≤ gb367)); clear HB; have HB := n0_; have BK367 := n1_; have GW367 := n2_; have GE367 := n3_; clear n0_ n1_ n2_ n3_; clear hb hbox hg) | ((with_reducible refine gate_dst (N := 3) rfl ?_); refine box_event ?hg (N := 3) ?hd (cs := #[.int .i64 a1_0, .bool a1_1, .slice A1_2 l1_2.length c1_2, .int .i64 a1_3, .int .i64 a1_4, .int .i64 a1_5, .int .i64 a1_6]) (t := 93) ?hr ?_; (case hd => rfl); (case hg => rfl); (case hr => exact dq0); intro gb368 hg w33 hbox hb; have n0_ := Aside0.mk (blk_below (g := gb367) (o := .cells #[.int .i64 a0_0, .bool a0_1, .slice A0_2 l0_2.length c0_2, .int .i64 a0_3, .int .i64 a0_4, .int .i64 a0_5, .int .i64 a0_6] 93 (0, 0)) dq120 hb); have n1_ := Aside0.mk (below_step dq119 hb); have n2_ := Aside0.mk (hbox); have n3_ := Aside0.mk ((dq118 : w.heap.size ≤ gb368)); have n4_ := Aside0.mk ((dq118 : w.heap.size ≤ gb368)); have n5_ := Aside0.mk ((dq117 : gb367 ≠ gb368)); have n6_ := Aside0.mk ((dq116 : gb368 ≠ gb367)); clear BK367; clear HB; have BK367 := n0_; have HB := n1_; have BK368 := n2_; have GW368 := n3_; have GE368 := n4_; have NB367_368 := n5_; have NB368_367 := n6_; clear n0_ n1_ n2_ n3_ n4_ n5_ n6_; clear hb hbox hg; have hnb34 := NB367_368.out; have hnc34 := NB368_367.out; obtain ⟨⟨hcz35_0, hcz35_1, hcz35_2, hcz35_3, hcz35_4, hcz35_5, hcz35_6⟩, hfz35_0, hfz35_1, hfz35_2, hfz35_3, hfz35_4, hfz35_5, hfz35_6⟩ := blkC7 BK367.out; obtain ⟨⟨hcz36_0, hcz36_1, hcz36_2, hcz36_3, hcz36_4, hcz36_5, hcz36_6⟩, hfz36_0, hfz36_1, hfz36_2, hfz36_3, hfz36_4, hfz36_5, hfz36_6⟩ := blkC7 BK368.out) | ((with_reducible refine gate_callee (f := 115) rfl ?_); refine goesL_ (some 19) rfl rfl Tryd.func115 dq16 rfl #[.slice A0_2 l0_2.length c0_2, .slice A1_2 l1_2.length c1_2] rfl dq15 ?_; (with_reducible refine (laws_eqRangeS.calls k _ _ l0_2 _ _ l1_2 true _ ?side1 ?side2 ?side3 ?side4 A10.out).mono ?_); (case side1 => exact dq1); (case side2 => exact HC0_2.out); (case side3 => exact dq10); (case side4 => exact HC1_2.out); rintro e w37 ⟨rfl, hb⟩; refine ⟨_, rfl, ?_⟩; have n0_ := Aside0.mk (blk_below (g := gb367) (o := .cells #[.int .i64 a0_0, .bool a0_1, .slice A0_2 l0_2.length c0_2, .int .i64 a0_3, .int .i64 a0_4, .int .i64 a0_5, .int .i64 a0_6] 93 (0, 0)) dq120 hb); have n1_ := Aside0.mk (blk_below (g := gb368) (o := .cells #[.int .i64 a1_0, .bool a1_1, .slice A1_2 l1_2.length c1_2, .int .i64 a1_3, .int .i64 a1_4, .int .i64 a1_5, .int .i64 a1_6] 93 (0, 0)) dq122 hb); have n2_ := Aside0.mk (below_step dq121 hb); clear BK367; clear BK368; clear HB; have BK367 := n0_; have BK368 := n1_; have HB := n2_; clear n0_ n1_ n2_; (try clear hb); (try clear hb2); (try clear hk); (try clear hi); obtain ⟨⟨hcz38_0, hcz38_1, hcz38_2, hcz38_3, hcz38_4, hcz38_5, hcz38_6⟩, hfz38_0, hfz38_1, hfz38_2, hfz38_3, hfz38_4, hfz38_5, hfz38_6⟩ := blkC7 BK367.out; obtain ⟨⟨hcz39_0, hcz39_1, hcz39_2, hcz39_3, hcz39_4, hcz39_5, hcz39_6⟩, hfz39_0, hfz39_1, hfz39_2, hfz39_3, hfz39_4, hfz39_5, hfz39_6⟩ := blkC7 BK368.out))
       go_ret
       exact ⟨dq20, dq121⟩
     ·rw [if_neg c13] at H
      have c13b0 := beq_eq_false_iff_ne.mpr c13
      have c13b1 := bne_iff_ne.mpr c13
      obtain rfl := Option.some.inj H
      go_enter Tryd.func78, Tryd.ntmps78
      go_wp2_with (first | ((with_reducible refine gate_dst (N := 2) rfl ?_); refine box_event ?hg (N := 2) ?hd (cs := #[.int .i64 a0_0, .bool a0_1, .slice A0_2 l0_2.length c0_2, .int .i64 a0_3, .int .i64 a0_4, .int .i64 a0_5, .int .i64 a0_6]) (t := 93) ?hr ?_; (case hd => rfl); (case hg => rfl); (case hr => exact dq0); intro gb367 hg w40 hbox hb; have n0_ := Aside0.mk (below_step dq18 hb); have n1_ := Aside0.mk (hbox); have n2_ := Aside0.mk ((dq17 : w.heap.size ≤ gb367)); have n3_ := Aside0.mk ((dq17 : w.heap.size ≤ gb367)); clear HB; have HB := n0_; have BK367 := n1_; have GW367 := n2_; have GE367 := n3_; clear n0_ n1_ n2_ n3_; clear hb hbox hg) | ((with_reducible refine gate_dst (N := 3) rfl ?_); refine box_event ?hg (N := 3) ?hd (cs := #[.int .i64 a1_0, .bool a1_1, .slice A1_2 l1_2.length c1_2, .int .i64 a1_3, .int .i64 a1_4, .int .i64 a1_5, .int .i64 a1_6]) (t := 93) ?hr ?_; (case hd => rfl); (case hg => rfl); (case hr => exact dq0); intro gb368 hg w41 hbox hb; have n0_ := Aside0.mk (blk_below (g := gb367) (o := .cells #[.int .i64 a0_0, .bool a0_1, .slice A0_2 l0_2.length c0_2, .int .i64 a0_3, .int .i64 a0_4, .int .i64 a0_5, .int .i64 a0_6] 93 (0, 0)) dq120 hb); have n1_ := Aside0.mk (below_step dq119 hb); have n2_ := Aside0.mk (hbox); have n3_ := Aside0.mk ((dq118 : w.heap.size ≤ gb368)); have n4_ := Aside0.mk ((dq118 : w.heap.size ≤ gb368)); have n5_ := Aside0.mk ((dq117 : gb367 ≠ gb368)); have n6_ := Aside0.mk ((dq116 : gb368 ≠ gb367)); clear BK367; clear HB; have BK367 := n0_; have HB := n1_; have BK368 := n2_; have GW368 := n3_; have GE368 := n4_; have NB367_368 := n5_; have NB368_367 := n6_; clear n0_ n1_ n2_ n3_ n4_ n5_ n6_; clear hb hbox hg; have hnb42 := NB367_368.out; have hnc42 := NB368_367.out; obtain ⟨⟨hcz43_0, hcz43_1, hcz43_2, hcz43_3, hcz43_4, hcz43_5, hcz43_6⟩, hfz43_0, hfz43_1, hfz43_2, hfz43_3, hfz43_4, hfz43_5, hfz43_6⟩ := blkC7 BK367.out; obtain ⟨⟨hcz44_0, hcz44_1, hcz44_2, hcz44_3, hcz44_4, hcz44_5, hcz44_6⟩, hfz44_0, hfz44_1, hfz44_2, hfz44_3, hfz44_4, hfz44_5, hfz44_6⟩ := blkC7 BK368.out) | ((with_reducible refine gate_callee (f := 115) rfl ?_); refine goesL_ (some 19) rfl rfl Tryd.func115 dq16 rfl #[.slice A0_2 l0_2.length c0_2, .slice A1_2 l1_2.length c1_2] rfl dq15 ?_; (with_reducible refine (laws_eqRangeS.calls k _ _ l0_2 _ _ l1_2 true _ ?side1 ?side2 ?side3 ?side4 A10.out).mono ?_); (case side1 => exact dq1); (case side2 => exact HC0_2.out); (case side3 => exact dq10); (case side4 => exact HC1_2.out); rintro e w45 ⟨rfl, hb⟩; refine ⟨_, rfl, ?_⟩; have n0_ := Aside0.mk (blk_below (g := gb367) (o := .cells #[.int .i64 a0_0, .bool a0_1, .slice A0_2 l0_2.length c0_2, .int .i64 a0_3, .int .i64 a0_4, .int .i64 a0_5, .int .i64 a0_6] 93 (0, 0)) dq120 hb); have n1_ := Aside0.mk (blk_below (g := gb368) (o := .cells #[.int .i64 a1_0, .bool a1_1, .slice A1_2 l1_2.length c1_2, .int .i64 a1_3, .int .i64 a1_4, .int .i64 a1_5, .int .i64 a1_6] 93 (0, 0)) dq122 hb); have n2_ := Aside0.mk (below_step dq121 hb); clear BK367; clear BK368; clear HB; have BK367 := n0_; have BK368 := n1_; have HB := n2_; clear n0_ n1_ n2_; (try clear hb); (try clear hb2); (try clear hk); (try clear hi); obtain ⟨⟨hcz46_0, hcz46_1, hcz46_2, hcz46_3, hcz46_4, hcz46_5, hcz46_6⟩, hfz46_0, hfz46_1, hfz46_2, hfz46_3, hfz46_4, hfz46_5, hfz46_6⟩ := blkC7 BK367.out; obtain ⟨⟨hcz47_0, hcz47_1, hcz47_2, hcz47_3, hcz47_4, hcz47_5, hcz47_6⟩, hfz47_0, hfz47_1, hfz47_2, hfz47_3, hfz47_4, hfz47_5, hfz47_6⟩ := blkC7 BK368.out))
      go_ret
      exact ⟨dq20, dq121⟩
    ·rw [if_neg c12] at H
     have c12b0 := beq_eq_false_iff_ne.mpr c12
     have c12b1 := bne_iff_ne.mpr c12
     obtain rfl := Option.some.inj H
     go_enter Tryd.func78, Tryd.ntmps78
     go_wp2_with (first | ((with_reducible refine gate_dst (N := 2) rfl ?_); refine box_event ?hg (N := 2) ?hd (cs := #[.int .i64 a0_0, .bool a0_1, .slice A0_2 l0_2.length c0_2, .int .i64 a0_3, .int .i64 a0_4, .int .i64 a0_5, .int .i64 a0_6]) (t := 93) ?hr ?_; (case hd => rfl); (case hg => rfl); (case hr => exact dq0); intro gb367 hg w48 hbox hb; have n0_ := Aside0.mk (below_step dq18 hb); have n1_ := Aside0.mk (hbox); have n2_ := Aside0.mk ((dq17 : w.heap.size ≤ gb367)); have n3_ := Aside0.mk ((dq17 : w.heap.size ≤ gb367)); clear HB; have HB := n0_; have BK367 := n1_; have GW367 := n2_; have GE367 := n3_; clear n0_ n1_ n2_ n3_; clear hb hbox hg) | ((with_reducible refine gate_dst (N := 3) rfl ?_); refine box_event ?hg (N := 3) ?hd (cs := #[.int .i64 a1_0, .bool a1_1, .slice A1_2 l1_2.length c1_2, .int .i64 a1_3, .int .i64 a1_4, .int .i64 a1_5, .int .i64 a1_6]) (t := 93) ?hr ?_; (case hd => rfl); (case hg => rfl); (case hr => exact dq0); intro gb368 hg w49 hbox hb; have n0_ := Aside0.mk (blk_below (g := gb367) (o := .cells #[.int .i64 a0_0, .bool a0_1, .slice A0_2 l0_2.length c0_2, .int .i64 a0_3, .int .i64 a0_4, .int .i64 a0_5, .int .i64 a0_6] 93 (0, 0)) dq120 hb); have n1_ := Aside0.mk (below_step dq119 hb); have n2_ := Aside0.mk (hbox); have n3_ := Aside0.mk ((dq118 : w.heap.size ≤ gb368)); have n4_ := Aside0.mk ((dq118 : w.heap.size ≤ gb368)); have n5_ := Aside0.mk ((dq117 : gb367 ≠ gb368)); have n6_ := Aside0.mk ((dq116 : gb368 ≠ gb367)); clear BK367; clear HB; have BK367 := n0_; have HB := n1_; have BK368 := n2_; have GW368 := n3_; have GE368 := n4_; have NB367_368 := n5_; have NB368_367 := n6_; clear n0_ n1_ n2_ n3_ n4_ n5_ n6_; clear hb hbox hg; have hnb50 := NB367_368.out; have hnc50 := NB368_367.out; obtain ⟨⟨hcz51_0, hcz51_1, hcz51_2, hcz51_3, hcz51_4, hcz51_5, hcz51_6⟩, hfz51_0, hfz51_1, hfz51_2, hfz51_3, hfz51_4, hfz51_5, hfz51_6⟩ := blkC7 BK367.out; obtain ⟨⟨hcz52_0, hcz52_1, hcz52_2, hcz52_3, hcz52_4, hcz52_5, hcz52_6⟩, hfz52_0, hfz52_1, hfz52_2, hfz52_3, hfz52_4, hfz52_5, hfz52_6⟩ := blkC7 BK368.out) | ((with_reducible refine gate_callee (f := 115) rfl ?_); refine goesL_ (some 19) rfl rfl Tryd.func115 dq16 rfl #[.slice A0_2 l0_2.length c0_2, .slice A1_2 l1_2.length c1_2] rfl dq15 ?_; (with_reducible refine (laws_eqRangeS.calls k _ _ l0_2 _ _ l1_2 true _ ?side1 ?side2 ?side3 ?side4 A10.out).mono ?_); (case side1 => exact dq1); (case side2 => exact HC0_2.out); (case side3 => exact dq10); (case side4 => exact HC1_2.out); rintro e w53 ⟨rfl, hb⟩; refine ⟨_, rfl, ?_⟩; have n0_ := Aside0.mk (blk_below (g := gb367) (o := .cells #[.int .i64 a0_0, .bool a0_1, .slice A0_2 l0_2.length c0_2, .int .i64 a0_3, .int .i64 a0_4, .int .i64 a0_5, .int .i64 a0_6] 93 (0, 0)) dq120 hb); have n1_ := Aside0.mk (blk_below (g := gb368) (o := .cells #[.int .i64 a1_0, .bool a1_1, .slice A1_2 l1_2.length c1_2, .int .i64 a1_3, .int .i64 a1_4, .int .i64 a1_5, .int .i64 a1_6] 93 (0, 0)) dq122 hb); have n2_ := Aside0.mk (below_step dq121 hb); clear BK367; clear BK368; clear HB; have BK367 := n0_; have BK368 := n1_; have HB := n2_; clear n0_ n1_ n2_; (try clear hb); (try clear hb2); (try clear hk); (try clear hi); obtain ⟨⟨hcz54_0, hcz54_1, hcz54_2, hcz54_3, hcz54_4, hcz54_5, hcz54_6⟩, hfz54_0, hfz54_1, hfz54_2, hfz54_3, hfz54_4, hfz54_5, hfz54_6⟩ := blkC7 BK367.out; obtain ⟨⟨hcz55_0, hcz55_1, hcz55_2, hcz55_3, hcz55_4, hcz55_5, hcz55_6⟩, hfz55_0, hfz55_1, hfz55_2, hfz55_3, hfz55_4, hfz55_5, hfz55_6⟩ := blkC7 BK368.out))
     go_ret
     exact ⟨dq20, dq121⟩
   ·replace c11 := Bool.eq_false_iff.mpr c11
    subst c11
    have H1 : (some false) = some r := by rw [if_neg (show ¬ (false = true) by decide)] at H; exact H
    clear H
    have H := H1
    clear H1
    obtain rfl := Option.some.inj H
    go_enter Tryd.func78, Tryd.ntmps78
    go_wp2_with (first | ((with_reducible refine gate_dst (N := 2) rfl ?_); refine box_event ?hg (N := 2) ?hd (cs := #[.int .i64 a0_0, .bool a0_1, .slice A0_2 l0_2.length c0_2, .int .i64 a0_3, .int .i64 a0_4, .int .i64 a0_5, .int .i64 a0_6]) (t := 93) ?hr ?_; (case hd => rfl); (case hg => rfl); (case hr => exact dq0); intro gb367 hg w56 hbox hb; have n0_ := Aside0.mk (below_step dq18 hb); have n1_ := Aside0.mk (hbox); have n2_ := Aside0.mk ((dq17 : w.heap.size ≤ gb367)); have n3_ := Aside0.mk ((dq17 : w.heap.size ≤ gb367)); clear HB; have HB := n0_; have BK367 := n1_; have GW367 := n2_; have GE367 := n3_; clear n0_ n1_ n2_ n3_; clear hb hbox hg) | ((with_reducible refine gate_dst (N := 3) rfl ?_); refine box_event ?hg (N := 3) ?hd (cs := #[.int .i64 a1_0, .bool a1_1, .slice A1_2 l1_2.length c1_2, .int .i64 a1_3, .int .i64 a1_4, .int .i64 a1_5, .int .i64 a1_6]) (t := 93) ?hr ?_; (case hd => rfl); (case hg => rfl); (case hr => exact dq0); intro gb368 hg w57 hbox hb; have n0_ := Aside0.mk (blk_below (g := gb367) (o := .cells #[.int .i64 a0_0, .bool a0_1, .slice A0_2 l0_2.length c0_2, .int .i64 a0_3, .int .i64 a0_4, .int .i64 a0_5, .int .i64 a0_6] 93 (0, 0)) dq120 hb); have n1_ := Aside0.mk (below_step dq119 hb); have n2_ := Aside0.mk (hbox); have n3_ := Aside0.mk ((dq118 : w.heap.size ≤ gb368)); have n4_ := Aside0.mk ((dq118 : w.heap.size ≤ gb368)); have n5_ := Aside0.mk ((dq117 : gb367 ≠ gb368)); have n6_ := Aside0.mk ((dq116 : gb368 ≠ gb367)); clear BK367; clear HB; have BK367 := n0_; have HB := n1_; have BK368 := n2_; have GW368 := n3_; have GE368 := n4_; have NB367_368 := n5_; have NB368_367 := n6_; clear n0_ n1_ n2_ n3_ n4_ n5_ n6_; clear hb hbox hg; have hnb58 := NB367_368.out; have hnc58 := NB368_367.out; obtain ⟨⟨hcz59_0, hcz59_1, hcz59_2, hcz59_3, hcz59_4, hcz59_5, hcz59_6⟩, hfz59_0, hfz59_1, hfz59_2, hfz59_3, hfz59_4, hfz59_5, hfz59_6⟩ := blkC7 BK367.out; obtain ⟨⟨hcz60_0, hcz60_1, hcz60_2, hcz60_3, hcz60_4, hcz60_5, hcz60_6⟩, hfz60_0, hfz60_1, hfz60_2, hfz60_3, hfz60_4, hfz60_5, hfz60_6⟩ := blkC7 BK368.out) | ((with_reducible refine gate_callee (f := 115) rfl ?_); refine goesL_ (some 19) rfl rfl Tryd.func115 dq16 rfl #[.slice A0_2 l0_2.length c0_2, .slice A1_2 l1_2.length c1_2] rfl dq15 ?_; (with_reducible refine (laws_eqRangeS.calls k _ _ l0_2 _ _ l1_2 false _ ?side1 ?side2 ?side3 ?side4 A10.out).mono ?_); (case side1 => exact dq1); (case side2 => exact HC0_2.out); (case side3 => exact dq10); (case side4 => exact HC1_2.out); rintro e w61 ⟨rfl, hb⟩; refine ⟨_, rfl, ?_⟩; have n0_ := Aside0.mk (blk_below (g := gb367) (o := .cells #[.int .i64 a0_0, .bool a0_1, .slice A0_2 l0_2.length c0_2, .int .i64 a0_3, .int .i64 a0_4, .int .i64 a0_5, .int .i64 a0_6] 93 (0, 0)) dq120 hb); have n1_ := Aside0.mk (blk_below (g := gb368) (o := .cells #[.int .i64 a1_0, .bool a1_1, .slice A1_2 l1_2.length c1_2, .int .i64 a1_3, .int .i64 a1_4, .int .i64 a1_5, .int .i64 a1_6] 93 (0, 0)) dq122 hb); have n2_ := Aside0.mk (below_step dq121 hb); clear BK367; clear BK368; clear HB; have BK367 := n0_; have BK368 := n1_; have HB := n2_; clear n0_ n1_ n2_; (try clear hb); (try clear hb2); (try clear hk); (try clear hi)))
    go_ret
    exact ⟨dq20, dq121⟩
 ·rw [if_neg c3] at H
  have c3b0 := beq_eq_false_iff_ne.mpr c3
  have c3b1 := bne_iff_ne.mpr c3
  obtain rfl := Option.some.inj H
  go_enter Tryd.func78, Tryd.ntmps78
  go_wp2_with (first | ((with_reducible refine gate_dst (N := 2) rfl ?_); refine box_event ?hg (N := 2) ?hd (cs := #[.int .i64 a0_0, .bool a0_1, .slice A0_2 l0_2.length c0_2, .int .i64 a0_3, .int .i64 a0_4, .int .i64 a0_5, .int .i64 a0_6]) (t := 93) ?hr ?_; (case hd => rfl); (case hg => rfl); (case hr => exact dq0); intro gb367 hg w62 hbox hb; have n0_ := Aside0.mk (below_step dq18 hb); have n1_ := Aside0.mk (hbox); have n2_ := Aside0.mk ((dq17 : w.heap.size ≤ gb367)); have n3_ := Aside0.mk ((dq17 : w.heap.size ≤ gb367)); clear HB; have HB := n0_; have BK367 := n1_; have GW367 := n2_; have GE367 := n3_; clear n0_ n1_ n2_ n3_; clear hb hbox hg) | ((with_reducible refine gate_dst (N := 3) rfl ?_); refine box_event ?hg (N := 3) ?hd (cs := #[.int .i64 a1_0, .bool a1_1, .slice A1_2 l1_2.length c1_2, .int .i64 a1_3, .int .i64 a1_4, .int .i64 a1_5, .int .i64 a1_6]) (t := 93) ?hr ?_; (case hd => rfl); (case hg => rfl); (case hr => exact dq0); intro gb368 hg w63 hbox hb; have n0_ := Aside0.mk (blk_below (g := gb367) (o := .cells #[.int .i64 a0_0, .bool a0_1, .slice A0_2 l0_2.length c0_2, .int .i64 a0_3, .int .i64 a0_4, .int .i64 a0_5, .int .i64 a0_6] 93 (0, 0)) dq120 hb); have n1_ := Aside0.mk (below_step dq119 hb); have n2_ := Aside0.mk (hbox); have n3_ := Aside0.mk ((dq118 : w.heap.size ≤ gb368)); have n4_ := Aside0.mk ((dq118 : w.heap.size ≤ gb368)); have n5_ := Aside0.mk ((dq117 : gb367 ≠ gb368)); have n6_ := Aside0.mk ((dq116 : gb368 ≠ gb367)); clear BK367; clear HB; have BK367 := n0_; have HB := n1_; have BK368 := n2_; have GW368 := n3_; have GE368 := n4_; have NB367_368 := n5_; have NB368_367 := n6_; clear n0_ n1_ n2_ n3_ n4_ n5_ n6_; clear hb hbox hg; have hnb64 := NB367_368.out; have hnc64 := NB368_367.out; obtain ⟨⟨hcz65_0, hcz65_1, hcz65_2, hcz65_3, hcz65_4, hcz65_5, hcz65_6⟩, hfz65_0, hfz65_1, hfz65_2, hfz65_3, hfz65_4, hfz65_5, hfz65_6⟩ := blkC7 BK367.out; obtain ⟨⟨hcz66_0, hcz66_1, hcz66_2, hcz66_3, hcz66_4, hcz66_5, hcz66_6⟩, hfz66_0, hfz66_1, hfz66_2, hfz66_3, hfz66_4, hfz66_5, hfz66_6⟩ := blkC7 BK368.out))
  go_ret
  exact ⟨dq20, dq121⟩

/-! ### laws_eqRNodeS: function 36 -/
def laws_eqRNodeS.l0 : Nat → List (S93) → List (S93) → Int → Option (Bool)
 | 0, _, _, _ => none
 | k + 1, x0, x1, x5 => if x5 < (x0.length : Int) then (if 0 ≤ x5 then (if x5 < (x1.length : Int) then ((laws_eqRNode.f k ((rd_T93 x0 x5).f0) ((rd_T93 x0 x5).f1) ((rd_T93 x0 x5).f2) ((rd_T93 x0 x5).f3) ((rd_T93 x0 x5).f4) ((rd_T93 x0 x5).f5) ((rd_T93 x0 x5).f6) ((rd_T93 x1 x5).f0) ((rd_T93 x1 x5).f1) ((rd_T93 x1 x5).f2) ((rd_T93 x1 x5).f3) ((rd_T93 x1 x5).f4) ((rd_T93 x1 x5).f5) ((rd_T93 x1 x5).f6)).bind fun t372 => (if t372 = true then (laws_eqRNodeS.l0 k x0 x1 (wrap64 (x5 + 1))) else (some false))) else (none)) else (none)) else (some true)
def laws_eqRNodeS.f (k : Nat) (l0 : List (S93)) (l1 : List (S93)) : Option (Bool) := if (l0.length : Int) = (l1.length : Int) then (laws_eqRNodeS.l0 k l0 l1 0) else (some false)
def laws_eqRNodeS.T6 : Bool × List (List Nat × List Nat) := (true, [([], []), ([], []), ([0, 1], [0, 1]), ([2], [2]), ([], []), ([], []), ([4, 5], [4, 5]), ([6], [6]), ([3, 7], [3, 7]), ([8], [8])])
def laws_eqRNodeS.B6 : List Nat := [0, 0, 3, 7, 0, 0, 48, 112, 255, 511]
theorem laws_eqRNodeS.tab6 : rtab .any (opsOf Tryd.f36 6) = laws_eqRNodeS.T6 := by kernel_rfl
theorem laws_eqRNodeS.bits6 : waitsOk laws_eqRNodeS.T6.2 laws_eqRNodeS.B6 = true := by kernel_rfl
set_option maxHeartbeats 8000000 in
set_option maxRecDepth 100000 in
theorem laws_eqRNodeS.calls (k : Nat) (A0 : Option Addr) (c0 : Nat) (l0 : List (S93)) (A1 : Option Addr) (c1 : Nat) (l1 : List (S93)) (r : Bool) (w : World) (hr0 : Kd.C k93 w A0 l0.length l0) (hc0 : l0.length ≤ c0) (hr1 : Kd.C k93 w A1 l1.length l1) (hc1 : l1.length ≤ c1) (h : laws_eqRNodeS.f k l0 l1 = some r) :
  Calls Tryd.prog 36 #[.slice A0 l0.length c0, .slice A1 l1.length c1] w fun e w' => e = .returned (.bool r) ∧ Below w.heap.size w w' := by
 have hu93 := Tryd.underlying93
 have HR0 := Aside0.mk hr0
 have HC0 := Aside0.mk hc0
 clear hr0 hc0
 have HR1 := Aside0.mk hr1
 have HC1 := Aside0.mk hc1
 clear hr1 hc1
 have HB := Aside0.mk (Below.refl w.heap.size w)
 have H : (if (l0.length : Int) = (l1.length : Int) then (laws_eqRNodeS.l0 k l0 l1 0) else (some false)) = some r := h
 clear h
 by_cases c3 : (l0.length : Int) = (l1.length : Int)
 ·rw [if_pos c3] at H
  have c3b0 := beq_iff_eq.mpr c3
  have c3b1 := bne_eq_false_iff_eq.mpr c3
  have c3b2 : (l0.length == l1.length) = true := by first | simpa using c3 | (simp at c3 ⊢; omega)
  clear c3
  have H' := Aside0.mk H
  clear H
  go_enter Tryd.func36, Tryd.ntmps36
  go_wp2
  go_loopg [5] k (fun kq v5 w' => ∃ (x5_1 : Int), v5 = .int .i64 x5_1 ∧ Aside0 (laws_eqRNodeS.l0 kq l0 l1 x5_1 = some r) ∧ Aside0 (kq ≤ k) ∧ Aside0 (Below w.heap.size w w'))
  case atStart => exact ⟨(0), dq14, H', ⟨Nat.le_refl _⟩, ⟨dq18⟩⟩
  case round =>
   clear H'
   try clear c1
   try clear p2
   try clear c3
   try clear c3b0
   try clear c3b1
   try clear c3b2
   obtain ⟨x5_1, rfl, HA, HK1, HB⟩ := hrel
   cases gk with
   | zero => exact absurd HA.out (by simp [laws_eqRNodeS.l0])
   | succ k1 =>
    have H := HA.out
    clear HA
    simp only [laws_eqRNodeS.l0] at H
    by_cases c4 : x5_1 < (l0.length : Int)
    ·rw [if_pos c4] at H
     have c4b0 := decide_eq_true c4
     clear c4
     by_cases c5 : 0 ≤ x5_1
     ·rw [if_pos c5] at H
      have c5b0 := decide_eq_true c5
      clear c5
      by_cases c6 : x5_1 < (l1.length : Int)
      ·rw [if_pos c6] at H
       have c6b0 := decide_eq_true c6
       clear c6
       replace H := Option.bind_eq_some_iff.mp H
       obtain ⟨t372, A70, H⟩ := H
       replace H : (if t372 = true then (laws_eqRNodeS.l0 k1 l0 l1 (wrap64 (x5_1 + 1))) else (some false)) = some r := H
       have A7 := Aside0.mk A70
       clear A70
       by_cases c8 : t372 = true
       ·subst c8
        have H1 : (laws_eqRNodeS.l0 k1 l0 l1 (wrap64 (x5_1 + 1))) = some r := by rw [if_pos rfl] at H; exact H
        clear H
        have H := H1
        clear H1
        have H' := Aside0.mk H
        clear H
        try go_wp2
        have n0_ := Aside0.mk (below_drew1 HB.out)
        clear HB
        have HB := n0_
        clear n0_
        have p370 : 0 ≤ (x5_1 : Int) := of_decide_eq_true dq21
        have q370 : x5_1 < (l0.length : Int) := of_decide_eq_true dq21
        obtain ⟨ad370, A370_2, c370_2, e370, hx370_0, hx370_1, hx370_2, hx370_3, hx370_4, hx370_5, hx370_6, hl370_2, hi370_2⟩ := at_T93 HR0.out x5_1 p370 q370
        have hw370_6 := hx370_6
        have hw370_5 := hx370_5
        have hw370_4 := hx370_4
        have hw370_3 := hx370_3
        have hw370_2 := hx370_2
        have hw370_1 := hx370_1
        have hw370_0 := hx370_0
        cases e370
        replace hx370_0 := (HB.out.cell (World.block_lt_of_cell? w _ hx370_0)).trans hx370_0
        replace hx370_1 := (HB.out.cell (World.block_lt_of_cell? w _ hx370_1)).trans hx370_1
        replace hx370_2 := (HB.out.cell (World.block_lt_of_cell? w _ hx370_2)).trans hx370_2
        replace hx370_3 := (HB.out.cell (World.block_lt_of_cell? w _ hx370_3)).trans hx370_3
        replace hx370_4 := (HB.out.cell (World.block_lt_of_cell? w _ hx370_4)).trans hx370_4
        replace hx370_5 := (HB.out.cell (World.block_lt_of_cell? w _ hx370_5)).trans hx370_5
        replace hx370_6 := (HB.out.cell (World.block_lt_of_cell? w _ hx370_6)).trans hx370_6
        have HR370_2 := Aside0.mk hi370_2
        have HC370_2 := Aside0.mk hl370_2
        clear hi370_2 hl370_2
        replace p370 := eq_true p370
        replace q370 := eq_true q370
        have p371 : 0 ≤ (x5_1 : Int) := of_decide_eq_true dq21
        have q371 : x5_1 < (l1.length : Int) := of_decide_eq_true dq21
        obtain ⟨ad371, A371_2, c371_2, e371, hx371_0, hx371_1, hx371_2, hx371_3, hx371_4, hx371_5, hx371_6, hl371_2, hi371_2⟩ := at_T93 HR1.out x5_1 p371 q371
        have hw371_6 := hx371_6
        have hw371_5 := hx371_5
        have hw371_4 := hx371_4
        have hw371_3 := hx371_3
        have hw371_2 := hx371_2
        have hw371_1 := hx371_1
        have hw371_0 := hx371_0
        cases e371
        replace hx371_0 := (HB.out.cell (World.block_lt_of_cell? w _ hx371_0)).trans hx371_0
        replace hx371_1 := (HB.out.cell (World.block_lt_of_cell? w _ hx371_1)).trans hx371_1
        replace hx371_2 := (HB.out.cell (World.block_lt_of_cell? w _ hx371_2)).trans hx371_2
        replace hx371_3 := (HB.out.cell (World.block_lt_of_cell? w _ hx371_3)).trans hx371_3
        replace hx371_4 := (HB.out.cell (World.block_lt_of_cell? w _ hx371_4)).trans hx371_4
        replace hx371_5 := (HB.out.cell (World.block_lt_of_cell? w _ hx371_5)).trans hx371_5
        replace hx371_6 := (HB.out.cell (World.block_lt_of_cell? w _ hx371_6)).trans hx371_6
        have HR371_2 := Aside0.mk hi371_2
        have HC371_2 := Aside0.mk hl371_2
        clear hi371_2 hl371_2
        replace p371 := eq_true p371
        replace q371 := eq_true q371
        refine start_ (n := 10) (S := fun w' => w'.cell? (ad370.add ((x5_1).toNat * 7)) = some (.int .i64 ((rd_T93 l0 x5_1).f0)) ∧ w'.cell? ⟨(ad370.add ((x5_1).toNat * 7)).block, (ad370.add ((x5_1).toNat * 7)).off + 1, none⟩ = some (.bool ((rd_T93 l0 x5_1).f1)) ∧ w'.cell? ⟨(ad370.add ((x5_1).toNat * 7)).block, (ad370.add ((x5_1).toNat * 7)).off + 2, none⟩ = some (.slice A370_2 ((rd_T93 l0 x5_1).f2).length c370_2) ∧ w'.cell? ⟨(ad370.add ((x5_1).toNat * 7)).block, (ad370.add ((x5_1).toNat * 7)).off + 3, none⟩ = some (.int .i64 ((rd_T93 l0 x5_1).f3)) ∧ w'.cell? ⟨(ad370.add ((x5_1).toNat * 7)).block, (ad370.add ((x5_1).toNat * 7)).off + 4, none⟩ = some (.int .i64 ((rd_T93 l0 x5_1).f4)) ∧ w'.cell? ⟨(ad370.add ((x5_1).toNat * 7)).block, (ad370.add ((x5_1).toNat * 7)).off + 5, none⟩ = some (.int .i64 ((rd_T93 l0 x5_1).f5)) ∧ w'.cell? ⟨(ad370.add ((x5_1).toNat * 7)).block, (ad370.add ((x5_1).toNat * 7)).off + 6, none⟩ = some (.int .i64 ((rd_T93 l0 x5_1).f6)) ∧ w'.cell? (ad371.add ((x5_1).toNat * 7)) = some (.int .i64 ((rd_T93 l1 x5_1).f0)) ∧ w'.cell? ⟨(ad371.add ((x5_1).toNat * 7)).block, (ad371.add ((x5_1).toNat * 7)).off + 1, none⟩ = some (.bool ((rd_T93 l1 x5_1).f1)) ∧ w'.cell? ⟨(ad371.add ((x5_1).toNat * 7)).block, (ad371.add ((x5_1).toNat * 7)).off + 2, none⟩ = some (.slice A371_2 ((rd_T93 l1 x5_1).f2).length c371_2) ∧ w'.cell? ⟨(ad371.add ((x5_1).toNat * 7)).block, (ad371.add ((x5_1).toNat * 7)).off + 3, none⟩ = some (.int .i64 ((rd_T93 l1 x5_1).f3)) ∧ w'.cell? ⟨(ad371.add ((x5_1).toNat * 7)).block, (ad371.add ((x5_1).toNat * 7)).off + 4, none⟩ = some (.int .i64 ((rd_T93 l1 x5_1).f4)) ∧ w'.cell? ⟨(ad371.add ((x5_1).toNat * 7)).block, (ad371.add ((x5_1).toNat * 7)).off + 5, none⟩ = some (.int .i64 ((rd_T93 l1 x5_1).f5)) ∧ w'.cell? ⟨(ad371.add ((x5_1).toNat * 7)).block, (ad371.add ((x5_1).toNat * 7)).off + 6, none⟩ = some (.int .i64 ((rd_T93 l1 x5_1).f6))) (ds := []) #[false, false, false, false, false, false, false, false, false, false] dq16 rfl rfl ⟨((HB.out.cell (World.block_lt_of_cell? w _ hw370_0)).trans hw370_0), ((HB.out.cell (World.block_lt_of_cell? w _ hw370_1)).trans hw370_1), ((HB.out.cell (World.block_lt_of_cell? w _ hw370_2)).trans hw370_2), ((HB.out.cell (World.block_lt_of_cell? w _ hw370_3)).trans hw370_3), ((HB.out.cell (World.block_lt_of_cell? w _ hw370_4)).trans hw370_4), ((HB.out.cell (World.block_lt_of_cell? w _ hw370_5)).trans hw370_5), ((HB.out.cell (World.block_lt_of_cell? w _ hw370_6)).trans hw370_6), ((HB.out.cell (World.block_lt_of_cell? w _ hw371_0)).trans hw371_0), ((HB.out.cell (World.block_lt_of_cell? w _ hw371_1)).trans hw371_1), ((HB.out.cell (World.block_lt_of_cell? w _ hw371_2)).trans hw371_2), ((HB.out.cell (World.block_lt_of_cell? w _ hw371_3)).trans hw371_3), ((HB.out.cell (World.block_lt_of_cell? w _ hw371_4)).trans hw371_4), ((HB.out.cell (World.block_lt_of_cell? w _ hw371_5)).trans hw371_5), ((HB.out.cell (World.block_lt_of_cell? w _ hw371_6)).trans hw371_6)⟩ (fun hHeld => ?_); refine with_tabW laws_eqRNodeS.tab6 laws_eqRNodeS.bits6 (fun HT_ HW_ => ?_)
        generalize wr.drew = w9 at HB HR370_2 HR371_2 hx370_0 hx370_1 hx370_2 hx370_3 hx370_4 hx370_5 hx370_6 hx371_0 hx371_1 hx371_2 hx371_3 hx371_4 hx371_5 hx371_6 hHeld ⊢
        refine pureA (i := 0) (N := some 17) #[true, false, false, false, false, false, false, false, false, false] ?_
        refine pureA (i := 1) (N := some 18) #[true, true, false, false, false, false, false, false, false, false] ?_
        refine pureA (i := 2) (N := some 19) #[true, true, true, false, false, false, false, false, false, false] ?_
        refine pureA (i := 4) (N := some 21) #[true, true, true, false, true, false, false, false, false, false] ?_
        refine pureA (i := 5) (N := some 22) #[true, true, true, false, true, true, false, false, false, false] ?_
        refine pureA (i := 6) (N := some 23) #[true, true, true, false, true, true, true, false, false, false] ?_
        refine takeA14 (i := 3) (N := some 20) #[true, true, true, true, true, true, true, false, false, false] ?_
        refine takeA14 (i := 7) (N := some 24) #[true, true, true, true, true, true, true, true, false, false] ?_
        refine one_ (i := 8) (N := some 25) #[true, true, true, true, true, true, true, true, true, false] rfl rfl (one_of HT_.out dq16) dq28 (fun K hK => ?_)
        refine goes_ Tryd.func78 dq16 rfl #[.agg #[.int .i64 ((rd_T93 l0 x5_1).f0), .bool ((rd_T93 l0 x5_1).f1), .slice A370_2 ((rd_T93 l0 x5_1).f2).length c370_2, .int .i64 ((rd_T93 l0 x5_1).f3), .int .i64 ((rd_T93 l0 x5_1).f4), .int .i64 ((rd_T93 l0 x5_1).f5), .int .i64 ((rd_T93 l0 x5_1).f6)], .agg #[.int .i64 ((rd_T93 l1 x5_1).f0), .bool ((rd_T93 l1 x5_1).f1), .slice A371_2 ((rd_T93 l1 x5_1).f2).length c371_2, .int .i64 ((rd_T93 l1 x5_1).f3), .int .i64 ((rd_T93 l1 x5_1).f4), .int .i64 ((rd_T93 l1 x5_1).f5), .int .i64 ((rd_T93 l1 x5_1).f6)]] dq29 rfl rfl dq15 ?_
        with_reducible refine (laws_eqRNode.calls k1 ((rd_T93 l0 x5_1).f0) ((rd_T93 l0 x5_1).f1) _ _ ((rd_T93 l0 x5_1).f2) ((rd_T93 l0 x5_1).f3) ((rd_T93 l0 x5_1).f4) ((rd_T93 l0 x5_1).f5) ((rd_T93 l0 x5_1).f6) ((rd_T93 l1 x5_1).f0) ((rd_T93 l1 x5_1).f1) _ _ ((rd_T93 l1 x5_1).f2) ((rd_T93 l1 x5_1).f3) ((rd_T93 l1 x5_1).f4) ((rd_T93 l1 x5_1).f5) ((rd_T93 l1 x5_1).f6) true _ ?side1 ?side2 ?side3 ?side4 A7.out).mono ?_
        (case side1 => repeat (first | exact (Kd.C_below HR370_2.out HB.out) | (with_reducible refine Kd.C_alloc ?_ _) | (with_reducible refine Kd.C_drewN ?_ _) | (with_reducible refine Kd.C_drew ?_)))
        (case side2 => exact HC370_2.out)
        (case side3 => repeat (first | exact (Kd.C_below HR371_2.out HB.out) | (with_reducible refine Kd.C_alloc ?_ _) | (with_reducible refine Kd.C_drewN ?_ _) | (with_reducible refine Kd.C_drew ?_)))
        (case side4 => exact HC371_2.out)
        rintro e w10 ⟨rfl, hb⟩
        refine ⟨_, rfl, ?_⟩
        have n0_ := Aside0.mk (below_step dq18 hb)
        clear HB
        have HB := n0_
        clear n0_
        (try clear hb)
        (try clear hb2)
        (try clear hk)
        (try clear hi)
        refine hK.out _ _ ⟨((HB.out.cell (World.block_lt_of_cell? w _ hw370_0)).trans hw370_0), ((HB.out.cell (World.block_lt_of_cell? w _ hw370_1)).trans hw370_1), ((HB.out.cell (World.block_lt_of_cell? w _ hw370_2)).trans hw370_2), ((HB.out.cell (World.block_lt_of_cell? w _ hw370_3)).trans hw370_3), ((HB.out.cell (World.block_lt_of_cell? w _ hw370_4)).trans hw370_4), ((HB.out.cell (World.block_lt_of_cell? w _ hw370_5)).trans hw370_5), ((HB.out.cell (World.block_lt_of_cell? w _ hw370_6)).trans hw370_6), ((HB.out.cell (World.block_lt_of_cell? w _ hw371_0)).trans hw371_0), ((HB.out.cell (World.block_lt_of_cell? w _ hw371_1)).trans hw371_1), ((HB.out.cell (World.block_lt_of_cell? w _ hw371_2)).trans hw371_2), ((HB.out.cell (World.block_lt_of_cell? w _ hw371_3)).trans hw371_3), ((HB.out.cell (World.block_lt_of_cell? w _ hw371_4)).trans hw371_4), ((HB.out.cell (World.block_lt_of_cell? w _ hw371_5)).trans hw371_5), ((HB.out.cell (World.block_lt_of_cell? w _ hw371_6)).trans hw371_6)⟩ (fun hHeld => ?_)
        clear hK K
        refine norm_ (a' := ?_) ?_ ?_
        rotate_left
        ·show Act.put _ (some 25) _ = _
         simp only [Act.put, List.setIfInBounds_toArray, List.set_cons_zero, List.set_cons_succ, i64_w, i32_w]
         rfl
        refine pureA (i := 9) (N := some 26) #[true, true, true, true, true, true, true, true, true, true] ?_
        refine done_ (done_of HT_.out dq16) ?_
        try go_wp2
        go_roundg k1
        case measure => have := HK1.out; omega
        case rel => exact ⟨(wrap64 (x5_1 + 1)), dq14, H', ⟨dq22⟩, ⟨dq18⟩⟩
       ·replace c8 := Bool.eq_false_iff.mpr c8
        subst c8
        have H1 : (some false) = some r := by rw [if_neg (show ¬ (false = true) by decide)] at H; exact H
        clear H
        have H := H1
        clear H1
        obtain rfl := Option.some.inj H
        try go_wp2
        have n0_ := Aside0.mk (below_drew1 HB.out)
        clear HB
        have HB := n0_
        clear n0_
        have p370 : 0 ≤ (x5_1 : Int) := of_decide_eq_true dq21
        have q370 : x5_1 < (l0.length : Int) := of_decide_eq_true dq21
        obtain ⟨ad370, A370_2, c370_2, e370, hx370_0, hx370_1, hx370_2, hx370_3, hx370_4, hx370_5, hx370_6, hl370_2, hi370_2⟩ := at_T93 HR0.out x5_1 p370 q370
        have hw370_6 := hx370_6
        have hw370_5 := hx370_5
        have hw370_4 := hx370_4
        have hw370_3 := hx370_3
        have hw370_2 := hx370_2
        have hw370_1 := hx370_1
        have hw370_0 := hx370_0
        cases e370
        replace hx370_0 := (HB.out.cell (World.block_lt_of_cell? w _ hx370_0)).trans hx370_0
        replace hx370_1 := (HB.out.cell (World.block_lt_of_cell? w _ hx370_1)).trans hx370_1
        replace hx370_2 := (HB.out.cell (World.block_lt_of_cell? w _ hx370_2)).trans hx370_2
        replace hx370_3 := (HB.out.cell (World.block_lt_of_cell? w _ hx370_3)).trans hx370_3
        replace hx370_4 := (HB.out.cell (World.block_lt_of_cell? w _ hx370_4)).trans hx370_4
        replace hx370_5 := (HB.out.cell (World.block_lt_of_cell? w _ hx370_5)).trans hx370_5
        replace hx370_6 := (HB.out.cell (World.block_lt_of_cell? w _ hx370_6)).trans hx370_6
        have HR370_2 := Aside0.mk hi370_2
        have HC370_2 := Aside0.mk hl370_2
        clear hi370_2 hl370_2
        replace p370 := eq_true p370
        replace q370 := eq_true q370
        have p371 : 0 ≤ (x5_1 : Int) := of_decide_eq_true dq21
        have q371 : x5_1 < (l1.length : Int) := of_decide_eq_true dq21
        obtain ⟨ad371, A371_2, c371_2, e371, hx371_0, hx371_1, hx371_2, hx371_3, hx371_4, hx371_5, hx371_6, hl371_2, hi371_2⟩ := at_T93 HR1.out x5_1 p371 q371
        have hw371_6 := hx371_6
        have hw371_5 := hx371_5
        have hw371_4 := hx371_4
        have hw371_3 := hx371_3
        have hw371_2 := hx371_2
        have hw371_1 := hx371_1
        have hw371_0 := hx371_0
        cases e371
        replace hx371_0 := (HB.out.cell (World.block_lt_of_cell? w _ hx371_0)).trans hx371_0
        replace hx371_1 := (HB.out.cell (World.block_lt_of_cell? w _ hx371_1)).trans hx371_1
        replace hx371_2 := (HB.out.cell (World.block_lt_of_cell? w _ hx371_2)).trans hx371_2
        replace hx371_3 := (HB.out.cell (World.block_lt_of_cell? w _ hx371_3)).trans hx371_3
        replace hx371_4 := (HB.out.cell (World.block_lt_of_cell? w _ hx371_4)).trans hx371_4
        replace hx371_5 := (HB.out.cell (World.block_lt_of_cell? w _ hx371_5)).trans hx371_5
        replace hx371_6 := (HB.out.cell (World.block_lt_of_cell? w _ hx371_6)).trans hx371_6
        have HR371_2 := Aside0.mk hi371_2
        have HC371_2 := Aside0.mk hl371_2
        clear hi371_2 hl371_2
        replace p371 := eq_true p371
        replace q371 := eq_true q371
        refine start_ (n := 10) (S := fun w' => w'.cell? (ad370.add ((x5_1).toNat * 7)) = some (.int .i64 ((rd_T93 l0 x5_1).f0)) ∧ w'.cell? ⟨(ad370.add ((x5_1).toNat * 7)).block, (ad370.add ((x5_1).toNat * 7)).off + 1, none⟩ = some (.bool ((rd_T93 l0 x5_1).f1)) ∧ w'.cell? ⟨(ad370.add ((x5_1).toNat * 7)).block, (ad370.add ((x5_1).toNat * 7)).off + 2, none⟩ = some (.slice A370_2 ((rd_T93 l0 x5_1).f2).length c370_2) ∧ w'.cell? ⟨(ad370.add ((x5_1).toNat * 7)).block, (ad370.add ((x5_1).toNat * 7)).off + 3, none⟩ = some (.int .i64 ((rd_T93 l0 x5_1).f3)) ∧ w'.cell? ⟨(ad370.add ((x5_1).toNat * 7)).block, (ad370.add ((x5_1).toNat * 7)).off + 4, none⟩ = some (.int .i64 ((rd_T93 l0 x5_1).f4)) ∧ w'.cell? ⟨(ad370.add ((x5_1).toNat * 7)).block, (ad370.add ((x5_1).toNat * 7)).off + 5, none⟩ = some (.int .i64 ((rd_T93 l0 x5_1).f5)) ∧ w'.cell? ⟨(ad370.add ((x5_1).toNat * 7)).block, (ad370.add ((x5_1).toNat * 7)).off + 6, none⟩ = some (.int .i64 ((rd_T93 l0 x5_1).f6)) ∧ w'.cell? (ad371.add ((x5_1).toNat * 7)) = some (.int .i64 ((rd_T93 l1 x5_1).f0)) ∧ w'.cell? ⟨(ad371.add ((x5_1).toNat * 7)).block, (ad371.add ((x5_1).toNat * 7)).off + 1, none⟩ = some (.bool ((rd_T93 l1 x5_1).f1)) ∧ w'.cell? ⟨(ad371.add ((x5_1).toNat * 7)).block, (ad371.add ((x5_1).toNat * 7)).off + 2, none⟩ = some (.slice A371_2 ((rd_T93 l1 x5_1).f2).length c371_2) ∧ w'.cell? ⟨(ad371.add ((x5_1).toNat * 7)).block, (ad371.add ((x5_1).toNat * 7)).off + 3, none⟩ = some (.int .i64 ((rd_T93 l1 x5_1).f3)) ∧ w'.cell? ⟨(ad371.add ((x5_1).toNat * 7)).block, (ad371.add ((x5_1).toNat * 7)).off + 4, none⟩ = some (.int .i64 ((rd_T93 l1 x5_1).f4)) ∧ w'.cell? ⟨(ad371.add ((x5_1).toNat * 7)).block, (ad371.add ((x5_1).toNat * 7)).off + 5, none⟩ = some (.int .i64 ((rd_T93 l1 x5_1).f5)) ∧ w'.cell? ⟨(ad371.add ((x5_1).toNat * 7)).block, (ad371.add ((x5_1).toNat * 7)).off + 6, none⟩ = some (.int .i64 ((rd_T93 l1 x5_1).f6))) (ds := []) #[false, false, false, false, false, false, false, false, false, false] dq16 rfl rfl ⟨((HB.out.cell (World.block_lt_of_cell? w _ hw370_0)).trans hw370_0), ((HB.out.cell (World.block_lt_of_cell? w _ hw370_1)).trans hw370_1), ((HB.out.cell (World.block_lt_of_cell? w _ hw370_2)).trans hw370_2), ((HB.out.cell (World.block_lt_of_cell? w _ hw370_3)).trans hw370_3), ((HB.out.cell (World.block_lt_of_cell? w _ hw370_4)).trans hw370_4), ((HB.out.cell (World.block_lt_of_cell? w _ hw370_5)).trans hw370_5), ((HB.out.cell (World.block_lt_of_cell? w _ hw370_6)).trans hw370_6), ((HB.out.cell (World.block_lt_of_cell? w _ hw371_0)).trans hw371_0), ((HB.out.cell (World.block_lt_of_cell? w _ hw371_1)).trans hw371_1), ((HB.out.cell (World.block_lt_of_cell? w _ hw371_2)).trans hw371_2), ((HB.out.cell (World.block_lt_of_cell? w _ hw371_3)).trans hw371_3), ((HB.out.cell (World.block_lt_of_cell? w _ hw371_4)).trans hw371_4), ((HB.out.cell (World.block_lt_of_cell? w _ hw371_5)).trans hw371_5), ((HB.out.cell (World.block_lt_of_cell? w _ hw371_6)).trans hw371_6)⟩ (fun hHeld => ?_); refine with_tabW laws_eqRNodeS.tab6 laws_eqRNodeS.bits6 (fun HT_ HW_ => ?_)
        generalize wr.drew = w11 at HB HR370_2 HR371_2 hx370_0 hx370_1 hx370_2 hx370_3 hx370_4 hx370_5 hx370_6 hx371_0 hx371_1 hx371_2 hx371_3 hx371_4 hx371_5 hx371_6 hHeld ⊢
        refine pureA (i := 0) (N := some 17) #[true, false, false, false, false, false, false, false, false, false] ?_
        refine pureA (i := 1) (N := some 18) #[true, true, false, false, false, false, false, false, false, false] ?_
        refine pureA (i := 2) (N := some 19) #[true, true, true, false, false, false, false, false, false, false] ?_
        refine pureA (i := 4) (N := some 21) #[true, true, true, false, true, false, false, false, false, false] ?_
        refine pureA (i := 5) (N := some 22) #[true, true, true, false, true, true, false, false, false, false] ?_
        refine pureA (i := 6) (N := some 23) #[true, true, true, false, true, true, true, false, false, false] ?_
        refine takeA14 (i := 3) (N := some 20) #[true, true, true, true, true, true, true, false, false, false] ?_
        refine takeA14 (i := 7) (N := some 24) #[true, true, true, true, true, true, true, true, false, false] ?_
        refine one_ (i := 8) (N := some 25) #[true, true, true, true, true, true, true, true, true, false] rfl rfl (one_of HT_.out dq16) dq28 (fun K hK => ?_)
        refine goes_ Tryd.func78 dq16 rfl #[.agg #[.int .i64 ((rd_T93 l0 x5_1).f0), .bool ((rd_T93 l0 x5_1).f1), .slice A370_2 ((rd_T93 l0 x5_1).f2).length c370_2, .int .i64 ((rd_T93 l0 x5_1).f3), .int .i64 ((rd_T93 l0 x5_1).f4), .int .i64 ((rd_T93 l0 x5_1).f5), .int .i64 ((rd_T93 l0 x5_1).f6)], .agg #[.int .i64 ((rd_T93 l1 x5_1).f0), .bool ((rd_T93 l1 x5_1).f1), .slice A371_2 ((rd_T93 l1 x5_1).f2).length c371_2, .int .i64 ((rd_T93 l1 x5_1).f3), .int .i64 ((rd_T93 l1 x5_1).f4), .int .i64 ((rd_T93 l1 x5_1).f5), .int .i64 ((rd_T93 l1 x5_1).f6)]] dq29 rfl rfl dq15 ?_
        with_reducible refine (laws_eqRNode.calls k1 ((rd_T93 l0 x5_1).f0) ((rd_T93 l0 x5_1).f1) _ _ ((rd_T93 l0 x5_1).f2) ((rd_T93 l0 x5_1).f3) ((rd_T93 l0 x5_1).f4) ((rd_T93 l0 x5_1).f5) ((rd_T93 l0 x5_1).f6) ((rd_T93 l1 x5_1).f0) ((rd_T93 l1 x5_1).f1) _ _ ((rd_T93 l1 x5_1).f2) ((rd_T93 l1 x5_1).f3) ((rd_T93 l1 x5_1).f4) ((rd_T93 l1 x5_1).f5) ((rd_T93 l1 x5_1).f6) false _ ?side1 ?side2 ?side3 ?side4 A7.out).mono ?_
        (case side1 => repeat (first | exact (Kd.C_below HR370_2.out HB.out) | (with_reducible refine Kd.C_alloc ?_ _) | (with_reducible refine Kd.C_drewN ?_ _) | (with_reducible refine Kd.C_drew ?_)))
        (case side2 => exact HC370_2.out)
        (case side3 => repeat (first | exact (Kd.C_below HR371_2.out HB.out) | (with_reducible refine Kd.C_alloc ?_ _) | (with_reducible refine Kd.C_drewN ?_ _) | (with_reducible refine Kd.C_drew ?_)))
        (case side4 => exact HC371_2.out)
        rintro e w12 ⟨rfl, hb⟩
        refine ⟨_, rfl, ?_⟩
        have n0_ := Aside0.mk (below_step dq18 hb)
        clear HB
        have HB := n0_
        clear n0_
        (try clear hb)
        (try clear hb2)
        (try clear hk)
        (try clear hi)
        refine hK.out _ _ ⟨((HB.out.cell (World.block_lt_of_cell? w _ hw370_0)).trans hw370_0), ((HB.out.cell (World.block_lt_of_cell? w _ hw370_1)).trans hw370_1), ((HB.out.cell (World.block_lt_of_cell? w _ hw370_2)).trans hw370_2), ((HB.out.cell (World.block_lt_of_cell? w _ hw370_3)).trans hw370_3), ((HB.out.cell (World.block_lt_of_cell? w _ hw370_4)).trans hw370_4), ((HB.out.cell (World.block_lt_of_cell? w _ hw370_5)).trans hw370_5), ((HB.out.cell (World.block_lt_of_cell? w _ hw370_6)).trans hw370_6), ((HB.out.cell (World.block_lt_of_cell? w _ hw371_0)).trans hw371_0), ((HB.out.cell (World.block_lt_of_cell? w _ hw371_1)).trans hw371_1), ((HB.out.cell (World.block_lt_of_cell? w _ hw371_2)).trans hw371_2), ((HB.out.cell (World.block_lt_of_cell? w _ hw371_3)).trans hw371_3), ((HB.out.cell (World.block_lt_of_cell? w _ hw371_4)).trans hw371_4), ((HB.out.cell (World.block_lt_of_cell? w _ hw371_5)).trans hw371_5), ((HB.out.cell (World.block_lt_of_cell? w _ hw371_6)).trans hw371_6)⟩ (fun hHeld => ?_)
        clear hK K
        refine norm_ (a' := ?_) ?_ ?_
        rotate_left
        ·show Act.put _ (some 25) _ = _
         simp only [Act.put, List.setIfInBounds_toArray, List.set_cons_zero, List.set_cons_succ, i64_w, i32_w]
         rfl
        refine pureA (i := 9) (N := some 26) #[true, true, true, true, true, true, true, true, true, true] ?_
        refine done_ (done_of HT_.out dq16) ?_
        try go_wp2
        go_ret
        exact ⟨dq20, dq18⟩
      ·rw [if_neg c6] at H
       exact absurd H dq23
     ·rw [if_neg c5] at H
      exact absurd H dq23
    ·rw [if_neg c4] at H
     have c4b0 := decide_eq_false c4
     clear c4
     obtain rfl := Option.some.inj H
     go_wp2
     go_ret
     exact ⟨dq20, dq18⟩
 ·rw [if_neg c3] at H
  have c3b0 := beq_eq_false_iff_ne.mpr c3
  have c3b1 := bne_iff_ne.mpr c3
  have c3b2 : (l0.length == l1.length) = false := by first | simpa using c3 | (simp at c3 ⊢; omega)
  obtain rfl := Option.some.inj H
  go_enter Tryd.func36, Tryd.ntmps36
  go_wp2
  go_ret
  exact ⟨dq20, dq18⟩

/-! ### laws_FnExactMatches: function 8 -/
def laws_FnExactMatches.f (k : Nat) (l0 : List (S88)) (a1 : ByteArray) : Option (Bool) := if (a1.size : Int) > 1048576 then (some true) else ((laws_szRNodeS.f k l0 1048576).bind fun t373 => (if t373 < 0 then (some true) else ((laws_toRNodeS.f k l0).bind fun t374 => ((spec_Matches.f k t374 a1).bind fun t377 => ((laws_toRNodeS.f k l0).bind fun t378 => ((impl_Matches.f k t378 a1).bind fun t381 => (if (t381 != t377) = true then (some false) else ((laws_toRNodeS.f k l0).bind fun t382 => ((laws_eqRNodeS.f k t378 t382).bind fun t385 => (if t385 = true then (some true) else (some false)))))))))))
set_option maxHeartbeats 8000000 in
set_option maxRecDepth 100000 in
theorem laws_FnExactMatches.calls (k : Nat) (A0 : Option Addr) (c0 : Nat) (l0 : List (S88)) (a1 : ByteArray) (r : Bool) (w : World) (hT : Gl w) (hr0 : Kd.C k88 w A0 l0.length l0) (hc0 : l0.length ≤ c0) (h : laws_FnExactMatches.f k l0 a1 = some r) :
  Calls Tryd.prog 8 #[.slice A0 l0.length c0, .string a1] w fun e w' => e = .returned (.bool r) ∧ Below w.heap.size w w' := by
 have HR0 := Aside0.mk hr0
 have HC0 := Aside0.mk hc0
 clear hr0 hc0
 have HT := Aside0.mk hT
 clear hT
 have HB := Aside0.mk (Below.refl w.heap.size w)
 have H : (if (a1.size : Int) > 1048576 then (some true) else ((laws_szRNodeS.f k l0 1048576).bind fun t373 => (if t373 < 0 then (some true) else ((laws_toRNodeS.f k l0).bind fun t374 => ((spec_Matches.f k t374 a1).bind fun t377 => ((laws_toRNodeS.f k l0).bind fun t378 => ((impl_Matches.f k t378 a1).bind fun t381 => (if (t381 != t377) = true then (some false) else ((laws_toRNodeS.f k l0).bind fun t382 => ((laws_eqRNodeS.f k t378 t382).bind fun t385 => (if t385 = true then (some true) else (some false)))))))))))) = some r := h
 clear h
 by_cases c3 : (a1.size : Int) > 1048576
 ·rw [if_pos c3] at H
  have c3b0 : decide (1048576 < (a1.size : Int)) = true := decide_eq_true c3
  have c3b1 : decide (1048576 < a1.size) = true := decide_eq_true dq24
  clear c3
  obtain rfl := Option.some.inj H
  go_enter Tryd.func8, Tryd.ntmps8
  go_wp2
  go_ret
  exact ⟨dq20, dq18⟩
 ·rw [if_neg c3] at H
  have c3b0 : decide (1048576 < (a1.size : Int)) = false := decide_eq_false c3
  have c3b1 : decide (1048576 < a1.size) = false := decide_eq_false dq24
  clear c3
  replace H := Option.bind_eq_some_iff.mp H
  obtain ⟨t373, A40, H⟩ := H
  replace H : (if t373 < 0 then (some true) else ((laws_toRNodeS.f k l0).bind fun t374 => ((spec_Matches.f k t374 a1).bind fun t377 => ((laws_toRNodeS.f k l0).bind fun t378 => ((impl_Matches.f k t378 a1).bind fun t381 => (if (t381 != t377) = true then (some false) else ((laws_toRNodeS.f k l0).bind fun t382 => ((laws_eqRNodeS.f k t378 t382).bind fun t385 => (if t385 = true then (some true) else (some false)))))))))) = some r := H
  have A4 := Aside0.mk A40
  clear A40
  by_cases c5 : t373 < 0
  ·rw [if_pos c5] at H
   have c5b0 := decide_eq_true c5
   clear c5
   obtain rfl := Option.some.inj H
   go_enter Tryd.func8, Tryd.ntmps8
   go_wp2_with (first | ((with_reducible refine gate_callee (f := 32) rfl ?_); refine goesL_ (some 14) rfl rfl Tryd.func32 dq16 rfl #[.slice A0 l0.length c0, .int .i64 1048576] rfl dq15 ?_; (with_reducible refine (laws_szRNodeS.calls k _ _ l0 1048576 t373 _ ?side1 ?side2 A4.out).mono ?_); (case side1 => exact dq2); (case side2 => exact dq3); rintro e w6 ⟨rfl, hb⟩; refine ⟨_, rfl, ?_⟩; have n0_ := Aside0.mk (below_step dq18 hb); clear HB; have HB := n0_; clear n0_; (try clear hb); (try clear hb2); (try clear hk); (try clear hi)))
   go_ret
   exact ⟨dq20, dq18⟩
  ·rw [if_neg c5] at H
   have c5b0 := decide_eq_false c5
   clear c5
   replace H := Option.bind_eq_some_iff.mp H
   obtain ⟨t374, A70, H⟩ := H
   replace H : ((spec_Matches.f k t374 a1).bind fun t377 => ((laws_toRNodeS.f k l0).bind fun t378 => ((impl_Matches.f k t378 a1).bind fun t381 => (if (t381 != t377) = true then (some false) else ((laws_toRNodeS.f k l0).bind fun t382 => ((laws_eqRNodeS.f k t378 t382).bind fun t385 => (if t385 = true then (some true) else (some false)))))))) = some r := H
   have A7 := Aside0.mk A70
   clear A70
   replace H := Option.bind_eq_some_iff.mp H
   obtain ⟨t377, A80, H⟩ := H
   replace H : ((laws_toRNodeS.f k l0).bind fun t378 => ((impl_Matches.f k t378 a1).bind fun t381 => (if (t381 != t377) = true then (some false) else ((laws_toRNodeS.f k l0).bind fun t382 => ((laws_eqRNodeS.f k t378 t382).bind fun t385 => (if t385 = true then (some true) else (some false))))))) = some r := H
   have A8 := Aside0.mk A80
   clear A80
   replace H := Option.bind_eq_some_iff.mp H
   obtain ⟨t378, A90, H⟩ := H
   replace H : ((impl_Matches.f k t378 a1).bind fun t381 => (if (t381 != t377) = true then (some false) else ((laws_toRNodeS.f k l0).bind fun t382 => ((laws_eqRNodeS.f k t378 t382).bind fun t385 => (if t385 = true then (some true) else (some false)))))) = some r := H
   have A9 := Aside0.mk A90
   clear A90
   replace H := Option.bind_eq_some_iff.mp H
   obtain ⟨t381, A100, H⟩ := H
   replace H : (if (t381 != t377) = true then (some false) else ((laws_toRNodeS.f k l0).bind fun t382 => ((laws_eqRNodeS.f k t378 t382).bind fun t385 => (if t385 = true then (some true) else (some false))))) = some r := H
   have A10 := Aside0.mk A100
   clear A100
   by_cases c11 : (t381 != t377) = true
   ·rw [if_pos c11] at H
    have c11b0 : (t381 != t377) = true := c11
    (try (have c11b1 : decide (t381 = t377) = false := by simpa using c11))
    (try (have c11b2 : (t381 == t377) = false := by simpa using c11))
    (try (have c11b3 : ¬ (t381 = t377) := by simpa using c11))
    clear c11
    obtain rfl := Option.some.inj H
    go_enter Tryd.func8, Tryd.ntmps8
    go_wp2_with (first | ((with_reducible refine gate_callee (f := 32) rfl ?_); refine goesL_ (some 14) rfl rfl Tryd.func32 dq16 rfl #[.slice A0 l0.length c0, .int .i64 1048576] rfl dq15 ?_; (with_reducible refine (laws_szRNodeS.calls k _ _ l0 1048576 t373 _ ?side1 ?side2 A4.out).mono ?_); (case side1 => exact dq2); (case side2 => exact dq3); rintro e w12 ⟨rfl, hb⟩; refine ⟨_, rfl, ?_⟩; have n0_ := Aside0.mk (below_step dq18 hb); clear HB; have HB := n0_; clear n0_; (try clear hb); (try clear hb2); (try clear hk); (try clear hi)) | ((with_reducible refine gate_callee (f := 34) rfl ?_); refine goesL_ (some 18) rfl rfl Tryd.func34 dq16 rfl #[.slice A0 l0.length c0] rfl dq15 ?_; (with_reducible refine (laws_toRNodeS.calls k _ _ l0 t374 _ ?side1 ?side2 A7.out).mono ?_); (case side1 => exact dq4); (case side2 => exact dq3); rintro e w13 ⟨v375, rfl, ho0, hb⟩; refine ⟨_, rfl, ?_⟩; have n0_ := Aside0.mk (Kd.S_lower ho0 (below_size dq18)); have n1_ := Aside0.mk (below_step dq18 hb); clear HB; have HO376 := n0_; have HB := n1_; clear n0_ n1_; (try clear hb); (try clear hb2); (try clear hk); (try clear hi); (try clear ho0); obtain ⟨Ao14, co14, eo14⟩ := Kd.S_slice HO376.out; subst eo14) | ((with_reducible refine gate_callee (f := 33) rfl ?_); refine goesL_ (some 20) rfl rfl Tryd.func33 dq16 rfl #[.slice Ao14 t374.length co14, .string a1] rfl dq15 ?_; (with_reducible refine (spec_Matches.calls k _ _ t374 a1 t377 _ ?side1 ?side2 A8.out).mono ?_); (case side1 => exact dq11); (case side2 => exact (Kd.S_reads' HO376.out).2.1); rintro e w15 ⟨rfl, hb⟩; refine ⟨_, rfl, ?_⟩; have n0_ := Aside0.mk (Kd.S_below dq124 hb); have n1_ := Aside0.mk (below_step dq18 hb); clear HO376; clear HB; have HO376 := n0_; have HB := n1_; clear n0_ n1_; (try clear hb); (try clear hb2); (try clear hk); (try clear hi)) | ((with_reducible refine gate_callee (f := 34) rfl ?_); refine goesL_ (some 22) rfl rfl Tryd.func34 dq16 rfl #[.slice A0 l0.length c0] rfl dq15 ?_; (with_reducible refine (laws_toRNodeS.calls k _ _ l0 t378 _ ?side1 ?side2 A9.out).mono ?_); (case side1 => exact dq4); (case side2 => exact dq3); rintro e w16 ⟨v379, rfl, ho0, hb⟩; refine ⟨_, rfl, ?_⟩; have n0_ := Aside0.mk (Kd.S_elder' dq124 (Kd.S_base ho0) hb); have n1_ := Aside0.mk (Kd.S_lower (Kd.S_new' ho0 (Kd.S_lt dq124)) (below_size dq18)); have n2_ := Aside0.mk (below_step dq18 hb); clear HO376; clear HB; have HO376 := n0_; have HO380 := n1_; have HB := n2_; clear n0_ n1_ n2_; (try clear hb); (try clear hb2); (try clear hk); (try clear hi); (try clear ho0); obtain ⟨Ao17, co17, eo17⟩ := Kd.S_slice HO380.out; subst eo17) | ((with_reducible refine gate_callee (f := 35) rfl ?_); refine goesL_ (some 25) rfl rfl Tryd.func35 dq16 rfl #[.slice Ao17 t378.length co17, .string a1] rfl dq15 ?_; (with_reducible refine (impl_Matches.calls k _ _ t378 a1 t381 _ ?side3 ?side1 ?side2 A10.out).mono ?_); (case side1 => exact dq12); (case side2 => exact (Kd.S_reads' HO380.out).2.1); (case side3 => exact dq9); rintro e w18 ⟨rfl, hb⟩; refine ⟨_, rfl, ?_⟩; have n0_ := Aside0.mk (Kd.S_below dq124 hb); have n1_ := Aside0.mk (Kd.S_below dq123 hb); have n2_ := Aside0.mk (below_step dq18 hb); clear HO376; clear HO380; clear HB; have HO376 := n0_; have HO380 := n1_; have HB := n2_; clear n0_ n1_ n2_; (try clear hb); (try clear hb2); (try clear hk); (try clear hi)))
    go_ret
    exact ⟨dq20, dq18⟩
   ·rw [if_neg c11] at H
    have c11b0 : (t381 != t377) = false := by simpa using c11
    (try (have c11b1 : decide (t381 = t377) = true := by simpa using c11))
    (try (have c11b2 : (t381 == t377) = true := by simpa using c11))
    clear c11
    replace H := Option.bind_eq_some_iff.mp H
    obtain ⟨t382, A190, H⟩ := H
    replace H : ((laws_eqRNodeS.f k t378 t382).bind fun t385 => (if t385 = true then (some true) else (some false))) = some r := H
    have A19 := Aside0.mk A190
    clear A190
    replace H := Option.bind_eq_some_iff.mp H
    obtain ⟨t385, A200, H⟩ := H
    replace H : (if t385 = true then (some true) else (some false)) = some r := H
    have A20 := Aside0.mk A200
    clear A200
    by_cases c21 : t385 = true
    ·subst c21
     have H1 : (some true) = some r := by rw [if_pos rfl] at H; exact H
     clear H
     have H := H1
     clear H1
     obtain rfl := Option.some.inj H
     go_enter Tryd.func8, Tryd.ntmps8
     go_wp2_with (first | ((with_reducible refine gate_callee (f := 32) rfl ?_); refine goesL_ (some 14) rfl rfl Tryd.func32 dq16 rfl #[.slice A0 l0.length c0, .int .i64 1048576] rfl dq15 ?_; (with_reducible refine (laws_szRNodeS.calls k _ _ l0 1048576 t373 _ ?side1 ?side2 A4.out).mono ?_); (case side1 => exact dq2); (case side2 => exact dq3); rintro e w22 ⟨rfl, hb⟩; refine ⟨_, rfl, ?_⟩; have n0_ := Aside0.mk (below_step dq18 hb); clear HB; have HB := n0_; clear n0_; (try clear hb); (try clear hb2); (try clear hk); (try clear hi)) | ((with_reducible refine gate_callee (f := 34) rfl ?_); refine goesL_ (some 18) rfl rfl Tryd.func34 dq16 rfl #[.slice A0 l0.length c0] rfl dq15 ?_; (with_reducible refine (laws_toRNodeS.calls k _ _ l0 t374 _ ?side1 ?side2 A7.out).mono ?_); (case side1 => exact dq4); (case side2 => exact dq3); rintro e w23 ⟨v375, rfl, ho0, hb⟩; refine ⟨_, rfl, ?_⟩; have n0_ := Aside0.mk (Kd.S_lower ho0 (below_size dq18)); have n1_ := Aside0.mk (below_step dq18 hb); clear HB; have HO376 := n0_; have HB := n1_; clear n0_ n1_; (try clear hb); (try clear hb2); (try clear hk); (try clear hi); (try clear ho0); obtain ⟨Ao24, co24, eo24⟩ := Kd.S_slice HO376.out; subst eo24) | ((with_reducible refine gate_callee (f := 33) rfl ?_); refine goesL_ (some 20) rfl rfl Tryd.func33 dq16 rfl #[.slice Ao24 t374.length co24, .string a1] rfl dq15 ?_; (with_reducible refine (spec_Matches.calls k _ _ t374 a1 t377 _ ?side1 ?side2 A8.out).mono ?_); (case side1 => exact dq11); (case side2 => exact (Kd.S_reads' HO376.out).2.1); rintro e w25 ⟨rfl, hb⟩; refine ⟨_, rfl, ?_⟩; have n0_ := Aside0.mk (Kd.S_below dq124 hb); have n1_ := Aside0.mk (below_step dq18 hb); clear HO376; clear HB; have HO376 := n0_; have HB := n1_; clear n0_ n1_; (try clear hb); (try clear hb2); (try clear hk); (try clear hi)) | ((with_reducible refine gate_callee (f := 34) rfl ?_); refine goesL_ (some 22) rfl rfl Tryd.func34 dq16 rfl #[.slice A0 l0.length c0] rfl dq15 ?_; (with_reducible refine (laws_toRNodeS.calls k _ _ l0 t378 _ ?side1 ?side2 A9.out).mono ?_); (case side1 => exact dq4); (case side2 => exact dq3); rintro e w26 ⟨v379, rfl, ho0, hb⟩; refine ⟨_, rfl, ?_⟩; have n0_ := Aside0.mk (Kd.S_elder' dq124 (Kd.S_base ho0) hb); have n1_ := Aside0.mk (Kd.S_lower (Kd.S_new' ho0 (Kd.S_lt dq124)) (below_size dq18)); have n2_ := Aside0.mk (below_step dq18 hb); clear HO376; clear HB; have HO376 := n0_; have HO380 := n1_; have HB := n2_; clear n0_ n1_ n2_; (try clear hb); (try clear hb2); (try clear hk); (try clear hi); (try clear ho0); obtain ⟨Ao27, co27, eo27⟩ := Kd.S_slice HO380.out; subst eo27) | ((with_reducible refine gate_callee (f := 35) rfl ?_); refine goesL_ (some 25) rfl rfl Tryd.func35 dq16 rfl #[.slice Ao27 t378.length co27, .string a1] rfl dq15 ?_; (with_reducible refine (impl_Matches.calls k _ _ t378 a1 t381 _ ?side3 ?side1 ?side2 A10.out).mono ?_); (case side1 => exact dq12); (case side2 => exact (Kd.S_reads' HO380.out).2.1); (case side3 => exact dq9); rintro e w28 ⟨rfl, hb⟩; refine ⟨_, rfl, ?_⟩; have n0_ := Aside0.mk (Kd.S_below dq124 hb); have n1_ := Aside0.mk (Kd.S_below dq123 hb); have n2_ := Aside0.mk (below_step dq18 hb); clear HO376; clear HO380; clear HB; have HO376 := n0_; have HO380 := n1_; have HB := n2_; clear n0_ n1_ n2_; (try clear hb); (try clear hb2); (try clear hk); (try clear hi)) | ((with_reducible refine gate_callee (f := 34) rfl ?_); refine goesL_ (some 31) rfl rfl Tryd.func34 dq16 rfl #[.slice A0 l0.length c0] rfl dq15 ?_; (with_reducible refine (laws_toRNodeS.calls k _ _ l0 t382 _ ?side1 ?side2 A19.out).mono ?_); (case side1 => exact dq4); (case side2 => exact dq3); rintro e w29 ⟨v383, rfl, ho0, hb⟩; refine ⟨_, rfl, ?_⟩; have n0_ := Aside0.mk (Kd.S_elder' dq124 (Kd.S_base ho0) hb); have n1_ := Aside0.mk (Kd.S_elder' dq123 (Kd.S_base ho0) hb); have n2_ := Aside0.mk (Kd.S_lower (Kd.S_new' (Kd.S_new' ho0 (Kd.S_lt dq124)) (Kd.S_lt dq123)) (below_size dq18)); have n3_ := Aside0.mk (below_step dq18 hb); clear HO376; clear HO380; clear HB; have HO376 := n0_; have HO380 := n1_; have HO384 := n2_; have HB := n3_; clear n0_ n1_ n2_ n3_; (try clear hb); (try clear hb2); (try clear hk); (try clear hi); (try clear ho0); obtain ⟨Ao30, co30, eo30⟩ := Kd.S_slice HO384.out; subst eo30) | ((with_reducible refine gate_callee (f := 36) rfl ?_); refine goesL_ (some 32) rfl rfl Tryd.func36 dq16 rfl #[.slice Ao27 t378.length co27, .slice Ao30 t382.length co30] rfl dq15 ?_; (with_reducible refine (laws_eqRNodeS.calls k _ _ t378 _ _ t382 true _ ?side1 ?side2 ?side3 ?side4 A20.out).mono ?_); (case side1 => exact dq12); (case side2 => exact (Kd.S_reads' HO380.out).2.1); (case side3 => repeat (first | exact (Kd.S_reads' HO384.out).2.2 | (with_reducible refine Kd.C_alloc ?_ _) | (with_reducible refine Kd.C_drewN ?_ _) | (with_reducible refine Kd.C_drew ?_))); (case side4 => exact (Kd.S_reads' HO384.out).2.1); rintro e w31 ⟨rfl, hb⟩; refine ⟨_, rfl, ?_⟩; have n0_ := Aside0.mk (Kd.S_below dq124 hb); have n1_ := Aside0.mk (Kd.S_below dq123 hb); have n2_ := Aside0.mk (Kd.S_below (by (with_reducible repeat (first | apply Kd.S_alloc | apply Kd.S_drewN | apply Kd.S_drew)); exact HO384.out) hb); have n3_ := Aside0.mk (below_step dq18 hb); clear HO376; clear HO380; clear HO384; clear HB; have HO376 := n0_; have HO380 := n1_; have HO384 := n2_; have HB := n3_; clear n0_ n1_ n2_ n3_; (try clear hb); (try clear hb2); (try clear hk); (try clear hi)))
     go_ret
     exact ⟨dq20, dq18⟩
    ·replace c21 := Bool.eq_false_iff.mpr c21
     subst c21
     have H1 : (some false) = some r := by rw [if_neg (show ¬ (false = true) by decide)] at H; exact H
     clear H
     have H := H1
     clear H1
     obtain rfl := Option.some.inj H
     go_enter Tryd.func8, Tryd.ntmps8
     go_wp2_with (first | ((with_reducible refine gate_callee (f := 32) rfl ?_); refine goesL_ (some 14) rfl rfl Tryd.func32 dq16 rfl #[.slice A0 l0.length c0, .int .i64 1048576] rfl dq15 ?_; (with_reducible refine (laws_szRNodeS.calls k _ _ l0 1048576 t373 _ ?side1 ?side2 A4.out).mono ?_); (case side1 => exact dq2); (case side2 => exact dq3); rintro e w32 ⟨rfl, hb⟩; refine ⟨_, rfl, ?_⟩; have n0_ := Aside0.mk (below_step dq18 hb); clear HB; have HB := n0_; clear n0_; (try clear hb); (try clear hb2); (try clear hk); (try clear hi)) | ((with_reducible refine gate_callee (f := 34) rfl ?_); refine goesL_ (some 18) rfl rfl Tryd.func34 dq16 rfl #[.slice A0 l0.length c0] rfl dq15 ?_; (with_reducible refine (laws_toRNodeS.calls k _ _ l0 t374 _ ?side1 ?side2 A7.out).mono ?_); (case side1 => exact dq4); (case side2 => exact dq3); rintro e w33 ⟨v375, rfl, ho0, hb⟩; refine ⟨_, rfl, ?_⟩; have n0_ := Aside0.mk (Kd.S_lower ho0 (below_size dq18)); have n1_ := Aside0.mk (below_step dq18 hb); clear HB; have HO376 := n0_; have HB := n1_; clear n0_ n1_; (try clear hb); (try clear hb2); (try clear hk); (try clear hi); (try clear ho0); obtain ⟨Ao34, co34, eo34⟩ := Kd.S_slice HO376.out; subst eo34) | ((with_reducible refine gate_callee (f := 33) rfl ?_); refine goesL_ (some 20) rfl rfl Tryd.func33 dq16 rfl #[.slice Ao34 t374.length co34, .string a1] rfl dq15 ?_; (with_reducible refine (spec_Matches.calls k _ _ t374 a1 t377 _ ?side1 ?side2 A8.out).mono ?_); (case side1 => exact dq11); (case side2 => exact (Kd.S_reads' HO376.out).2.1); rintro e w35 ⟨rfl, hb⟩; refine ⟨_, rfl, ?_⟩; have n0_ := Aside0.mk (Kd.S_below dq124 hb); have n1_ := Aside0.mk (below_step dq18 hb); clear HO376; clear HB; have HO376 := n0_; have HB := n1_; clear n0_ n1_; (try clear hb); (try clear hb2); (try clear hk); (try clear hi)) | ((with_reducible refine gate_callee (f := 34) rfl ?_); refine goesL_ (some 22) rfl rfl Tryd.func34 dq16 rfl #[.slice A0 l0.length c0] rfl dq15 ?_; (with_reducible refine (laws_toRNodeS.calls k _ _ l0 t378 _ ?side1 ?side2 A9.out).mono ?_); (case side1 => exact dq4); (case side2 => exact dq3); rintro e w36 ⟨v379, rfl, ho0, hb⟩; refine ⟨_, rfl, ?_⟩; have n0_ := Aside0.mk (Kd.S_elder' dq124 (Kd.S_base ho0) hb); have n1_ := Aside0.mk (Kd.S_lower (Kd.S_new' ho0 (Kd.S_lt dq124)) (below_size dq18)); have n2_ := Aside0.mk (below_step dq18 hb); clear HO376; clear HB; have HO376 := n0_; have HO380 := n1_; have HB := n2_; clear n0_ n1_ n2_; (try clear hb); (try clear hb2); (try clear hk); (try clear hi); (try clear ho0); obtain ⟨Ao37, co37, eo37⟩ := Kd.S_slice HO380.out; subst eo37) | ((with_reducible refine gate_callee (f := 35) rfl ?_); refine goesL_ (some 25) rfl rfl Tryd.func35 dq16 rfl #[.slice Ao37 t378.length co37, .string a1] rfl dq15 ?_; (with_reducible refine (impl_Matches.calls k _ _ t378 a1 t381 _ ?side3 ?side1 ?side2 A10.out).mono ?_); (case side1 => exact dq12); (case side2 => exact (Kd.S_reads' HO380.out).2.1); (case side3 => exact dq9); rintro e w38 ⟨rfl, hb⟩; refine ⟨_, rfl, ?_⟩; have n0_ := Aside0.mk (Kd.S_below dq124 hb); have n1_ := Aside0.mk (Kd.S_below dq123 hb); have n2_ := Aside0.mk (below_step dq18 hb); clear HO376; clear HO380; clear HB; have HO376 := n0_; have HO380 := n1_; have HB := n2_; clear n0_ n1_ n2_; (try clear hb); (try clear hb2); (try clear hk); (try clear hi)) | ((with_reducible refine gate_callee (f := 34) rfl ?_); refine goesL_ (some 31) rfl rfl Tryd.func34 dq16 rfl #[.slice A0 l0.length c0] rfl dq15 ?_; (with_reducible refine (laws_toRNodeS.calls k _ _ l0 t382 _ ?side1 ?side2 A19.out).mono ?_); (case side1 => exact dq4); (case side2 => exact dq3); rintro e w39 ⟨v383, rfl, ho0, hb⟩; refine ⟨_, rfl, ?_⟩; have n0_ := Aside0.mk (Kd.S_elder' dq124 (Kd.S_base ho0) hb); have n1_ := Aside0.mk (Kd.S_elder' dq123 (Kd.S_base ho0) hb); have n2_ := Aside0.mk (Kd.S_lower (Kd.S_new' (Kd.S_new' ho0 (Kd.S_lt dq124)) (Kd.S_lt dq123)) (below_size dq18)); have n3_ := Aside0.mk (below_step dq18 hb); clear HO376; clear HO380; clear HB; have HO376 := n0_; have HO380 := n1_; have HO384 := n2_; have HB := n3_; clear n0_ n1_ n2_ n3_; (try clear hb); (try clear hb2); (try clear hk); (try clear hi); (try clear ho0); obtain ⟨Ao40, co40, eo40⟩ := Kd.S_slice HO384.out; subst eo40) | ((with_reducible refine gate_callee (f := 36) rfl ?_); refine goesL_ (some 32) rfl rfl Tryd.func36 dq16 rfl #[.slice Ao37 t378.length co37, .slice Ao40 t382.length co40] rfl dq15 ?_; (with_reducible refine (laws_eqRNodeS.calls k _ _ t378 _ _ t382 false _ ?side1 ?side2 ?side3 ?side4 A20.out).mono ?_); (case side1 => exact dq12); (case side2 => exact (Kd.S_reads' HO380.out).2.1); (case side3 => repeat (first | exact (Kd.S_reads' HO384.out).2.2 | (with_reducible refine Kd.C_alloc ?_ _) | (with_reducible refine Kd.C_drewN ?_ _) | (with_reducible refine Kd.C_drew ?_))); (case side4 => exact (Kd.S_reads' HO384.out).2.1); rintro e w41 ⟨rfl, hb⟩; refine ⟨_, rfl, ?_⟩; have n0_ := Aside0.mk (Kd.S_below dq124 hb); have n1_ := Aside0.mk (Kd.S_below dq123 hb); have n2_ := Aside0.mk (Kd.S_below (by (with_reducible repeat (first | apply Kd.S_alloc | apply Kd.S_drewN | apply Kd.S_drew)); exact HO384.out) hb); have n3_ := Aside0.mk (below_step dq18 hb); clear HO376; clear HO380; clear HO384; clear HB; have HO376 := n0_; have HO380 := n1_; have HO384 := n2_; have HB := n3_; clear n0_ n1_ n2_ n3_; (try clear hb); (try clear hb2); (try clear hk); (try clear hi)))
     go_ret
     exact ⟨dq20, dq18⟩

end Go.Proofs.YtilmhfkbpnejeaaDoor.L

namespace Go.Proofs.YtilmhfkbpnejeaaDoor.Pure
open Go.RowKit Go.Proofs.YtilmhfkbpnejeaaDoor.L Go.Proofs.YtilmhfkbpnejeaaDoorW.PrintWords Go.Proofs.YtilmhfkbpnejeaaDoorW.PrintLast Go.Proofs.YtilmhfkbpnejeaaDoorW.PrintMore
set_option linter.unusedVariables false
set_option linter.unusedSimpArgs false

theorem ba_ext {a b : ByteArray} (h : a.data.toList = b.data.toList) : a = b := by
  cases a; cases b; simp only [ByteArray.mk.injEq]; exact Array.toList_inj.mp h
theorem sz (a : ByteArray) : a.size = a.data.toList.length := (data_length a).symm
theorem w64 {n : Int} (h : -9223372036854775808 ≤ n) (h' : n ≤ 9223372036854775807) : wrap64 n = n := by unfold wrap64; omega
theorem bt_nat (s : ByteArray) (i : Nat) (h : i < s.data.toList.length) : bt s (i : Int) = ((s.data.toList[i]).toNat : Int) := by
  have h' : i < s.size := by rw [sz]; exact h
  unfold bt
  rw [dif_pos (by simpa using h')]
  simp only [Int.toNat_natCast]
  rfl
end Go.Proofs.YtilmhfkbpnejeaaDoor.Pure
