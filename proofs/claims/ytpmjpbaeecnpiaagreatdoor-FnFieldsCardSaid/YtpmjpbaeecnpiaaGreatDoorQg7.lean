/- Words and contracts for the row RowFnFields: what the Go functions answer that it calls; printed by programs of the kit and of this session, and merged. -/
import Derived.Test.YtpmjpbaeecnpiaaGreatDoorQg6
import Derived.Shelf.Strings.Builder2
import Derived.Test.YtpmjpbaeecnpiaaGreatDoorProg
import Derived.Lib.Join
import Derived.Shelf.RegionOpenPlain
import Derived.Shelf.Strings.FieldsFuncAny
namespace Go.Proofs
open Go.Shelf
def Tryz.lays241_ren : Go.Shelf.Ren := ⟨fun | 241 => 155 | 277 => 173 | n => n, fun | 70 => 129 | 3 => 3 | 0 => 0 | 72 => 131 | 37 => 56 | 5 => 5 | n => n, fun | n => n⟩
theorem Tryz.lays241 : Go.Proofs.Lays.n241 Tryz.prog Tryz.lays241_ren := {
  mixed := by kernel_rfl
  f241 := Tryz.func155.trans (congrArg some (by kernel_rfl))
  f277 := Tryz.func173.trans (congrArg some (by kernel_rfl))
  t0 := Tryz.underlying0
  a0 := Tryz.isAgg0
  z0 := Tryz.sizeOf0
  v0 := Tryz.zeroValue0
  t3 := Tryz.underlying3
  a3 := Tryz.isAgg3
  z3 := Tryz.sizeOf3
  v3 := Tryz.zeroValue3
  t37 := Tryz.underlying56
  a37 := Tryz.isAgg56
  z37 := Tryz.sizeOf56
  v37 := Tryz.zeroValue56
  t70 := Tryz.underlying129
  a70 := Tryz.isAgg129
  z70 := Tryz.sizeOf129
  v70 := Tryz.zeroValue129
  t72 := Tryz.underlying131
  a72 := Tryz.isAgg131
  z72 := Tryz.sizeOf131
  v72 := Tryz.zeroValue131 }
theorem Tryz.Builder_Extra_241 : Builder.Extra Tryz.prog Tryz.lays241_ren := {
  sizeBuilder := by kernel_rfl
  liesBuilder := by kernel_rfl
  t5 := Tryz.underlying5
  a5 := Tryz.isAgg5
  z5 := Tryz.sizeOf5
  v5 := Tryz.zeroValue5
  infoByte := by kernel_rfl
  cellsByte := by kernel_rfl
  sizeByte := by kernel_rfl
  neB5 := by decide }
open Go.RowKit in
/-- (*strings.Builder).grow (no doc but "grow copies the buffer to a new, larger buffer so that there are at least n bytes of capacity beyond len(b.buf)."): AT A BUILDER WITHOUT A BUFFER: a new row of whatever bytes for its buffer, none of them its own yet. Three draws. (LAID: no walk: one application.) -/
theorem Tryz.Builder_grow_fresh (B b n : Nat) (w : World) (hB : B ≤ b) (hbk : w.heap[b]? = some (.cells #[.pointer (some ⟨b, 0, none⟩), .slice none 0 0] 131 (0, 0))) (hBw : B ≤ w.heap.size) (hn : n ≤ 281474976710656) :
    Calls Tryz.prog 155 #[.pointer (some ⟨b, 0, none⟩), .int .i64 n] w fun e w' => e = .returned (.tuple #[]) ∧ (Lib.BuilderAt 131 5 B b (.pointer (some ⟨b, 0, none⟩)) [] w' ∧ Below B w w') := Any.Builder_grow_fresh Tryz.lays241 Tryz.Builder_Extra_241 B b n w hB hbk hBw hn
end Go.Proofs

namespace Go.Proofs.YtpmjpbaeecnpiaaGreatDoor.L
open Go.RowKit Go.Proofs.YtpmjpbaeecnpiaaGreatDoorW.PrintWords Go.Proofs.YtpmjpbaeecnpiaaGreatDoorW.PrintLast Go.Proofs.YtpmjpbaeecnpiaaGreatDoorW.PrintMore
set_option linter.unusedVariables false
set_option linter.unusedSimpArgs false

theorem bld_ofF {T e B b : Nat} {bs : List Value} {w : World} {p : Value} (h : Lib.BuilderAt T e B b p bs w) : Lib.BuilderAtF T e B b p bs w := Lib.BuilderAtF.of h
set_option maxHeartbeats 2000000 in
set_option maxRecDepth 1000000 in
theorem bld_grow (B b n : Nat) (w : World) (hB : B ≤ b) (hbk : w.heap[b]? = some (.cells #[.pointer none, .slice none 0 0] 131 (0, 0))) (hBw : B ≤ w.heap.size) (hn : n ≤ 281474976710656) :
    Calls Tryz.prog 117 #[.pointer (some ⟨b, 0, none⟩), .int .i64 n] w fun e w' => e = .returned (.tuple #[]) ∧ Lib.IsBuilderF 131 5 B b [] w' ∧ Below B w w' := by
  have hbk1 : (w.setCell ⟨b, 0, none⟩ (.pointer (some ⟨b, 0, none⟩))).heap[b]? = some (.cells #[.pointer (some ⟨b, 0, none⟩), .slice none 0 0] 131 (0, 0)) := by
    simp [World.setCell, Array.getElem?_modify, hbk]
  have c1 : (w.setCell ⟨b, 0, none⟩ (.pointer (some ⟨b, 0, none⟩))).cell? ⟨b, 1, none⟩ = some (.slice none 0 0) := by rw [Lib.cell_of_heap hbk1]; rfl
  have hb1 : Below B w (w.setCell ⟨b, 0, none⟩ (.pointer (some ⟨b, 0, none⟩))) := (Below.refl B w).setCell (p := ⟨b, 0, none⟩) hB _
  have hU : Lib.IsBuilderF 131 5 B b [] (w.setCell ⟨b, 0, none⟩ (.pointer (some ⟨b, 0, none⟩))) := .inr (bld_ofF ⟨hB, .slice none 0 0, hbk1, World.ownsRow_nil _ _ _ _, by simp [Value.ownBlock]⟩)
  have c1' : (w.setCell ⟨b, 0, none⟩ (.pointer (some ⟨b, 0, none⟩))).drew.cell? ⟨b, 1, none⟩ = some (.slice none 0 0) := c1
  have mixed : Tryz.prog.follows Departure.mixedOrders = true := by kernel_rfl
  go_enter Tryz.func117, Tryz.ntmps117
  go_wp2_with (go_at_call 151; refine (bld_check_fresh b w (by rw [Lib.cell_of_heap hbk]; rfl) (by simp [World.shape?, hbk]) (Lib.frozen_of_heap hbk 0)).mono ?_; rintro e w' ⟨rfl, rfl⟩)
  go_region_o
  all_goals go_wp2_with (go_at_call 155; refine (Tryz.Builder_grow_fresh B b n (w.setCell ⟨b, 0, none⟩ (.pointer (some ⟨b, 0, none⟩))).drew hB hbk1 (by simpa [World.setCell, World.drew, -World.drew_eq] using hBw) hn).mono ?_; rintro e w' ⟨rfl, h1, h2⟩)
  all_goals first
    | (go_end0; exact ⟨rfl, .inr (bld_ofF h1), hb1.drew.trans h2⟩)
    | (go_end0; exact ⟨rfl, bld_drew hU, hb1.drew⟩)
/-- The pieces, a blank between them. -/
def joinV : List ByteArray → List UInt8
  | [] => []
  | x :: r => x.data.toList ++ r.flatMap fun y => 32 :: y.data.toList
def sumB (xs : List ByteArray) : Nat := (xs.map (·.size)).sum
theorem sumB_take {xs : List ByteArray} {k : Nat} (h : k < xs.length) : sumB (xs.take (k + 1)) = sumB (xs.take k) + xs[k].size := by
  unfold sumB
  rw [List.take_succ_eq_append_getElem h, List.map_append, List.sum_append]
  simp
theorem sumB_le (xs : List ByteArray) (k : Nat) : sumB (xs.take k) ≤ sumB xs := by
  have : sumB xs = sumB (xs.take k) + sumB (xs.drop k) := by
    unfold sumB
    rw [← List.sum_append, ← List.map_append, List.take_append_drop]
  omega
theorem joinV_step {xs : List ByteArray} {k : Nat} (h : k + 1 < xs.length) : joinV (xs.take (k + 2)) = joinV (xs.take (k + 1)) ++ 32 :: xs[k + 1].data.toList := by
  cases xs with
  | nil => simp at h
  | cons x r =>
    have hk : k < r.length := by simpa using h
    rw [List.take_succ_cons, List.take_succ_cons, List.take_succ_eq_append_getElem hk]
    simp only [joinV, List.flatMap_append, List.flatMap_cons, List.flatMap_nil, List.append_nil, List.append_assoc, List.getElem_cons_succ]
theorem joinV_len : ∀ xs : List ByteArray, (joinV xs).length ≤ sumB xs + xs.length
  | [] => by simp [joinV]
  | x :: r => by
    have hr : ∀ r : List ByteArray, (r.flatMap fun y => 32 :: y.data.toList).length ≤ sumB r + r.length := by
      intro r
      induction r with
      | nil => simp
      | cons y r ih =>
        have e : sumB (y :: r) = y.size + sumB r := by simp [sumB]
        rw [List.flatMap_cons, List.length_append, List.length_cons, List.length_cons, e, Lib.size_eq]
        omega
    have h1 := hr r
    have e : sumB (x :: r) = x.size + sumB r := by simp [sumB]
    simp only [joinV, List.length_append, List.length_cons]
    rw [e, Lib.size_eq]
    omega
set_option maxHeartbeats 4000000 in
set_option maxRecDepth 1000000 in
theorem join_many (bk c n : Nat) (xs : List ByteArray) (w : World) (hn : xs.length = n) (h2 : 2 ≤ n) (hN : n ≤ 4194304) (hcap : n ≤ c) (hbk : bk < w.heap.size)
    (hcells : ∀ (j : Nat) (h : j < xs.length), w.cell? ⟨bk, j, none⟩ = some (.string xs[j])) (hsz : sumB xs ≤ 4398046511104) :
    Calls Tryz.prog 76 #[.slice (some ⟨bk, 0, none⟩) n c, .string (⟨#[32]⟩ : ByteArray)] w fun e w' => e = .returned (.string ⟨(joinV xs).toArray⟩) ∧ Below w.heap.size w w' := by
  have HC := Aside0.mk hcells
  have HNN := Aside0.mk hn
  have HSZ := Aside0.mk hsz
  clear hcells hn hsz
  have hne0 : ((n : Int) == 0) = false := beq_eq_false_iff_ne.2 (by omega)
  have hne1 : ((n : Int) == 1) = false := beq_eq_false_iff_ne.2 (by omega)
  have HB := Aside0.mk (Below.refl w.heap.size w)
  have hdl : (2 : Int) ≤ 9223372036854775807 / ((n : Int) - 1) := Int.le_ediv_of_mul_le (by omega) (by omega)
  have hdv : ¬ (9223372036854775807 / ((n : Int) - 1) ≤ 1) := by omega
  go_enter Tryz.func76, Tryz.ntmps76
  go_wp2_with fail
  all_goals (
    go_loopg [5, 41] n (fun gg v5 v41 w' => ∃ kk : Nat, kk ≤ n ∧ n - kk ≤ gg ∧ v41 = .int .i64 (kk : Int) ∧ v5 = .int .i64 ((n - 1 + sumB (xs.take kk) : Nat) : Int) ∧ Aside0 (Below w.heap.size w w'))
    case atStart => exact ⟨0, Nat.zero_le _, by omega, rfl, by rw [show sumB (xs.take 0) = 0 from rfl]; congr 1; omega, ⟨by repeat (first | (with_reducible first | exact HB.out | apply below_alloc | apply pw_below_drewN | apply below_drew1) | exact HB.out)⟩⟩
    case round =>
      clear HB
      obtain ⟨kk, hkk, hgg, rfl, rfl, HB⟩ := hrel
      by_cases hlt : kk < n
      · have hll : kk < xs.length := by have := HNN.out; omega
        have hx := (HB.out.cell (p := ⟨bk, kk, none⟩) hbk).trans (HC.out kk hll)
        have hstep := sumB_take hll
        have hle := Nat.le_trans (sumB_le xs (kk + 1)) HSZ.out
        generalize hA1 : sumB (xs.take (kk + 1)) = A1 at hstep hle
        generalize sumB (xs.take kk) = A0 at hstep
        generalize xs[kk] = y at hx hstep
        have HA1 := Aside0.mk hA1
        clear hA1
        go_wp2
        go_roundg (n - (kk + 1))
        case measure => omega
        case rel => exact ⟨kk + 1, by omega, by omega, by go_num, by rw [HA1.out]; congr 1; omega, ⟨by repeat (first | (with_reducible first | exact HB.out | apply below_alloc | apply pw_below_drewN | apply below_drew1) | exact HB.out)⟩⟩
      · obtain rfl : n = kk := by omega
        have hT : sumB (xs.take n) = sumB xs := by rw [List.take_of_length_le (by have := HNN.out; omega)]
        rw [hT]
        have hTS := HSZ.out
        generalize hTe : sumB xs = T at hTS
        clear hTe hT
        go_wp2_with fail
        rw [show (((n - 1 : Nat) : Int) + (T : Int)) = ((n - 1 + T : Nat) : Int) by omega]
        have hsz := HB.out.size
        refine (bld_grow w.heap.size wr.heap.size (n - 1 + T) _ hsz (heap_alloc_new wr _) (by simp; omega) (by omega)).mono ?_
        rintro e w1 ⟨rfl, h1, hb1⟩
        have HB1 := Aside0.mk ((HB.out.alloc hsz _).trans hb1)
        have BB := Aside0.mk h1
        clear h1 hb1 HB
        have HB := HB1
        clear HB1
        have h0l : 0 < xs.length := by have := HNN.out; omega
        have hc0 := (HB.out.cell (p := ⟨bk, 0, none⟩) hbk).trans (HC.out 0 h0l)
        have HJL := Aside0.mk (show ∀ k, (joinV (xs.take k)).length ≤ 4398054899712 from fun k => by
          have h1 := joinV_len (xs.take k)
          have h2 := sumB_le xs k
          have h3 := HSZ.out
          have h4 := HNN.out
          have h5 : (xs.take k).length ≤ xs.length := by rw [List.length_take]; omega
          omega)
        have HJ0 := Aside0.mk (show Lib.byteCells [] ++ Lib.strCells xs[0] = Lib.byteCells (joinV (xs.take 1)) from by
          cases xs with
          | nil => exact absurd h0l (by simp)
          | cons x r => simp [joinV, Lib.strCells_eq, Lib.byteCells])
        have hl0 := HJL.out 1
        rw [← Lib.byteCells_length, ← HJ0.out, List.length_append, Lib.strCells_length] at hl0
        generalize xs[0] = x0 at hc0 HJ0 hl0
        go_wp2_with fail
        refine (bld_str_k w.heap.size wr.heap.size [] x0 w1 BB.out (by simp at hl0 ⊢; omega) HB.out.size).mono ?_
        rintro e w2 ⟨rfl, h2', hb2, _⟩
        have B2 := Aside0.mk (show Lib.IsBuilderF 131 5 w.heap.size wr.heap.size (Lib.byteCells (joinV (xs.take 1))) w2 from by rw [← HJ0.out]; exact .inr h2')
        have HB2 := Aside0.mk (HB.out.trans hb2)
        clear BB HB h2' hb2 hc0 hl0 HJ0
        have BB := B2
        have HB := HB2
        clear B2 HB2
        go_wp2_with fail
        generalize hbb : wr.heap.size = b at BB ⊢
        clear hbb
        go_loopg [65] n (fun gg v65 w' => ∃ kk : Nat, kk ≤ n - 1 ∧ n - 1 - kk ≤ gg ∧ v65 = .int .i64 (kk : Int) ∧ Aside0 (Lib.IsBuilderF 131 5 w.heap.size b (Lib.byteCells (joinV (xs.take (kk + 1)))) w') ∧ Aside0 (Below w.heap.size w w'))
        case atStart => exact ⟨0, Nat.zero_le _, by omega, rfl, ⟨by (with_reducible repeat (first | refine bld_drewN ?_ _ | apply bld_drew)); exact BB.out⟩, ⟨by repeat (first | (with_reducible first | exact HB.out | apply below_alloc | apply pw_below_drewN | apply below_drew1) | exact HB.out)⟩⟩
        case round =>
          clear BB HB
          obtain ⟨kk, hkk, hgg, rfl, BB, HB⟩ := hrel
          by_cases hlt2 : kk < n - 1
          · have hll : kk + 1 < xs.length := by have := HNN.out; omega
            have hcy := (HB.out.cell (p := ⟨bk, kk + 1, none⟩) hbk).trans (HC.out (kk + 1) hll)
            have HST := Aside0.mk (show Lib.byteCells (joinV (xs.take (kk + 1))) ++ Lib.strCells (⟨#[32]⟩ : ByteArray) ++ Lib.strCells xs[kk + 1] = Lib.byteCells (joinV (xs.take (kk + 2))) from by
              rw [joinV_step hll, Lib.strCells_eq, Lib.strCells_eq]
              simp [Lib.byteCells])
            have hl1 := HJL.out (kk + 1)
            have hl2 := HJL.out (kk + 2)
            rw [← Lib.byteCells_length] at hl1
            rw [← Lib.byteCells_length, ← HST.out, List.length_append, List.length_append, Lib.strCells_length, Lib.strCells_length] at hl2
            have h32 : (⟨#[32]⟩ : ByteArray).size = 1 := rfl
            rw [h32] at hl2
            have HL1 := Aside0.mk hl1
            have HL2 := Aside0.mk hl2
            clear hl1 hl2
            generalize xs[kk + 1] = y at hcy HST HL2
            rw [Nat.add_comm kk 1] at hcy
            go_wp2_with fail
            refine (bld_str_k w.heap.size b _ (⟨#[32]⟩ : ByteArray) _ (by (with_reducible repeat (first | refine bld_drewN ?_ _ | apply bld_drew)); exact BB.out) (by have := HL1.out; rw [h32]; omega) (below_size (by repeat (first | (with_reducible first | exact HB.out | apply below_alloc | apply pw_below_drewN | apply below_drew1) | exact HB.out)))).mono ?_
            rintro e w3 ⟨rfl, h3, hb3, _⟩
            have B3 := Aside0.mk (show Lib.IsBuilderF 131 5 w.heap.size b _ w3 from .inr h3)
            have HB3 := Aside0.mk (Below.trans (by repeat (first | (with_reducible first | exact HB.out | apply below_alloc | apply pw_below_drewN | apply below_drew1) | exact HB.out)) hb3)
            clear BB HB h3 hb3
            have HB := HB3
            clear HB3
            go_wp2_with fail
            refine (bld_str_k w.heap.size b _ y _ (by (with_reducible repeat (first | refine bld_drewN ?_ _ | apply bld_drew)); exact B3.out) (by have := HL2.out; rw [List.length_append, Lib.strCells_length, h32]; omega) (below_size (by repeat (first | (with_reducible first | exact HB.out | apply below_alloc | apply pw_below_drewN | apply below_drew1) | exact HB.out)))).mono ?_
            rintro e w4 ⟨rfl, h4, hb4, _⟩
            have BB := Aside0.mk (show Lib.IsBuilderF 131 5 w.heap.size b (Lib.byteCells (joinV (xs.take (kk + 2)))) w4 from by rw [← HST.out]; exact .inr h4)
            have HB4 := Aside0.mk (Below.trans (by repeat (first | (with_reducible first | exact HB.out | apply below_alloc | apply pw_below_drewN | apply below_drew1) | exact HB.out)) hb4)
            clear B3 HB h4 hb4
            have HB := HB4
            clear HB4
            go_wp2
            go_roundg (n - (kk + 2))
            case measure => omega
            case rel => exact ⟨kk + 1, by omega, by omega, by go_num, ⟨by (with_reducible repeat (first | refine bld_drewN ?_ _ | apply bld_drew)); exact BB.out⟩, ⟨by repeat (first | (with_reducible first | exact HB.out | apply below_alloc | apply pw_below_drewN | apply below_drew1) | exact HB.out)⟩⟩
          · obtain rfl : kk = n - 1 := by omega
            have hfull : xs.take (n - 1 + 1) = xs := List.take_of_length_le (by have := HNN.out; omega)
            rw [hfull] at BB
            go_wp2_with fail
            refine (Tryz.Builder_String_any_k w.heap.size b (joinV xs) _ (by (with_reducible repeat (first | refine bld_drewN ?_ _ | apply bld_drew)); exact BB.out) (below_size (by repeat (first | (with_reducible first | exact HB.out | apply below_alloc | apply pw_below_drewN | apply below_drew1) | exact HB.out)))).mono ?_
            rintro e w5 ⟨rfl, _, hb5, _⟩
            have HB5 := Aside0.mk (Below.trans (by repeat (first | (with_reducible first | exact HB.out | apply below_alloc | apply pw_below_drewN | apply below_drew1) | exact HB.out)) hb5)
            clear HB hb5
            have HB := HB5
            clear HB5
            go_wp2
            go_ret
            exact ⟨rfl, (by repeat (first | (with_reducible first | exact HB.out | apply below_alloc | apply pw_below_drewN | apply below_drew1) | exact HB.out))⟩)
theorem join_ev (bk c : Nat) (xs : List ByteArray) (n : Nat) (w : World) (hn : xs.length = n) (hN : n ≤ 4194304) (hcap : n ≤ c) (hbk : bk < w.heap.size)
    (hcells : ∀ (j : Nat) (h : j < xs.length), w.cell? ⟨bk, j, none⟩ = some (.string xs[j])) (hsz : sumB xs ≤ 4398046511104) :
    Calls Tryz.prog 76 #[.slice (some ⟨bk, 0, none⟩) n c, .string (⟨#[32]⟩ : ByteArray)] w fun e w' => e = .returned (.string ⟨(joinV xs).toArray⟩) ∧ Below w.heap.size w w' := by
  by_cases h2 : 2 ≤ n
  · exact join_many bk c n xs w hn h2 hN hcap hbk hcells hsz
  · cases xs with
    | nil =>
      obtain rfl : n = 0 := by simpa using hn.symm
      go_enter Tryz.func76, Tryz.ntmps76
      go_wp2
      go_ret
      exact ⟨rfl, Below.refl _ _⟩
    | cons x r =>
      have hr : r = [] := by
        cases r with
        | nil => rfl
        | cons y r => simp at hn; omega
      subst hr
      obtain rfl : n = 1 := by simpa using hn.symm
      have hc := hcells 0 (by simp)
      simp only [List.getElem_cons_zero] at hc
      have e : (⟨(joinV [x]).toArray⟩ : ByteArray) = x := by simp [joinV]
      rw [e]
      clear hcells hn hsz e
      go_enter Tryz.func76, Tryz.ntmps76
      go_wp2
      go_ret
      exact ⟨rfl, Below.refl _ _⟩
end Go.Proofs.YtpmjpbaeecnpiaaGreatDoor.L

namespace Go.Proofs
open Go.Shelf
def Tryz.lays229_ren : Go.Shelf.Ren := ⟨fun | 229 => 118 | n => n, fun | 9 => 9 | 40 => 155 | 31 => 30 | 152 => 182 | 3 => 3 | 0 => 0 | 4 => 4 | 21 => 21 | 154 => 184 | n => n, fun | n => n⟩
theorem Tryz.lays229 : Go.Proofs.Lays.n229 Tryz.prog Tryz.lays229_ren := {
  mixed := by kernel_rfl
  f229 := Tryz.func118.trans (congrArg some (by kernel_rfl))
  t0 := Tryz.underlying0
  a0 := Tryz.isAgg0
  z0 := Tryz.sizeOf0
  v0 := Tryz.zeroValue0
  t3 := Tryz.underlying3
  a3 := Tryz.isAgg3
  z3 := Tryz.sizeOf3
  v3 := Tryz.zeroValue3
  t4 := Tryz.underlying4
  a4 := Tryz.isAgg4
  z4 := Tryz.sizeOf4
  v4 := Tryz.zeroValue4
  t9 := Tryz.underlying9
  a9 := Tryz.isAgg9
  z9 := Tryz.sizeOf9
  v9 := Tryz.zeroValue9
  t21 := Tryz.underlying21
  a21 := Tryz.isAgg21
  z21 := Tryz.sizeOf21
  v21 := Tryz.zeroValue21
  t31 := Tryz.underlying30
  a31 := Tryz.isAgg30
  z31 := Tryz.sizeOf30
  v31 := Tryz.zeroValue30
  t40 := Tryz.underlying155
  a40 := Tryz.isAgg155
  z40 := Tryz.sizeOf155
  v40 := Tryz.zeroValue155
  t152 := Tryz.underlying182
  a152 := Tryz.isAgg182
  z152 := Tryz.sizeOf182
  v152 := Tryz.zeroValue182
  t154 := Tryz.underlying184
  a154 := Tryz.isAgg184
  z154 := Tryz.sizeOf184
  v154 := Tryz.zeroValue184 }
open Go.RowKit Go.Lib in
theorem Tryz.strings_FieldsFunc_runes (g : Nat) (lb : Array Value) (eg : ∀ args w, (callFunc g args).run Tryz.prog w = .ok (.enter g args) w) (p : Nat → Bool) (s : ByteArray) (w : World) (hs : s.size ≤ 4294967296) (hp : PredAtRunes Tryz.prog g lb p w) :
    Calls Tryz.prog 118 #[.string s, .func (.func g) #[] lb] w fun e w' => ∃ A, e = .returned (.slice (some ⟨A, 0, none⟩) (Lib.goFieldsP p s).length (Lib.goFieldsP p s).length) ∧ w.heap.size ≤ A ∧
      w'.ownsRow w.heap.size 9 1 (.slice (some ⟨A, 0, none⟩) (Lib.goFieldsP p s).length (Lib.goFieldsP p s).length) (Lib.goFieldsP p s).length ((Lib.goFieldsP p s).map Value.string) ∧ Below w.heap.size w w' := Any.strings_FieldsFunc_runes Tryz.lays229 g lb eg p s w hs hp (by kernel_rfl) (by kernel_rfl)
end Go.Proofs

namespace Go.Proofs.YtpmjpbaeecnpiaaGreatDoor.L
open Go.RowKit Go.Proofs.YtpmjpbaeecnpiaaGreatDoorW.PrintWords Go.Proofs.YtpmjpbaeecnpiaaGreatDoorW.PrintLast Go.Proofs.YtpmjpbaeecnpiaaGreatDoorW.PrintMore
set_option linter.unusedVariables false
set_option linter.unusedSimpArgs false

def blankN (x : Nat) : Bool := x == 32 || (x == 9 || (x == 10 || x == 13))
def wordsV (s : ByteArray) : List ByteArray := Lib.goFieldsP blankN s
theorem blank_gives (W : World) (x : Nat) (hx : x ≤ 1114111) : FnGives Tryz.prog 119 #[] #[encR x] (.bool (blankN x)) W := by
  unfold FnGives
  show Calls Tryz.prog 119 #[.int .i32 (x : Int)] W _
  by_cases c1 : x = 32
  · subst c1
    go_enter Tryz.func119, Tryz.ntmps119
    go_wp2
    go_ret
    exact ⟨rfl, 0, rfl⟩
  by_cases c2 : x = 9
  · subst c2
    go_enter Tryz.func119, Tryz.ntmps119
    go_wp2
    go_ret
    exact ⟨rfl, 0, rfl⟩
  by_cases c3 : x = 10
  · subst c3
    go_enter Tryz.func119, Tryz.ntmps119
    go_wp2
    go_ret
    exact ⟨rfl, 0, rfl⟩
  by_cases c4 : x = 13
  · subst c4
    go_enter Tryz.func119, Tryz.ntmps119
    go_wp2
    go_ret
    exact ⟨rfl, 0, rfl⟩
  have e : blankN x = false := by simp [blankN, c1, c2, c3, c4]
  have b1 : ((x : Int) == 32) = false := beq_eq_false_iff_ne.2 (by omega)
  have b2 : ((x : Int) == 9) = false := beq_eq_false_iff_ne.2 (by omega)
  have b3 : ((x : Int) == 10) = false := beq_eq_false_iff_ne.2 (by omega)
  have b4 : ((x : Int) == 13) = false := beq_eq_false_iff_ne.2 (by omega)
  rw [e]
  clear e c1 c2 c3 c4
  go_enter Tryz.func119, Tryz.ntmps119
  go_wp2
  go_ret
  exact ⟨rfl, 0, rfl⟩
/-! how many words, and how long -/
theorem spans_count (p : Nat → Bool) (s : ByteArray) : ∀ (f pos : Nat) (st : Option Nat) (acc : List (Nat × Nat)), (Lib.spansFromP p s f pos st acc).1.length ≤ acc.length + f
  | 0, _, _, acc => by simp [Lib.spansFromP]
  | f + 1, pos, st, acc => by
    unfold Lib.spansFromP
    split
    · split
      · cases st with
        | some a =>
          have := spans_count p s f (pos + (Utf8.decode s pos).2) none (acc ++ [(a, pos)])
          simp only [List.length_append, List.length_cons, List.length_nil] at this
          simp only
          omega
        | none =>
          have := spans_count p s f (pos + (Utf8.decode s pos).2) none acc
          simp only
          omega
      · cases st with
        | some a =>
          have := spans_count p s f (pos + (Utf8.decode s pos).2) (some a) acc
          simp only
          omega
        | none =>
          have := spans_count p s f (pos + (Utf8.decode s pos).2) (some pos) acc
          simp only
          omega
    · simp
theorem words_count (s : ByteArray) : (wordsV s).length ≤ s.size + 1 := by
  unfold wordsV Lib.goFieldsP Lib.spansOfP Lib.closeSpans
  rw [List.length_map]
  have := spans_count blankN s s.size 0 none []
  simp only [List.length_nil] at this
  split
  · rw [List.length_append, List.length_cons, List.length_nil]
    omega
  · omega
theorem words_size (s : ByteArray) : ∀ x ∈ wordsV s, x.size ≤ s.size := by
  intro x hx
  unfold wordsV Lib.goFieldsP at hx
  obtain ⟨y, _, rfl⟩ := List.mem_map.1 hx
  rw [ByteArray.size_extract]
  omega
theorem sumB_bound {m : Nat} : ∀ xs : List ByteArray, (∀ x ∈ xs, x.size ≤ m) → sumB xs ≤ xs.length * m
  | [], _ => by simp [sumB]
  | x :: r, h => by
    have h1 := sumB_bound r (fun y hy => h y (List.mem_cons_of_mem _ hy))
    have h2 := h x (by simp)
    have e : sumB (x :: r) = x.size + sumB r := by simp [sumB]
    rw [e, List.length_cons, Nat.add_mul]
    omega
def impl_White.f (a0 : ByteArray) (a1 : Int) : Option ByteArray := if a1 = 2 ∧ a0.size ≤ 1048576 then some ⟨(joinV (wordsV a0)).toArray⟩ else none
set_option maxHeartbeats 2000000 in
theorem words_calls (s : ByteArray) (w : World) (hs : s.size ≤ 1048576) :
    Calls Tryz.prog 77 #[.string s] w fun e w' => ∃ A, e = .returned (.slice (some ⟨A, 0, none⟩) (wordsV s).length (wordsV s).length) ∧ A < w'.heap.size ∧ (∀ (j : Nat) (h : j < (wordsV s).length), w'.cell? ⟨A, j, none⟩ = some (.string (wordsV s)[j])) ∧ Below w.heap.size w w' := by
  have eg := enters_of Tryz.func119 (by kernel_rfl) rfl
  go_enter Tryz.func77, Tryz.ntmps77
  go_wp2_with fail
  refine (Tryz.strings_FieldsFunc_runes 119 #[] eg blankN s _ (by omega) (fun W x hx _ => blank_gives W x hx)).mono ?_
  rintro e w1 ⟨A, rfl, hA, hown, hb⟩
  go_wp2
  go_ret
  have ho := World.ownsRowF_of hown
  refine ⟨A, rfl, (ho.lt A rfl).2, fun j h => ?_, hb⟩
  have := ho.cells (g := A) rfl j (.string (wordsV s)[j]) (by rw [List.getElem?_map, show Lib.goFieldsP blankN s = wordsV s from rfl, List.getElem?_eq_getElem h]; rfl)
  rw [add_plain] at this
  simpa using this
set_option maxHeartbeats 2000000 in
theorem impl_White.calls (a0 : ByteArray) (a1 : Int) (r : ByteArray) (w : World) (h : impl_White.f a0 a1 = some r) :
    Calls Tryz.prog 36 #[.string a0, .int .i64 a1] w fun e w' => e = .returned (.string r) ∧ Below w.heap.size w w' := by
  unfold impl_White.f at h
  by_cases c : a1 = 2 ∧ a0.size ≤ 1048576
  · rw [if_pos c] at h
    obtain rfl := Option.some.inj h
    clear h
    obtain ⟨rfl, hs⟩ := c
    have h1 := words_count a0
    have h2 := sumB_bound (wordsV a0) (words_size a0)
    have h3 : sumB (wordsV a0) ≤ 4398046511104 := by
      have : (wordsV a0).length * a0.size ≤ 1048577 * 1048576 := Nat.mul_le_mul (by omega) hs
      omega
    have H3 := Aside0.mk h3
    have H1 := Aside0.mk h1
    clear h1 h2 h3
    obtain ⟨n, hn⟩ : ∃ n, (wordsV a0).length = n := ⟨_, rfl⟩
    have HN := Aside0.mk hn
    clear hn
    go_enter Tryz.func36, Tryz.ntmps36
    go_wp2_with fail
    refine (words_calls a0 _ hs).mono ?_
    rintro e w1 ⟨A, rfl, hA, hc, hb⟩
    rw [HN.out]
    have HC := Aside0.mk hc
    have HB := Aside0.mk hb
    clear hc hb
    go_wp2_with fail
    refine (join_ev A n (wordsV a0) n _ HN.out (by have := H1.out; have := HN.out; omega) (Nat.le_refl _) hA HC.out H3.out).mono ?_
    rintro e w2 ⟨rfl, hb2⟩
    have hB2 := HB.out.trans (hb2.mono HB.out.size)
    go_wp2
    go_ret
    exact ⟨rfl, hB2⟩
  · rw [if_neg c] at h
    cases h
end Go.Proofs.YtpmjpbaeecnpiaaGreatDoor.L

namespace Go.Proofs.YtpmjpbaeecnpiaaGreatDoor.L
open Go.RowKit Go.Proofs.YtpmjpbaeecnpiaaGreatDoorW.PrintWords Go.Proofs.YtpmjpbaeecnpiaaGreatDoorW.PrintLast Go.Proofs.YtpmjpbaeecnpiaaGreatDoorW.PrintMore
attribute [local go_sem] max2_int min2_int max_two min_two max_three min_three max_four min_four
set_option linter.unusedVariables false
set_option linter.unusedSimpArgs false

/-! ### impl_fieldOf: function 52 -/
mutual
def impl_fieldOf.l0 : Nat → List (S65) → ByteArray → ByteArray → Int → List Int → Int → Int → Option (ByteArray × Int)
 | 0, _, _, _, _, _, _, _ => none
 | k + 1, x0, x3, x10, x11, x19, x20, x21 => if x21 < x20 then (if 0 ≤ x21 then (if x21 < (x19.length : Int) then (if x3.toList = ([] : List UInt8) then ((impl_textBelow.f x0 (rd x19 x21)).bind fun t412 => (impl_fieldOf.l0 k x0 x3 t412 (wrap64 (x11 + 1)) x19 x20 (wrap64 (x21 + 1)))) else (if 0 ≤ (rd x19 x21) then (if (rd x19 x21) < (x0.length : Int) then (impl_fieldOf.l1 k x0 x3 x10 x11 x19 x20 x21 ((rd_T65 x0 (rd x19 x21)).f3) (((rd_T65 x0 (rd x19 x21)).f3).length : Int) 0) else (none)) else (none))) else (none)) else (none)) else (if x11 = 1 then ((impl_White.f x10 2).bind fun t410 => (some (t410, x11))) else (some ((⟨#[]⟩ : ByteArray), x11)))
def impl_fieldOf.l1 : Nat → List (S65) → ByteArray → ByteArray → Int → List Int → Int → Int → List (S67) → Int → Int → Option (ByteArray × Int)
 | 0, _, _, _, _, _, _, _, _, _, _ => none
 | k + 1, x0, x3, x10, x11, x19, x20, x21, x36, x37, x38 => if x38 < x37 then (if 0 ≤ x38 then (if x38 < (x36.length : Int) then (if ((rd_T67 x36 x38).f0).toList = x3.toList then (impl_fieldOf.l1 k x0 x3 ((rd_T67 x36 x38).f1) (wrap64 (x11 + 1)) x19 x20 x21 x36 x37 (wrap64 (x38 + 1))) else (impl_fieldOf.l1 k x0 x3 x10 x11 x19 x20 x21 x36 x37 (wrap64 (x38 + 1)))) else (none)) else (none)) else (impl_fieldOf.l0 k x0 x3 x10 x11 x19 x20 (wrap64 (x21 + 1)))
end
def impl_fieldOf.f (k : Nat) (l0 : List (S65)) (a1 : Int) (l2 : List ByteArray) (a3 : ByteArray) : Option (ByteArray × Int) := (impl_led.f k l0 a1 l2 false).bind fun t407 => (impl_fieldOf.l0 k l0 a3 (⟨#[]⟩ : ByteArray) 0 t407 (t407.length : Int) 0)
set_option maxHeartbeats 8000000 in
set_option maxRecDepth 100000 in
theorem impl_fieldOf.calls (k : Nat) (A0 : Option Addr) (c0 : Nat) (l0 : List (S65)) (a1 : Int) (A2 : Option Addr) (c2 : Nat) (l2 : List ByteArray) (a3 : ByteArray) (r1 : ByteArray) (r2 : Int) (w : World) (hr0 : Kd.C k65 w A0 l0.length l0) (hc0 : l0.length ≤ c0) (hr2 : Kd.C Kd.string w A2 l2.length l2) (hc2 : l2.length ≤ c2) (h : impl_fieldOf.f k l0 a1 l2 a3 = some (r1, r2)) :
  Calls Tryz.prog 52 #[.slice A0 l0.length c0, .int .i64 a1, .slice A2 l2.length c2, .string a3] w fun e w' => e = .returned (.tuple #[.string r1, .int .i64 r2]) ∧ Below w.heap.size w w' := by
 have hu67 := Tryz.underlying67
 have HR0 := Aside0.mk hr0
 have HC0 := Aside0.mk hc0
 clear hr0 hc0
 have HR2 := Aside0.mk hr2
 have HC2 := Aside0.mk hc2
 clear hr2 hc2
 have HB := Aside0.mk (Below.refl w.heap.size w)
 have H : ((impl_led.f k l0 a1 l2 false).bind fun t407 => (impl_fieldOf.l0 k l0 a3 (⟨#[]⟩ : ByteArray) 0 t407 (t407.length : Int) 0)) = some (r1, r2) := h
 clear h
 replace H := Option.bind_eq_some_iff.mp H
 obtain ⟨t407, A50, H⟩ := H
 replace H : (impl_fieldOf.l0 k l0 a3 (⟨#[]⟩ : ByteArray) 0 t407 (t407.length : Int) 0) = some (r1, r2) := H
 have A5 := Aside0.mk A50
 clear A50
 have H' := Aside0.mk H
 clear H
 go_enter Tryz.func52, Tryz.ntmps52
 go_wp2_with (first | ((with_reducible refine gate_callee (f := 81) rfl ?_); refine goesL_ (some 19) rfl rfl Tryz.func81 dq22 rfl #[.slice A0 l0.length c0, .int .i64 a1, .slice A2 l2.length c2, .bool false] rfl dq21 ?_; (with_reducible refine (impl_led.calls k _ _ l0 a1 _ _ l2 false t407 _ ?side1 ?side2 ?side3 ?side4 A5.out).mono ?_); (case side1 => exact dq2); (case side2 => exact HC0.out); (case side3 => repeat (first | exact HR2.out | (with_reducible refine Kd.C_alloc ?_ _) | (with_reducible refine Kd.C_drewN ?_ _) | (with_reducible refine Kd.C_drew ?_))); (case side4 => exact HC2.out); rintro e w6 ⟨v408, rfl, ho0, hb⟩; refine ⟨_, rfl, ?_⟩; have n0_ := Aside0.mk (Kd.R_lower ho0 (below_size dq25)); have n1_ := Aside0.mk (below_step dq25 hb); clear HB; have HO409 := n0_; have HB := n1_; clear n0_ n1_; (try clear hb); (try clear hb2); (try clear hk); (try clear hi); (try clear ho0); obtain ⟨Ao7, co7, eo7⟩ := Kd.R_slice HO409.out; subst eo7))
 go_loopg [10, 11, 21] k (fun kq v10 v11 v21 w' => ∃ (x10_1 : ByteArray) (x11_1 : Int) (x21_1 : Int), v10 = .string x10_1 ∧ v11 = .int .i64 x11_1 ∧ v21 = .int .i64 x21_1 ∧ Aside0 (impl_fieldOf.l0 kq l0 a3 x10_1 x11_1 t407 (t407.length : Int) x21_1 = some (r1, r2)) ∧ Aside0 (kq ≤ k) ∧ Aside0 (Kd.R (Kd.int .i64) 2 w' w.heap.size (fun _ => True) (.slice Ao7 t407.length co7) t407) ∧ Aside0 (Below w.heap.size w w'))
 case atStart => exact ⟨((⟨#[]⟩ : ByteArray)), (0), (0), dq17, dq17, dq17, H', ⟨Nat.le_refl _⟩, ⟨by (with_reducible repeat (first | apply Kd.R_alloc | apply Kd.R_drewN | apply Kd.R_drew)); exact HO409.out⟩, ⟨dq25⟩⟩
 clear H'
 obtain ⟨x10_1, x11_1, x21_1, rfl, rfl, rfl, HA, HK1, HO_19, HB⟩ := hrel
 cases gk with
 | zero => exact absurd HA.out (by simp [impl_fieldOf.l0])
 | succ k1 =>
  have H := HA.out
  clear HA
  simp only [impl_fieldOf.l0] at H
  by_cases c8 : x21_1 < (t407.length : Int)
  rotate_left
  ·rw [if_neg c8] at H
   have c8b0 := decide_eq_false c8
   clear c8
   by_cases c24 : x11_1 = 1
   rotate_left
   ·rw [if_neg c24] at H
    have c24b0 := beq_eq_false_iff_ne.mpr c24
    have c24b1 := bne_iff_ne.mpr c24
    simp only [Option.some.injEq, Prod.mk.injEq] at H
    obtain ⟨rfl, rfl⟩ := H
    go_wp2
    go_ret2
    exact ⟨dq27, dq25⟩
   rw [if_pos c24] at H
   have c24b0 := beq_iff_eq.mpr c24
   have c24b1 := bne_eq_false_iff_eq.mpr c24
   clear c24
   replace H := Option.bind_eq_some_iff.mp H
   obtain ⟨t410, A250, H⟩ := H
   replace H : (some (t410, x11_1)) = some (r1, r2) := H
   have A25 := Aside0.mk A250
   clear A250
   simp only [Option.some.injEq, Prod.mk.injEq] at H
   obtain ⟨rfl, rfl⟩ := H
   go_wp2_with (first | ((with_reducible refine gate_callee (f := 36) rfl ?_); refine goesL_ (some 56) rfl rfl Tryz.func36 dq22 rfl #[.string x10_1, .int .i64 2] rfl dq21 ?_; (with_reducible refine (impl_White.calls x10_1 2 t410 _ A25.out).mono ?_); rintro e w26 ⟨rfl, hb⟩; refine ⟨_, rfl, ?_⟩; have n0_ := Aside0.mk (Kd.R_below dq94 hb); have n1_ := Aside0.mk (below_step dq25 hb); clear HO_19; clear HB; have HO_19 := n0_; have HB := n1_; clear n0_ n1_; (try clear hb); (try clear hb2); (try clear hk); (try clear hi)))
   go_ret2
   exact ⟨dq27, dq25⟩
  rw [if_pos c8] at H
  have c8b0 := decide_eq_true c8
  clear c8
  by_cases c9 : 0 ≤ x21_1
  rotate_left
  ·rw [if_neg c9] at H
   exact absurd H dq20
  rw [if_pos c9] at H
  have c9b0 := decide_eq_true c9
  clear c9
  by_cases c10 : x21_1 < (t407.length : Int)
  rotate_left
  ·rw [if_neg c10] at H
   exact absurd H dq20
  rw [if_pos c10] at H
  have c10b0 := decide_eq_true c10
  clear c10
  by_cases c11 : a3.toList = ([] : List UInt8)
  ·rw [if_pos c11] at H
   have c11b0 := beq_iff_eq.mpr c11
   have c11b1 := bne_eq_false_iff_eq.mpr c11
   clear c11
   replace H := Option.bind_eq_some_iff.mp H
   obtain ⟨t412, A120, H⟩ := H
   replace H : (impl_fieldOf.l0 k1 l0 a3 t412 (wrap64 (x11_1 + 1)) t407 (t407.length : Int) (wrap64 (x21_1 + 1))) = some (r1, r2) := H
   have A12 := Aside0.mk A120
   clear A120
   have H' := Aside0.mk H
   clear H
   have p411 : 0 ≤ (x21_1 : Int) := of_decide_eq_true dq18
   have q411 : x21_1 < (t407.length : Int) := of_decide_eq_true dq18
   obtain ⟨ad411, e411, hx411_0⟩ := Kd.at_int (Kd.R_reads' HO_19.out).2.2 x21_1 p411 q411
   cases e411
   replace p411 := eq_true p411
   replace q411 := eq_true q411
   go_wp2_with (first | ((with_reducible refine gate_callee (f := 73) rfl ?_); refine goesL_ (some 29) rfl rfl Tryz.func73 dq22 rfl #[.slice A0 l0.length c0, .int .i64 (rd t407 x21_1)] rfl dq21 ?_; (with_reducible refine (impl_textBelow.calls _ _ l0 (rd t407 x21_1) t412 _ ?side1 ?side2 A12.out).mono ?_); (case side1 => exact dq1); (case side2 => exact HC0.out); rintro e w13 ⟨rfl, hb⟩; refine ⟨_, rfl, ?_⟩; have n0_ := Aside0.mk (Kd.R_below dq94 hb); have n1_ := Aside0.mk (below_step dq25 hb); clear HO_19; clear HB; have HO_19 := n0_; have HB := n1_; clear n0_ n1_; (try clear hb); (try clear hb2); (try clear hk); (try clear hi)))
   go_roundg k1
   case measure => have := HK1.out; omega
   case rel => exact ⟨(t412), (wrap64 (x11_1 + 1)), (wrap64 (x21_1 + 1)), dq17, dq17, dq17, H', ⟨dq19⟩, ⟨dq94⟩, ⟨dq25⟩⟩
  rw [if_neg c11] at H
  have c11b0 := beq_eq_false_iff_ne.mpr c11
  have c11b1 := bne_iff_ne.mpr c11
  by_cases c14 : 0 ≤ (rd t407 x21_1)
  rotate_left
  ·rw [if_neg c14] at H
   exact absurd H dq20
  rw [if_pos c14] at H
  have c14b0 := decide_eq_true c14
  clear c14
  by_cases c15 : (rd t407 x21_1) < (l0.length : Int)
  rotate_left
  ·rw [if_neg c15] at H
   exact absurd H dq20
  rw [if_pos c15] at H
  have c15b0 := decide_eq_true c15
  clear c15
  have H' := Aside0.mk H
  clear H
  have p411 : 0 ≤ (x21_1 : Int) := of_decide_eq_true dq18
  have q411 : x21_1 < (t407.length : Int) := of_decide_eq_true dq18
  obtain ⟨ad411, e411, hx411_0⟩ := Kd.at_int (Kd.R_reads' HO_19.out).2.2 x21_1 p411 q411
  cases e411
  replace p411 := eq_true p411
  replace q411 := eq_true q411
  have p413 : 0 ≤ ((rd t407 x21_1) : Int) := of_decide_eq_true dq18
  have q413 : (rd t407 x21_1) < (l0.length : Int) := of_decide_eq_true dq18
  obtain ⟨ad413, A413_3, c413_3, e413, hx413_0, hx413_1, hx413_2, hx413_3, hl413_3, hi413_3⟩ := at_T65 HR0.out (rd t407 x21_1) p413 q413
  cases e413
  replace hx413_0 := (HB.out.cell (World.block_lt_of_cell? w _ hx413_0)).trans hx413_0
  replace hx413_1 := (HB.out.cell (World.block_lt_of_cell? w _ hx413_1)).trans hx413_1
  replace hx413_2 := (HB.out.cell (World.block_lt_of_cell? w _ hx413_2)).trans hx413_2
  replace hx413_3 := (HB.out.cell (World.block_lt_of_cell? w _ hx413_3)).trans hx413_3
  have HR413_3 := Aside0.mk hi413_3
  have HC413_3 := Aside0.mk hl413_3
  clear hi413_3 hl413_3
  replace p413 := eq_true p413
  replace q413 := eq_true q413
  go_wp2
  go_loopg [10, 11, 38] k1 (fun kq v10 v11 v38 w' => ∃ (x10_2 : ByteArray) (x11_2 : Int) (x38_2 : Int), v10 = .string x10_2 ∧ v11 = .int .i64 x11_2 ∧ v38 = .int .i64 x38_2 ∧ Aside0 (impl_fieldOf.l1 kq l0 a3 x10_2 x11_2 t407 (t407.length : Int) x21_1 ((rd_T65 l0 (rd t407 x21_1)).f3) (((rd_T65 l0 (rd t407 x21_1)).f3).length : Int) x38_2 = some (r1, r2)) ∧ Aside0 (kq ≤ k1) ∧ Aside0 (Kd.R (Kd.int .i64) 2 w' w.heap.size (fun _ => True) (.slice (some ad411) t407.length co7) t407) ∧ Aside0 (Below w.heap.size w w'))
  case atStart => exact ⟨(x10_1), (x11_1), (0), dq17, dq17, dq17, H', ⟨Nat.le_refl _⟩, ⟨dq94⟩, ⟨dq25⟩⟩
  clear H'
  try clear c8b0
  try clear c9b0
  try clear c10b0
  try clear c11
  try clear c11b0
  try clear c11b1
  try clear c14b0
  try clear c15b0
  try clear hx411_0
  try clear hx413_0
  try clear hx413_1
  try clear hx413_2
  try clear hx413_3
  try clear p411
  try clear p413
  try clear q411
  try clear q413
  obtain ⟨x10_2, x11_2, x38_2, rfl, rfl, rfl, HA, HK2, HO_19, HB⟩ := hrel
  cases gk with
  | zero => exact absurd HA.out (by simp [impl_fieldOf.l1])
  | succ k2 =>
   have H := HA.out
   clear HA
   simp only [impl_fieldOf.l1] at H
   by_cases c16 : x38_2 < (((rd_T65 l0 (rd t407 x21_1)).f3).length : Int)
   rotate_left
   ·rw [if_neg c16] at H
    have c16b0 := decide_eq_false c16
    clear c16
    have H' := Aside0.mk H
    clear H
    go_wp2
    go_roundg k2
    case measure => have := HK1.out; have := HK2.out; omega
    case rel => exact ⟨(x10_2), (x11_2), (wrap64 (x21_1 + 1)), dq17, dq17, dq17, H', ⟨dq43⟩, ⟨dq94⟩, ⟨dq25⟩⟩
   rw [if_pos c16] at H
   have c16b0 := decide_eq_true c16
   clear c16
   by_cases c17 : 0 ≤ x38_2
   rotate_left
   ·rw [if_neg c17] at H
    exact absurd H dq20
   rw [if_pos c17] at H
   have c17b0 := decide_eq_true c17
   clear c17
   by_cases c18 : x38_2 < (((rd_T65 l0 (rd t407 x21_1)).f3).length : Int)
   rotate_left
   ·rw [if_neg c18] at H
    exact absurd H dq20
   rw [if_pos c18] at H
   have c18b0 := decide_eq_true c18
   clear c18
   by_cases c19 : ((rd_T67 ((rd_T65 l0 (rd t407 x21_1)).f3) x38_2).f0).toList = a3.toList
   rotate_left
   ·rw [if_neg c19] at H
    have c19b0 := beq_eq_false_iff_ne.mpr c19
    have c19b1 := bne_iff_ne.mpr c19
    have H' := Aside0.mk H
    clear H
    have p414 : 0 ≤ (x38_2 : Int) := of_decide_eq_true dq18
    have q414 : x38_2 < (((rd_T65 l0 (rd t407 x21_1)).f3).length : Int) := of_decide_eq_true dq18
    obtain ⟨ad414, e414, hx414_0, hx414_1⟩ := at_T67 HR413_3.out x38_2 p414 q414
    cases e414
    replace hx414_0 := (HB.out.cell (World.block_lt_of_cell? w _ hx414_0)).trans hx414_0
    replace hx414_1 := (HB.out.cell (World.block_lt_of_cell? w _ hx414_1)).trans hx414_1
    replace p414 := eq_true p414
    replace q414 := eq_true q414
    go_wp2_with (first | ((with_reducible refine gate_dst (N := 15) rfl ?_); refine box_event ?hg (N := 15) ?hd (cs := #[.string (⟨#[]⟩ : ByteArray), .string (⟨#[]⟩ : ByteArray)]) (t := 67) ?hr ?_; (case hd => rfl); (case hg => rfl); (case hr => exact dq0); intro gb415 hg w22 hbox hb; have n0_ := Aside0.mk (Kd.R_below dq94 hb); have n1_ := Aside0.mk (below_step dq25 hb); have n2_ := Aside0.mk (hbox); have n3_ := Aside0.mk ((dq32 : w.heap.size ≤ gb415)); have n4_ := Aside0.mk ((dq32 : w.heap.size ≤ gb415)); clear HO_19; clear HB; have HO_19 := n0_; have HB := n1_; have BK415 := n2_; have GW415 := n3_; have GE415 := n4_; clear n0_ n1_ n2_ n3_ n4_; clear hb hbox hg; obtain ⟨⟨hcz23_0, hcz23_1⟩, hfz23_0, hfz23_1⟩ := blkC2 BK415.out))
    go_roundg k2
    case measure => have := HK1.out; have := HK2.out; omega
    case rel => exact ⟨(x10_2), (x11_2), (wrap64 (x38_2 + 1)), dq17, dq17, dq17, H', ⟨dq43⟩, ⟨dq96⟩, ⟨dq95⟩⟩
   rw [if_pos c19] at H
   have c19b0 := beq_iff_eq.mpr c19
   have c19b1 := bne_eq_false_iff_eq.mpr c19
   clear c19
   have H' := Aside0.mk H
   clear H
   have p414 : 0 ≤ (x38_2 : Int) := of_decide_eq_true dq18
   have q414 : x38_2 < (((rd_T65 l0 (rd t407 x21_1)).f3).length : Int) := of_decide_eq_true dq18
   obtain ⟨ad414, e414, hx414_0, hx414_1⟩ := at_T67 HR413_3.out x38_2 p414 q414
   cases e414
   replace hx414_0 := (HB.out.cell (World.block_lt_of_cell? w _ hx414_0)).trans hx414_0
   replace hx414_1 := (HB.out.cell (World.block_lt_of_cell? w _ hx414_1)).trans hx414_1
   replace p414 := eq_true p414
   replace q414 := eq_true q414
   go_wp2_with (first | ((with_reducible refine gate_dst (N := 15) rfl ?_); refine box_event ?hg (N := 15) ?hd (cs := #[.string (⟨#[]⟩ : ByteArray), .string (⟨#[]⟩ : ByteArray)]) (t := 67) ?hr ?_; (case hd => rfl); (case hg => rfl); (case hr => exact dq0); intro gb415 hg w20 hbox hb; have n0_ := Aside0.mk (Kd.R_below dq94 hb); have n1_ := Aside0.mk (below_step dq25 hb); have n2_ := Aside0.mk (hbox); have n3_ := Aside0.mk ((dq32 : w.heap.size ≤ gb415)); have n4_ := Aside0.mk ((dq32 : w.heap.size ≤ gb415)); clear HO_19; clear HB; have HO_19 := n0_; have HB := n1_; have BK415 := n2_; have GW415 := n3_; have GE415 := n4_; clear n0_ n1_ n2_ n3_ n4_; clear hb hbox hg; obtain ⟨⟨hcz21_0, hcz21_1⟩, hfz21_0, hfz21_1⟩ := blkC2 BK415.out))
   go_roundg k2
   case measure => have := HK1.out; have := HK2.out; omega
   case rel => exact ⟨((rd_T67 ((rd_T65 l0 (rd t407 x21_1)).f3) x38_2).f1), (wrap64 (x11_2 + 1)), (wrap64 (x38_2 + 1)), dq17, dq17, dq17, H', ⟨dq43⟩, ⟨dq96⟩, ⟨dq95⟩⟩

/-! ### impl_FieldOf: function 12 -/
def impl_FieldOf.f (k : Nat) (l0 : List (S65)) (a1 : Int) (a2 : ByteArray) : Option (ByteArray × Int) := (impl_fieldParts.f k a2).bind fun bt416 => (if bt416.2.2 = true then ((impl_isElement.f k l0 a1).bind fun t421 => (if t421 = true then ((impl_fieldOf.f k l0 a1 bt416.1 bt416.2.1).bind fun bt422 => (some (bt422.1, bt422.2))) else (some ((⟨#[]⟩ : ByteArray), (-1))))) else (some ((⟨#[]⟩ : ByteArray), (-1))))
set_option maxHeartbeats 8000000 in
set_option maxRecDepth 100000 in
theorem impl_FieldOf.calls (k : Nat) (A0 : Option Addr) (c0 : Nat) (l0 : List (S65)) (a1 : Int) (a2 : ByteArray) (r1 : ByteArray) (r2 : Int) (w : World) (hT : Gl w) (hr0 : Kd.C k65 w A0 l0.length l0) (hc0 : l0.length ≤ c0) (h : impl_FieldOf.f k l0 a1 a2 = some (r1, r2)) :
  Calls Tryz.prog 12 #[.slice A0 l0.length c0, .int .i64 a1, .string a2] w fun e w' => e = .returned (.tuple #[.string r1, .int .i64 r2]) ∧ Below w.heap.size w w' := by
 have HR0 := Aside0.mk hr0
 have HC0 := Aside0.mk hc0
 clear hr0 hc0
 have HT := Aside0.mk hT
 clear hT
 have HB := Aside0.mk (Below.refl w.heap.size w)
 have H : ((impl_fieldParts.f k a2).bind fun bt416 => (if bt416.2.2 = true then ((impl_isElement.f k l0 a1).bind fun t421 => (if t421 = true then ((impl_fieldOf.f k l0 a1 bt416.1 bt416.2.1).bind fun bt422 => (some (bt422.1, bt422.2))) else (some ((⟨#[]⟩ : ByteArray), (-1))))) else (some ((⟨#[]⟩ : ByteArray), (-1))))) = some (r1, r2) := h
 clear h
 replace H := Option.bind_eq_some_iff.mp H
 obtain ⟨⟨t416, t417, t418⟩, A40, H⟩ := H
 replace H : (if t418 = true then ((impl_isElement.f k l0 a1).bind fun t421 => (if t421 = true then ((impl_fieldOf.f k l0 a1 t416 t417).bind fun bt422 => (some (bt422.1, bt422.2))) else (some ((⟨#[]⟩ : ByteArray), (-1))))) else (some ((⟨#[]⟩ : ByteArray), (-1)))) = some (r1, r2) := H
 have A4 := Aside0.mk A40
 clear A40
 by_cases c5 : t418 = true
 rotate_left
 ·replace c5 := Bool.eq_false_iff.mpr c5
  subst c5
  have H1 : (some ((⟨#[]⟩ : ByteArray), (-1))) = some (r1, r2) := by rw [if_neg (show ¬ (false = true) by decide)] at H; exact H
  clear H
  have H := H1
  clear H1
  simp only [Option.some.injEq, Prod.mk.injEq] at H
  obtain ⟨rfl, rfl⟩ := H
  go_enter Tryz.func12, Tryz.ntmps12
  go_wp2_with (first | ((with_reducible refine gate_callee (f := 50) rfl ?_); refine goesL_ (some 13) rfl rfl Tryz.func50 dq22 rfl #[.string a2] rfl dq21 ?_; (with_reducible refine (impl_fieldParts.calls k a2 t416 t417 false _ ?side1 A4.out).mono ?_); (case side1 => exact dq3); rintro e w15 ⟨v419, rfl, ho0, hb⟩; refine ⟨_, rfl, ?_⟩; have n0_ := Aside0.mk (Kd.R_lower ho0 (below_size dq25)); have n1_ := Aside0.mk (below_step dq25 hb); clear HB; have HO420 := n0_; have HB := n1_; clear n0_ n1_; (try clear hb); (try clear hb2); (try clear hk); (try clear hi); (try clear ho0)))
  go_ret2
  exact ⟨dq27, dq25⟩
 subst c5
 have H1 : ((impl_isElement.f k l0 a1).bind fun t421 => (if t421 = true then ((impl_fieldOf.f k l0 a1 t416 t417).bind fun bt422 => (some (bt422.1, bt422.2))) else (some ((⟨#[]⟩ : ByteArray), (-1))))) = some (r1, r2) := by rw [if_pos rfl] at H; exact H
 clear H
 have H := H1
 clear H1
 replace H := Option.bind_eq_some_iff.mp H
 obtain ⟨t421, A60, H⟩ := H
 replace H : (if t421 = true then ((impl_fieldOf.f k l0 a1 t416 t417).bind fun bt422 => (some (bt422.1, bt422.2))) else (some ((⟨#[]⟩ : ByteArray), (-1)))) = some (r1, r2) := H
 have A6 := Aside0.mk A60
 clear A60
 by_cases c7 : t421 = true
 rotate_left
 ·replace c7 := Bool.eq_false_iff.mpr c7
  subst c7
  have H1 : (some ((⟨#[]⟩ : ByteArray), (-1))) = some (r1, r2) := by rw [if_neg (show ¬ (false = true) by decide)] at H; exact H
  clear H
  have H := H1
  clear H1
  simp only [Option.some.injEq, Prod.mk.injEq] at H
  obtain ⟨rfl, rfl⟩ := H
  go_enter Tryz.func12, Tryz.ntmps12
  go_wp2_with (first | ((with_reducible refine gate_callee (f := 50) rfl ?_); refine goesL_ (some 13) rfl rfl Tryz.func50 dq22 rfl #[.string a2] rfl dq21 ?_; (with_reducible refine (impl_fieldParts.calls k a2 t416 t417 true _ ?side1 A4.out).mono ?_); (case side1 => exact dq3); rintro e w13 ⟨v419, rfl, ho0, hb⟩; refine ⟨_, rfl, ?_⟩; have n0_ := Aside0.mk (Kd.R_lower ho0 (below_size dq25)); have n1_ := Aside0.mk (below_step dq25 hb); clear HB; have HO420 := n0_; have HB := n1_; clear n0_ n1_; (try clear hb); (try clear hb2); (try clear hk); (try clear hi); (try clear ho0)) | (go_at_call 51; (with_reducible refine (impl_isElement.calls k _ _ l0 a1 false _ ?side3 ?side1 ?side2 A6.out).mono ?_); (case side1 => exact dq1); (case side2 => exact HC0.out); (case side3 => exact dq3); rintro e w14 ⟨rfl, hb⟩; have n0_ := Aside0.mk (Kd.R_below dq97 hb); have n1_ := Aside0.mk (below_step dq25 hb); clear HO420; clear HB; have HO420 := n0_; have HB := n1_; clear n0_ n1_; (try clear hb); (try clear hb2); (try clear hk); (try clear hi)))
  go_ret2
  exact ⟨dq27, dq25⟩
 subst c7
 have H1 : ((impl_fieldOf.f k l0 a1 t416 t417).bind fun bt422 => (some (bt422.1, bt422.2))) = some (r1, r2) := by rw [if_pos rfl] at H; exact H
 clear H
 have H := H1
 clear H1
 replace H := Option.bind_eq_some_iff.mp H
 obtain ⟨⟨t422, t423⟩, A80, H⟩ := H
 replace H : (some (t422, t423)) = some (r1, r2) := H
 have A8 := Aside0.mk A80
 clear A80
 simp only [Option.some.injEq, Prod.mk.injEq] at H
 obtain ⟨rfl, rfl⟩ := H
 go_enter Tryz.func12, Tryz.ntmps12
 go_wp2_with (first | ((with_reducible refine gate_callee (f := 50) rfl ?_); refine goesL_ (some 13) rfl rfl Tryz.func50 dq22 rfl #[.string a2] rfl dq21 ?_; (with_reducible refine (impl_fieldParts.calls k a2 t416 t417 true _ ?side1 A4.out).mono ?_); (case side1 => exact dq3); rintro e w9 ⟨v419, rfl, ho0, hb⟩; refine ⟨_, rfl, ?_⟩; have n0_ := Aside0.mk (Kd.R_lower ho0 (below_size dq25)); have n1_ := Aside0.mk (below_step dq25 hb); clear HB; have HO420 := n0_; have HB := n1_; clear n0_ n1_; (try clear hb); (try clear hb2); (try clear hk); (try clear hi); (try clear ho0)) | (go_at_call 51; (with_reducible refine (impl_isElement.calls k _ _ l0 a1 true _ ?side3 ?side1 ?side2 A6.out).mono ?_); (case side1 => exact dq1); (case side2 => exact HC0.out); (case side3 => exact dq3); rintro e w10 ⟨rfl, hb⟩; have n0_ := Aside0.mk (Kd.R_below dq97 hb); have n1_ := Aside0.mk (below_step dq25 hb); clear HO420; clear HB; have HO420 := n0_; have HB := n1_; clear n0_ n1_; (try clear hb); (try clear hb2); (try clear hk); (try clear hi); obtain ⟨Ao11, co11, eo11⟩ := Kd.R_slice HO420.out; subst eo11) | ((with_reducible refine gate_callee (f := 52) rfl ?_); refine goesL_ (some 29) rfl rfl Tryz.func52 dq22 rfl #[.slice A0 l0.length c0, .int .i64 a1, .slice Ao11 t416.length co11, .string t417] rfl dq21 ?_; (with_reducible refine (impl_fieldOf.calls k _ _ l0 a1 _ _ t416 t417 t422 t423 _ ?side1 ?side2 ?side3 ?side4 A8.out).mono ?_); (case side1 => exact dq1); (case side2 => exact HC0.out); (case side3 => repeat (first | exact (Kd.R_reads' HO420.out).2.2 | (with_reducible refine Kd.C_alloc ?_ _) | (with_reducible refine Kd.C_drewN ?_ _) | (with_reducible refine Kd.C_drew ?_))); (case side4 => exact (Kd.R_reads' HO420.out).2.1); rintro e w12 ⟨rfl, hb⟩; refine ⟨_, rfl, ?_⟩; have n0_ := Aside0.mk (Kd.R_below dq97 hb); have n1_ := Aside0.mk (below_step dq25 hb); clear HO420; clear HB; have HO420 := n0_; have HB := n1_; clear n0_ n1_; (try clear hb); (try clear hb2); (try clear hk); (try clear hi)))
 go_ret2
 exact ⟨dq27, dq25⟩

/-! ### laws_big: function 33 -/
def laws_big.f (l0 : List Int) : Option (Bool) := some (decide ((l0.length : Int) > 1048576))
set_option maxHeartbeats 8000000 in
set_option maxRecDepth 100000 in
theorem laws_big.calls (A0 : Option Addr) (c0 : Nat) (l0 : List Int) (r : Bool) (w : World) (hr0 : Kd.C (Kd.int .u8) w A0 l0.length l0) (hc0 : l0.length ≤ c0) (h : laws_big.f l0 = some r) :
  Calls Tryz.prog 33 #[.slice A0 l0.length c0] w fun e w' => e = .returned (.bool r) ∧ Drawn0 w w' := by
 have HR0 := Aside0.mk hr0
 have HC0 := Aside0.mk hc0
 clear hr0 hc0
 have H : (some (decide ((l0.length : Int) > 1048576))) = some r := h
 clear h
 obtain rfl := Option.some.inj H
 go_enter Tryz.func33, Tryz.ntmps33
 go_wp2
 go_ret
 exact ⟨dq17, dq16⟩

/-- A state of type 127 at block g of W; what its slices lead to came in by w0. -/
def IsS127 (w0 W : World) (g : Nat) (f0 : List Int) (f1 : Int) : Prop := ∃ A0 c0, W.heap[g]? = some (.cells #[.slice A0 f0.length c0, .int .i64 f1] 127 (0, 0)) ∧ w0.heap.size ≤ g ∧ Kd.C (Kd.int .u8) w0 A0 f0.length f0
theorem IsS127.grown {w0 W : World} {g : Nat} {f0 : List Int} {f1 : Int} {W1 : World} {row : Option Nat} (h : IsS127 w0 W g f0 f1) (hw : W.grownBy W1 row) (hne : some g ≠ row) : IsS127 w0 W1 g f0 f1 := by
 obtain ⟨A0, c0, hb, hg, hr0⟩ := h
 exact ⟨A0, c0, blk_grown hb hw hne, hg, hr0⟩
theorem IsS127.below {w0 W : World} {g : Nat} {f0 : List Int} {f1 : Int} {W1 : World} (h : IsS127 w0 W g f0 f1) (hw : Below W.heap.size W W1) : IsS127 w0 W1 g f0 f1 := h.grown (grown_of_below hw none) dq20
theorem IsS127.alloc {w0 W : World} {g : Nat} {f0 : List Int} {f1 : Int} (h : IsS127 w0 W g f0 f1) (o : Obj) : IsS127 w0 (W.alloc o) g f0 f1 := h.below (below_alloc (Below.refl _ _) o)
theorem IsS127.drewN {w0 W : World} {g : Nat} {f0 : List Int} {f1 : Int} (h : IsS127 w0 W g f0 f1) (m : Nat) : IsS127 w0 (W.drewN m) g f0 f1 := h
theorem IsS127.drew {w0 W : World} {g : Nat} {f0 : List Int} {f1 : Int} (h : IsS127 w0 W g f0 f1) : IsS127 w0 W.drew g f0 f1 := h
theorem IsS127.apart {w0 W : World} {g : Nat} {f0 : List Int} {f1 : Int} {α : Type} {d : Kd α} {e : Nat} {base : Nat} {ok : Nat → Prop} {v : Value} {xs : List α} (h : IsS127 w0 W g f0 f1) (ho : d.R e W base ok v xs) (ht : ∀ q, q ∈ e :: d.E → q ≠ 127) : d.R e W base (fun k => ok k ∧ k ≠ g) v xs := by
 obtain ⟨A0, c0, hb, hg, hr0⟩ := h
 exact Kd.R_types ho hb ht
theorem IsS127.apartS {w0 W : World} {g : Nat} {f0 : List Int} {f1 : Int} {α : Type} {d : Kd α} {e : Nat} {base : Nat} {ok : Nat → Prop} {v : Value} {xs : List α} (h : IsS127 w0 W g f0 f1) (ho : d.S e W base ok v xs) (ht : ∀ q, q ∈ e :: d.E → q ≠ 127) : d.S e W base (fun k => ok k ∧ k ≠ g) v xs := by
 obtain ⟨A0, c0, hb, hg, hr0⟩ := h
 exact Kd.S_types ho hb ht
theorem IsS127.own_neS {w0 W : World} {g : Nat} {f0 : List Int} {f1 : Int} {α : Type} {d : Kd α} {e : Nat} {base : Nat} {ok : Nat → Prop} {v : Value} {xs : List α} (h : IsS127 w0 W g f0 f1) (ho : d.S e W base ok v xs) (ht : e ≠ 127) : some g ≠ v.ownBlock := by
 obtain ⟨A0, c0, hb, hg, hr0⟩ := h
 exact Kd.S_ne ho hb ht
theorem IsS127.lt {w0 W : World} {g : Nat} {f0 : List Int} {f1 : Int} (h : IsS127 w0 W g f0 f1) : g < W.heap.size := by
 obtain ⟨A0, c0, hb, hg, hr0⟩ := h
 exact blk_lt hb
theorem IsS127.ge {w0 W : World} {g : Nat} {f0 : List Int} {f1 : Int} (h : IsS127 w0 W g f0 f1) : w0.heap.size ≤ g := by
 obtain ⟨A0, c0, hb, hg, hr0⟩ := h
 exact hg
theorem IsS127.far {w0 W : World} {g : Nat} {f0 : List Int} {f1 : Int} {p : Addr} (h : IsS127 w0 W g f0 f1) (hne : g ≠ p.block) (u : Value) : IsS127 w0 (W.setCell p u) g f0 f1 := by
 obtain ⟨A0, c0, hb, hg, hr0⟩ := h
 exact ⟨A0, c0, blk_far hb hne u, hg, hr0⟩
theorem cellS127_0 {W : World} {g : Nat} {A0 : Option Addr} {c0 : Nat} {f0 : List Int} {f1 : Int} (h : W.heap[g]? = some (.cells #[.slice A0 f0.length c0, .int .i64 f1] 127 (0, 0))) : W.cell? ⟨g, 0, none⟩ = some (.slice A0 f0.length c0) := (blk_cell h 0).trans rfl
theorem cellS127_1 {W : World} {g : Nat} {A0 : Option Addr} {c0 : Nat} {f0 : List Int} {f1 : Int} (h : W.heap[g]? = some (.cells #[.slice A0 f0.length c0, .int .i64 f1] 127 (0, 0))) : W.cell? ⟨g, 1, none⟩ = some (.int .i64 f1) := (blk_cell h 1).trans rfl
theorem IsS127.set_1 {w0 W : World} {g : Nat} {f0 : List Int} {f1 : Int} (h : IsS127 w0 W g f0 f1) (x : Int) : IsS127 w0 (W.setCell ⟨g, 1, none⟩ (.int .i64 x)) g f0 x := by
 obtain ⟨A0, c0, hb, hg, hr0⟩ := h
 exact ⟨A0, c0, by simpa using blk_set hb 1 (.int .i64 x), hg, hr0⟩
theorem IsS127.new (w0 W : World) (A0 : Option Addr) (c0 : Nat) (f0 : List Int) (f1 : Int) (hB : Below w0.heap.size w0 W) (hr0 : Kd.C (Kd.int .u8) w0 A0 f0.length f0) : IsS127 w0 (W.alloc (.cells #[.slice A0 f0.length c0, .int .i64 f1] 127)) W.heap.size f0 f1 := ⟨A0, c0, by simpa using heap_alloc_new W _, hB.size, hr0⟩

/-! ### spec_l1Open: function 68 -/
def spec_l1Open.f (l0 : List Int) : Option (List Int × Int) := some (l0, 0)
set_option maxHeartbeats 8000000 in
set_option maxRecDepth 100000 in
theorem spec_l1Open.calls (A0 : Option Addr) (c0 : Nat) (l0 : List Int) (r1 : List Int) (r2 : Int) (w0 w : World) (hB : Below w0.heap.size w0 w) (hr0 : Kd.C (Kd.int .u8) w0 A0 l0.length l0) (hc0 : l0.length ≤ c0) (h : spec_l1Open.f l0 = some (r1, r2)) :
  Calls Tryz.prog 68 #[.slice A0 l0.length c0] w fun e w' => ∃ g_ : Nat, e = .returned (.pointer (some ⟨g_, 0, none⟩)) ∧ IsS127 w0 w' g_ r1 r2 ∧ Below w0.heap.size w0 w' ∧ Below w.heap.size w w' := by
 have hu127 := Tryz.underlying127
 have HR0 := Aside0.mk hr0
 have HC0 := Aside0.mk hc0
 clear hr0 hc0
 have HBW := Aside0.mk (Below.refl w.heap.size w)
 have HW0 := Aside0.mk hB.size
 have HB := Aside0.mk hB
 clear hB
 have H : (some (l0, 0)) = some (r1, r2) := h
 clear h
 simp only [Option.some.injEq, Prod.mk.injEq] at H
 obtain ⟨rfl, rfl⟩ := H
 go_enter Tryz.func68, Tryz.ntmps68
 go_wp2_with (first | ((with_reducible refine gate_dst (N := 5) rfl ?_); refine box_event ?hg (N := 5) ?hd (cs := #[.slice A0 l0.length c0, .int .i64 0]) (t := 127) ?hr ?_; (case hd => rfl); (case hg => rfl); (case hr => exact dq0); intro gb424 hg w2 hbox hb; have n0_ := Aside0.mk (below_step HBW.out hb); have n1_ := Aside0.mk (below_step dq25 hb); have n2_ := Aside0.mk (hbox); have n3_ := Aside0.mk ((dq98 : w.heap.size ≤ gb424)); have n4_ := Aside0.mk ((Nat.le_trans HW0.out (dq98 : w.heap.size ≤ gb424) : w0.heap.size ≤ gb424)); clear HBW; clear HB; have HBW := n0_; have HB := n1_; have BK424 := n2_; have GW424 := n3_; have GE424 := n4_; clear n0_ n1_ n2_ n3_ n4_; clear hb hbox hg))
 go_ret
 exact ⟨_, rfl, (show IsS127 w0 _ gb424 l0 0 from ⟨_, _, by refine blk_up ?_; exact BK424.out, GE424.out, HR0.out⟩), by repeat (first | (with_reducible first | exact HB.out | apply below_alloc | apply pw_below_drewN | apply below_drew1 | refine below_set ?_ GE424.out) | exact HB.out), by repeat (first | (with_reducible first | exact HBW.out | apply below_alloc | apply pw_below_drewN | apply below_drew1 | refine below_set ?_ GW424.out) | exact HBW.out)⟩

/-! ### spec_l1Rd_next: function 149 -/
def spec_l1Rd_next.f (s0_0 : List Int) (s0_1 : Int) : Option (Int × Int) := if s0_1 ≥ (s0_0.length : Int) then (some (0, s0_1)) else (if 0 ≤ (wrap64 ((wrap64 (s0_1 + 1)) - 1)) then (if (wrap64 ((wrap64 (s0_1 + 1)) - 1)) < (s0_0.length : Int) then (some (wrap64 (rd s0_0 (wrap64 ((wrap64 (s0_1 + 1)) - 1))), wrap64 (s0_1 + 1))) else (none)) else (none))
set_option maxHeartbeats 8000000 in
set_option maxRecDepth 100000 in
theorem spec_l1Rd_next.calls (g : Nat) (s0_0 : List Int) (s0_1 : Int) (r1 : Int) (r2 : Int) (w0 w : World) (hI : IsS127 w0 w g s0_0 s0_1) (hB : Below w0.heap.size w0 w) (h : spec_l1Rd_next.f s0_0 s0_1 = some (r1, r2)) :
  Calls Tryz.prog 149 #[.pointer (some ⟨g, 0, none⟩)] w fun e w' => e = .returned (.int .i64 r1) ∧ IsS127 w0 w' g s0_0 r2 ∧ Below w0.heap.size w0 w' ∧ KeepBut w w' g none := by
 have HI0 := Aside0.mk hI
 have HK := Aside0.mk (KeepBut.refl w g none)
 have HL := Aside0.mk hB.size
 clear hI
 have HW0 := Aside0.mk hB.size
 have HB := Aside0.mk hB
 clear hB
 have H : (if s0_1 ≥ (s0_0.length : Int) then (some (0, s0_1)) else (if 0 ≤ (wrap64 ((wrap64 (s0_1 + 1)) - 1)) then (if (wrap64 ((wrap64 (s0_1 + 1)) - 1)) < (s0_0.length : Int) then (some (wrap64 (rd s0_0 (wrap64 ((wrap64 (s0_1 + 1)) - 1))), wrap64 (s0_1 + 1))) else (none)) else (none))) = some (r1, r2) := h
 clear h
 by_cases c2 : s0_1 ≥ (s0_0.length : Int)
 ·rw [if_pos c2] at H
  have c2b0 : decide ((s0_0.length : Int) ≤ s0_1) = true := decide_eq_true c2
  clear c2
  simp only [Option.some.injEq, Prod.mk.injEq] at H
  obtain ⟨rfl, rfl⟩ := H
  obtain ⟨ASz3_0, cSz3_0, HGz3, hgz3, HSz3_0⟩ := HI0.out
  have hcz3_0 := cellS127_0 HGz3
  have hcz3_1 := cellS127_1 HGz3
  have hfz3_1 := blk_frozen HGz3 1
  clear HGz3 hgz3
  go_enter Tryz.func149, Tryz.ntmps149
  go_wp2
  repeat (go_quiet (fail); try go_wp2)
  go_ret
  exact ⟨dq27, dq101, dq100, dq99⟩
 rw [if_neg c2] at H
 have c2b0 : decide ((s0_0.length : Int) ≤ s0_1) = false := decide_eq_false c2
 clear c2
 obtain ⟨ji4, hji4⟩ : ∃ j_ : Int, (wrap64 ((wrap64 (s0_1 + 1)) - 1)) = j_ := ⟨_, rfl⟩
 replace H : (if 0 ≤ (ji4) then (if (ji4) < (s0_0.length : Int) then (some (wrap64 (rd s0_0 (ji4)), wrap64 (s0_1 + 1))) else (none)) else (none)) = some (r1, r2) := by first | (rw [hji4] at H; exact H) | (simp only [hji4] at H ⊢; exact H)
 have hji4w : (IntKind.i64.wrap ((wrap64 (s0_1 + 1)) - 1)) = ji4 := (i64_w _).trans hji4
 by_cases c5 : 0 ≤ (ji4)
 rotate_left
 ·rw [if_neg c5] at H
  exact absurd H dq20
 rw [if_pos c5] at H
 have c5b0 := decide_eq_true c5
 clear c5
 by_cases c6 : (ji4) < (s0_0.length : Int)
 rotate_left
 ·rw [if_neg c6] at H
  exact absurd H dq20
 rw [if_pos c6] at H
 have c6b0 := decide_eq_true c6
 clear c6
 simp only [Option.some.injEq, Prod.mk.injEq] at H
 obtain ⟨rfl, rfl⟩ := H
 obtain ⟨ASz7_0, cSz7_0, HGz7, hgz7, HSz7_0⟩ := HI0.out
 have hcz7_0 := cellS127_0 HGz7
 have hcz7_1 := cellS127_1 HGz7
 have hfz7_1 := blk_frozen HGz7 1
 clear HGz7 hgz7
 have p425 : 0 ≤ ((ji4) : Int) := of_decide_eq_true dq18
 have q425 : (ji4) < (s0_0.length : Int) := of_decide_eq_true dq18
 obtain ⟨ad425, e425, hx425_0⟩ := Kd.at_int HSz7_0 (ji4) p425 q425
 cases e425
 have hn425_0 : ad425.block ≠ g := Nat.ne_of_lt (Nat.lt_of_lt_of_le (by have := World.block_lt_of_cell? _ _ hx425_0; first | rwa [add_block] at this | exact this) (IsS127.ge HI0.out))
 replace hx425_0 := pw_cell_below HB.out hx425_0
 replace hx425_0 := (cell_far (p := ⟨g, 1, none⟩) (by first | (rw [add_block]; exact hn425_0) | (show (Addr.add _ _).block ≠ _; rw [add_block]; exact hn425_0) | exact hn425_0) (.int .i64 (wrap64 (s0_1 + 1)))).trans hx425_0
 (try have hy425_0 := fun (n_ : Nat) => (show (((w.drewN n_).setCell ⟨g, 1, none⟩ (.int .i64 (wrap64 (s0_1 + 1))))).cell? _ = some _ from hx425_0))
 clear hn425_0
 replace p425 := eq_true p425
 replace q425 := eq_true q425
 go_enter Tryz.func149, Tryz.ntmps149
 go_wp2
 repeat (go_quiet (fail); try go_wp2)
 go_ret
 exact ⟨by first | rfl | (simp [errW_none, errW_some] <;> rfl) | (simp only [← hji4]; first | rfl | (simp [errW_none, errW_some] <;> rfl)) | (simp [*, errW_none, errW_some] <;> rfl), dq101, dq100, dq99⟩

/-! ### spec_l1Rd_below: function 111 -/
def spec_l1Rd_below.f (s0_0 : List Int) (s0_1 : Int) (a1 : Int) : Option (Int × Int) := if a1 ≤ 1 then (some (0, s0_1)) else (if a1 ≤ 256 then ((spec_l1Rd_next.f s0_0 s0_1).bind fun bt426 => (if a1 = 0 then (none) else (some (Int.tmod bt426.1 a1, bt426.2)))) else ((spec_l1Rd_next.f s0_0 s0_1).bind fun bt428 => ((spec_l1Rd_next.f s0_0 bt428.2).bind fun bt430 => (if a1 = 0 then (none) else (some (Int.tmod (wrap64 ((wrap64 (bt428.1 * 256)) + bt430.1)) a1, bt430.2))))))
set_option maxHeartbeats 8000000 in
set_option maxRecDepth 100000 in
theorem spec_l1Rd_below.calls (g : Nat) (s0_0 : List Int) (s0_1 : Int) (a1 : Int) (r1 : Int) (r2 : Int) (w0 w : World) (hI : IsS127 w0 w g s0_0 s0_1) (hB : Below w0.heap.size w0 w) (h : spec_l1Rd_below.f s0_0 s0_1 a1 = some (r1, r2)) :
  Calls Tryz.prog 111 #[.pointer (some ⟨g, 0, none⟩), .int .i64 a1] w fun e w' => e = .returned (.int .i64 r1) ∧ IsS127 w0 w' g s0_0 r2 ∧ Below w0.heap.size w0 w' ∧ KeepBut w w' g none := by
 have HI0 := Aside0.mk hI
 have HK := Aside0.mk (KeepBut.refl w g none)
 have HL := Aside0.mk hB.size
 clear hI
 have HW0 := Aside0.mk hB.size
 have HB := Aside0.mk hB
 clear hB
 have H : (if a1 ≤ 1 then (some (0, s0_1)) else (if a1 ≤ 256 then ((spec_l1Rd_next.f s0_0 s0_1).bind fun bt426 => (if a1 = 0 then (none) else (some (Int.tmod bt426.1 a1, bt426.2)))) else ((spec_l1Rd_next.f s0_0 s0_1).bind fun bt428 => ((spec_l1Rd_next.f s0_0 bt428.2).bind fun bt430 => (if a1 = 0 then (none) else (some (Int.tmod (wrap64 ((wrap64 (bt428.1 * 256)) + bt430.1)) a1, bt430.2))))))) = some (r1, r2) := h
 clear h
 by_cases c3 : a1 ≤ 1
 ·rw [if_pos c3] at H
  have c3b0 := decide_eq_true c3
  clear c3
  simp only [Option.some.injEq, Prod.mk.injEq] at H
  obtain ⟨rfl, rfl⟩ := H
  go_enter Tryz.func111, Tryz.ntmps111
  go_wp2
  go_ret
  exact ⟨dq27, dq101, dq100, dq99⟩
 rw [if_neg c3] at H
 have c3b0 := decide_eq_false c3
 clear c3
 by_cases c4 : a1 ≤ 256
 ·rw [if_pos c4] at H
  have c4b0 := decide_eq_true c4
  clear c4
  replace H := Option.bind_eq_some_iff.mp H
  obtain ⟨⟨t426, t427⟩, A50, H⟩ := H
  replace H : (if a1 = 0 then (none) else (some (Int.tmod t426 a1, t427))) = some (r1, r2) := H
  have A5 := Aside0.mk A50
  clear A50
  by_cases c6 : a1 = 0
  ·rw [if_pos c6] at H
   exact absurd H dq20
  rw [if_neg c6] at H
  have c6b0 := beq_eq_false_iff_ne.mpr c6
  have c6b1 := bne_iff_ne.mpr c6
  simp only [Option.some.injEq, Prod.mk.injEq] at H
  obtain ⟨rfl, rfl⟩ := H
  go_enter Tryz.func111, Tryz.ntmps111
  go_wp2_with (first | ((with_reducible refine gate_callee (f := 149) rfl ?_); refine goesL_ (some 11) rfl rfl Tryz.func149 dq22 rfl #[.pointer (some ⟨g, 0, none⟩)] rfl dq21 ?_; (with_reducible refine (spec_l1Rd_next.calls g s0_0 s0_1 t426 t427 w0 _ ?side1 ?side2 A5.out).mono ?_); (case side1 => exact dq7); (case side2 => exact dq8); rintro e w7 ⟨rfl, hi, hb, hk⟩; refine ⟨_, rfl, ?_⟩; have n0_ := Aside0.mk (KeepBut.trans dq99 hk (.inl rfl)); have n1_ := Aside0.mk (hb); have n2_ := Aside0.mk (hi); clear HK; clear HB; clear HI0; have HK := n0_; have HB := n1_; have HI0 := n2_; clear n0_ n1_ n2_; (try clear hb); (try clear hb2); (try clear hk); (try clear hi)))
  go_ret
  exact ⟨dq27, dq101, dq100, dq99⟩
 rw [if_neg c4] at H
 have c4b0 := decide_eq_false c4
 clear c4
 replace H := Option.bind_eq_some_iff.mp H
 obtain ⟨⟨t428, t429⟩, A80, H⟩ := H
 replace H : ((spec_l1Rd_next.f s0_0 t429).bind fun bt430 => (if a1 = 0 then (none) else (some (Int.tmod (wrap64 ((wrap64 (t428 * 256)) + bt430.1)) a1, bt430.2)))) = some (r1, r2) := H
 have A8 := Aside0.mk A80
 clear A80
 replace H := Option.bind_eq_some_iff.mp H
 obtain ⟨⟨t430, t431⟩, A90, H⟩ := H
 replace H : (if a1 = 0 then (none) else (some (Int.tmod (wrap64 ((wrap64 (t428 * 256)) + t430)) a1, t431))) = some (r1, r2) := H
 have A9 := Aside0.mk A90
 clear A90
 by_cases c10 : a1 = 0
 ·rw [if_pos c10] at H
  exact absurd H dq20
 rw [if_neg c10] at H
 have c10b0 := beq_eq_false_iff_ne.mpr c10
 have c10b1 := bne_iff_ne.mpr c10
 simp only [Option.some.injEq, Prod.mk.injEq] at H
 obtain ⟨rfl, rfl⟩ := H
 go_enter Tryz.func111, Tryz.ntmps111
 go_wp2_with (first | ((with_reducible refine gate_callee (f := 149) rfl ?_); refine goesL_ (some 15) rfl rfl Tryz.func149 dq22 rfl #[.pointer (some ⟨g, 0, none⟩)] rfl dq21 ?_; (with_reducible refine (spec_l1Rd_next.calls g s0_0 s0_1 t428 t429 w0 _ ?side1 ?side2 A8.out).mono ?_); (case side1 => exact dq7); (case side2 => exact dq8); rintro e w11 ⟨rfl, hi, hb, hk⟩; refine ⟨_, rfl, ?_⟩; have n0_ := Aside0.mk (KeepBut.trans dq99 hk (.inl rfl)); have n1_ := Aside0.mk (hb); have n2_ := Aside0.mk (hi); clear HK; clear HB; clear HI0; have HK := n0_; have HB := n1_; have HI0 := n2_; clear n0_ n1_ n2_; (try clear hb); (try clear hb2); (try clear hk); (try clear hi)) | ((with_reducible refine gate_callee (f := 149) rfl ?_); refine goesL_ (some 19) rfl rfl Tryz.func149 dq22 rfl #[.pointer (some ⟨g, 0, none⟩)] rfl dq21 ?_; (with_reducible refine (spec_l1Rd_next.calls g s0_0 t429 t430 t431 w0 _ ?side1 ?side2 A9.out).mono ?_); (case side1 => exact dq7); (case side2 => exact dq8); rintro e w12 ⟨rfl, hi, hb, hk⟩; refine ⟨_, rfl, ?_⟩; have n0_ := Aside0.mk (KeepBut.trans dq99 hk (.inl rfl)); have n1_ := Aside0.mk (hb); have n2_ := Aside0.mk (hi); clear HK; clear HB; clear HI0; have HK := n0_; have HB := n1_; have HI0 := n2_; clear n0_ n1_ n2_; (try clear hb); (try clear hb2); (try clear hk); (try clear hi)))
 go_ret
 exact ⟨dq27, dq101, dq100, dq99⟩

/-! ### spec_l1Rd_once: function 78 -/
def spec_l1Rd_once.f (s0_0 : List Int) (s0_1 : Int) (a1 : Int) : Option (Bool × Int) := (spec_l1Rd_below.f s0_0 s0_1 a1).bind fun bt432 => (some ((bt432.1 == (wrap64 (a1 - 1))), bt432.2))
set_option maxHeartbeats 8000000 in
set_option maxRecDepth 100000 in
theorem spec_l1Rd_once.calls (g : Nat) (s0_0 : List Int) (s0_1 : Int) (a1 : Int) (r1 : Bool) (r2 : Int) (w0 w : World) (hI : IsS127 w0 w g s0_0 s0_1) (hB : Below w0.heap.size w0 w) (h : spec_l1Rd_once.f s0_0 s0_1 a1 = some (r1, r2)) :
  Calls Tryz.prog 78 #[.pointer (some ⟨g, 0, none⟩), .int .i64 a1] w fun e w' => e = .returned (.bool r1) ∧ IsS127 w0 w' g s0_0 r2 ∧ Below w0.heap.size w0 w' ∧ KeepBut w w' g none := by
 have HI0 := Aside0.mk hI
 have HK := Aside0.mk (KeepBut.refl w g none)
 have HL := Aside0.mk hB.size
 clear hI
 have HW0 := Aside0.mk hB.size
 have HB := Aside0.mk hB
 clear hB
 have H : ((spec_l1Rd_below.f s0_0 s0_1 a1).bind fun bt432 => (some ((bt432.1 == (wrap64 (a1 - 1))), bt432.2))) = some (r1, r2) := h
 clear h
 replace H := Option.bind_eq_some_iff.mp H
 obtain ⟨⟨t432, t433⟩, A30, H⟩ := H
 replace H : (some ((t432 == (wrap64 (a1 - 1))), t433)) = some (r1, r2) := H
 have A3 := Aside0.mk A30
 clear A30
 simp only [Option.some.injEq, Prod.mk.injEq] at H
 obtain ⟨rfl, rfl⟩ := H
 go_enter Tryz.func78, Tryz.ntmps78
 go_wp2_with (first | ((with_reducible refine gate_callee (f := 111) rfl ?_); refine goesL_ (some 7) rfl rfl Tryz.func111 dq22 rfl #[.pointer (some ⟨g, 0, none⟩), .int .i64 a1] rfl dq21 ?_; (with_reducible refine (spec_l1Rd_below.calls g s0_0 s0_1 a1 t432 t433 w0 _ ?side1 ?side2 A3.out).mono ?_); (case side1 => exact dq7); (case side2 => exact dq8); rintro e w4 ⟨rfl, hi, hb, hk⟩; refine ⟨_, rfl, ?_⟩; have n0_ := Aside0.mk (KeepBut.trans dq99 hk (.inl rfl)); have n1_ := Aside0.mk (hb); have n2_ := Aside0.mk (hi); clear HK; clear HB; clear HI0; have HK := n0_; have HB := n1_; have HI0 := n2_; clear n0_ n1_ n2_; (try clear hb); (try clear hb2); (try clear hk); (try clear hi)))
 go_ret
 exact ⟨dq27, dq101, dq100, dq99⟩

end Go.Proofs.YtpmjpbaeecnpiaaGreatDoor.L
