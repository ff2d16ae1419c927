/- Words and contracts for the row RowFnExactMatches: what the Go functions answer that it calls; printed by programs of the kit and of this session, and merged. -/
import Derived.Test.YtilmhfkbpnejeaaDoorQm0
import Derived.Test.YtilmhfkbpnejeaaDoorProg
import Derived.Below
import Derived.Deep.Draws
import Derived.Deep.AppendLies
import Derived.Maps.AppendAt
import Derived.OwnWalk
import Derived.Laws.BytesArg
import Derived.Laws.MakeOwn
import Derived.Laws.OwnMore
import Derived.Deep.OwnRows
import Derived.Tactics
import Derived.Lib.ConvBytes
import Derived.Laws.Slices
import Derived.WalkKit
import Derived.KernelRfl
import Derived.RowKit3
import Derived.Deep.LoopGhost
import Derived.Deep.QuietTactic
import Derived.BigQuiet
import Derived.WideLaws
import Derived.Deep.DeepCutAuto
import Derived.Deep.CutBlock
import Derived.Deep.RegionHeld3
import Derived.Laws.Rows
import Derived.Lib.AppendStr
import Derived.ArgAppend
import Derived.Laws.IdiomCopy
import Derived.OrdersHeld
import Derived.Laws.BitsLemmas
import Derived.RowKit
namespace Go.Proofs.YtilmhfkbpnejeaaDoor.L
open Go.RowKit Go.Proofs.YtilmhfkbpnejeaaDoorW.PrintWords Go.Proofs.YtilmhfkbpnejeaaDoorW.PrintLast Go.Proofs.YtilmhfkbpnejeaaDoorW.PrintMore
attribute [local go_sem] max2_int min2_int max_two min_two max_three min_three max_four min_four
set_option linter.unusedVariables false
set_option linter.unusedSimpArgs false



def errW : Option Int → Value
 | none => .nilIface
 | some c => .iface 0 (.int .i64 c)
theorem errW_none : errW none = .nilIface := rfl
theorem errW_some (c : Int) : errW (some c) = .iface 0 (.int .i64 c) := rfl

theorem info2 : (Tryd.prog.info? 2).map (fun i => (i.zero, i.size, i.bytes)) = some (some (.int .i64 0), 1, 8) := by kernel_rfl
theorem info4 : (Tryd.prog.info? 4).map (fun i => (i.zero, i.size, i.bytes)) = some (some (.bool false), 1, 1) := by kernel_rfl
theorem info93 : (Tryd.prog.info? 93).map (fun i => (i.zero, i.size, i.bytes)) = some (some (.agg #[(.int .i64 0), (.bool false), (.slice none 0 0), (.int .i64 0), (.int .i64 0), (.int .i64 0), (.int .i64 0)]), 7, 72) := by kernel_rfl
theorem info100 : (Tryd.prog.info? 100).map (fun i => (i.zero, i.size, i.bytes)) = some (some (.agg #[(.int .i64 0), (.int .i64 0)]), 2, 16) := by kernel_rfl
-- the values' own types
/-! #### struct type 154 -/
structure S154 where
 f0 : Int
 f1 : Int
def z154 : S154 := ⟨(0 : Int), (0 : Int)⟩
def k154 : Kd S154 := Kd.iso (Kd.pair (Kd.int .i64) (Kd.int .i64)) (fun x : S154 => (x.f0, x.f1))
theorem k154_open {w : World} {x : S154} {cs : List Value} (h : k154.K w x cs) : cs = [.int .i64 x.f0, .int .i64 x.f1] := by
 obtain ⟨_, _, rfl, rfl, rfl⟩ := h
 exact rfl
theorem k154_mk (w : World) (x : S154)  : k154.K w x [.int .i64 x.f0, .int .i64 x.f1] := ⟨[.int .i64 x.f0], [.int .i64 x.f1], rfl, rfl, rfl⟩
def rd_T154 (xs : List S154) (i : Int) : S154 := xs.getD i.toNat z154
theorem at_T154 {w : World} {A : Option Addr} {n : Nat} {xs : List S154} (h : Kd.C k154 w A n xs) (i : Int) (h0 : 0 ≤ i) (h1 : i < n) : ∃ ad , A = some ad ∧ w.cell? (ad.add (i.toNat * 2)) = some (.int .i64 (rd_T154 xs i).f0) ∧ w.cell? ⟨(ad.add (i.toNat * 2)).block, (ad.add (i.toNat * 2)).off + 1, none⟩ = some (.int .i64 (rd_T154 xs i).f1) := by
 obtain ⟨ad, c, e, _, hK, hc0⟩ := Kd.C_get h z154 i h0 h1
 have hc : ∀ j u, c[j]? = some u → w.cell? (ad.add (i.toNat * 2 + j)) = some u := hc0
 obtain rfl := k154_open hK
 exact ⟨ad, e, hc 0 _ rfl, by rw [← add_field _ _ 1 (by omega)]; exact hc 1 _ rfl⟩

/-! #### struct type 88 -/
structure S88 where
 f0 : Int
 f1 : Bool
 f2 : (List S154)
 f3 : Int
 f4 : Int
 f5 : Int
 f6 : Int
def z88 : S88 := ⟨(0 : Int), false, ([] : List S154), (0 : Int), (0 : Int), (0 : Int), (0 : Int)⟩
def k88 : Kd S88 := Kd.iso (Kd.pair (Kd.int .i64) (Kd.pair Kd.bool (Kd.pair (Kd.slice 154 k154) (Kd.pair (Kd.int .i64) (Kd.pair (Kd.int .i64) (Kd.pair (Kd.int .i64) (Kd.int .i64))))))) (fun x : S88 => (x.f0, x.f1, x.f2, x.f3, x.f4, x.f5, x.f6))
theorem k88_open {w : World} {x : S88} {cs : List Value} (h : k88.K w x cs) : ∃ A2 c2, cs = [.int .i64 x.f0, .bool x.f1, .slice A2 x.f2.length c2, .int .i64 x.f3, .int .i64 x.f4, .int .i64 x.f5, .int .i64 x.f6] ∧ x.f2.length ≤ c2 ∧ k154.C w A2 x.f2.length x.f2 := by
 obtain ⟨_, _, rfl, rfl, ⟨_, _, rfl, rfl, ⟨_, _, rfl, ⟨A2, c2, rfl, l2, g2⟩, ⟨_, _, rfl, rfl, ⟨_, _, rfl, rfl, ⟨_, _, rfl, rfl, rfl⟩⟩⟩⟩⟩⟩ := h
 exact ⟨A2, c2, rfl, l2, g2⟩
theorem k88_mk (w : World) (x : S88) {A2 : Option Addr} {c2 : Nat} (l2 : x.f2.length ≤ c2) (g2 : k154.C w A2 x.f2.length x.f2) : k88.K w x [.int .i64 x.f0, .bool x.f1, .slice A2 x.f2.length c2, .int .i64 x.f3, .int .i64 x.f4, .int .i64 x.f5, .int .i64 x.f6] := ⟨[.int .i64 x.f0], [.bool x.f1, .slice A2 x.f2.length c2, .int .i64 x.f3, .int .i64 x.f4, .int .i64 x.f5, .int .i64 x.f6], rfl, rfl, ⟨[.bool x.f1], [.slice A2 x.f2.length c2, .int .i64 x.f3, .int .i64 x.f4, .int .i64 x.f5, .int .i64 x.f6], rfl, rfl, ⟨[.slice A2 x.f2.length c2], [.int .i64 x.f3, .int .i64 x.f4, .int .i64 x.f5, .int .i64 x.f6], rfl, ⟨A2, c2, rfl, l2, g2⟩, ⟨[.int .i64 x.f3], [.int .i64 x.f4, .int .i64 x.f5, .int .i64 x.f6], rfl, rfl, ⟨[.int .i64 x.f4], [.int .i64 x.f5, .int .i64 x.f6], rfl, rfl, ⟨[.int .i64 x.f5], [.int .i64 x.f6], rfl, rfl, rfl⟩⟩⟩⟩⟩⟩
def rd_T88 (xs : List S88) (i : Int) : S88 := xs.getD i.toNat z88
theorem at_T88 {w : World} {A : Option Addr} {n : Nat} {xs : List S88} (h : Kd.C k88 w A n xs) (i : Int) (h0 : 0 ≤ i) (h1 : i < n) : ∃ ad A2 c2, A = some ad ∧ w.cell? (ad.add (i.toNat * 7)) = some (.int .i64 (rd_T88 xs i).f0) ∧ w.cell? ⟨(ad.add (i.toNat * 7)).block, (ad.add (i.toNat * 7)).off + 1, none⟩ = some (.bool (rd_T88 xs i).f1) ∧ w.cell? ⟨(ad.add (i.toNat * 7)).block, (ad.add (i.toNat * 7)).off + 2, none⟩ = some (.slice A2 (rd_T88 xs i).f2.length c2) ∧ w.cell? ⟨(ad.add (i.toNat * 7)).block, (ad.add (i.toNat * 7)).off + 3, none⟩ = some (.int .i64 (rd_T88 xs i).f3) ∧ w.cell? ⟨(ad.add (i.toNat * 7)).block, (ad.add (i.toNat * 7)).off + 4, none⟩ = some (.int .i64 (rd_T88 xs i).f4) ∧ w.cell? ⟨(ad.add (i.toNat * 7)).block, (ad.add (i.toNat * 7)).off + 5, none⟩ = some (.int .i64 (rd_T88 xs i).f5) ∧ w.cell? ⟨(ad.add (i.toNat * 7)).block, (ad.add (i.toNat * 7)).off + 6, none⟩ = some (.int .i64 (rd_T88 xs i).f6) ∧ (rd_T88 xs i).f2.length ≤ c2 ∧ k154.C w A2 (rd_T88 xs i).f2.length (rd_T88 xs i).f2 := by
 obtain ⟨ad, c, e, _, hK, hc0⟩ := Kd.C_get h z88 i h0 h1
 have hc : ∀ j u, c[j]? = some u → w.cell? (ad.add (i.toNat * 7 + j)) = some u := hc0
 obtain ⟨A2, c2, rfl, l2, g2⟩ := k88_open hK
 exact ⟨ad, A2, c2, e, hc 0 _ rfl, by rw [← add_field _ _ 1 (by omega)]; exact hc 1 _ rfl, by rw [← add_field _ _ 2 (by omega)]; exact hc 2 _ rfl, by rw [← add_field _ _ 3 (by omega)]; exact hc 3 _ rfl, by rw [← add_field _ _ 4 (by omega)]; exact hc 4 _ rfl, by rw [← add_field _ _ 5 (by omega)]; exact hc 5 _ rfl, by rw [← add_field _ _ 6 (by omega)]; exact hc 6 _ rfl, l2, g2⟩

/-! #### struct type 100 -/
structure S100 where
 f0 : Int
 f1 : Int
def z100 : S100 := ⟨(0 : Int), (0 : Int)⟩
def k100 : Kd S100 := Kd.iso (Kd.pair (Kd.int .i64) (Kd.int .i64)) (fun x : S100 => (x.f0, x.f1))
theorem k100_open {w : World} {x : S100} {cs : List Value} (h : k100.K w x cs) : cs = [.int .i64 x.f0, .int .i64 x.f1] := by
 obtain ⟨_, _, rfl, rfl, rfl⟩ := h
 exact rfl
theorem k100_openM {w : World} {base : Nat} {ok : Nat → Prop} {x : S100} {cs : List Value} (h : k100.M w base ok x cs) : cs = [.int .i64 x.f0, .int .i64 x.f1] := by
 obtain ⟨_, _, rfl, rfl, rfl⟩ := h
 exact rfl
theorem k100_mkM (w : World) (base : Nat) (ok : Nat → Prop) (x : S100)  : k100.M w base ok x [.int .i64 x.f0, .int .i64 x.f1] := ⟨[.int .i64 x.f0], [.int .i64 x.f1], rfl, rfl, rfl⟩
def rd_T100 (xs : List S100) (i : Int) : S100 := xs.getD i.toNat z100
theorem at_T100 {w : World} {A : Option Addr} {n : Nat} {xs : List S100} (h : Kd.C k100 w A n xs) (i : Int) (h0 : 0 ≤ i) (h1 : i < n) : ∃ ad , A = some ad ∧ w.cell? (ad.add (i.toNat * 2)) = some (.int .i64 (rd_T100 xs i).f0) ∧ w.cell? ⟨(ad.add (i.toNat * 2)).block, (ad.add (i.toNat * 2)).off + 1, none⟩ = some (.int .i64 (rd_T100 xs i).f1) := by
 obtain ⟨ad, c, e, _, hK, hc0⟩ := Kd.C_get h z100 i h0 h1
 have hc : ∀ j u, c[j]? = some u → w.cell? (ad.add (i.toNat * 2 + j)) = some u := hc0
 obtain rfl := k100_open hK
 exact ⟨ad, e, hc 0 _ rfl, by rw [← add_field _ _ 1 (by omega)]; exact hc 1 _ rfl⟩

/-! #### struct type 93 -/
structure S93 where
 f0 : Int
 f1 : Bool
 f2 : (List S100)
 f3 : Int
 f4 : Int
 f5 : Int
 f6 : Int
def z93 : S93 := ⟨(0 : Int), false, ([] : List S100), (0 : Int), (0 : Int), (0 : Int), (0 : Int)⟩
def k93 : Kd S93 := Kd.iso (Kd.pair (Kd.int .i64) (Kd.pair Kd.bool (Kd.pair (Kd.slice 100 k100) (Kd.pair (Kd.int .i64) (Kd.pair (Kd.int .i64) (Kd.pair (Kd.int .i64) (Kd.int .i64))))))) (fun x : S93 => (x.f0, x.f1, x.f2, x.f3, x.f4, x.f5, x.f6))
theorem k93_open {w : World} {x : S93} {cs : List Value} (h : k93.K w x cs) : ∃ A2 c2, cs = [.int .i64 x.f0, .bool x.f1, .slice A2 x.f2.length c2, .int .i64 x.f3, .int .i64 x.f4, .int .i64 x.f5, .int .i64 x.f6] ∧ x.f2.length ≤ c2 ∧ k100.C w A2 x.f2.length x.f2 := by
 obtain ⟨_, _, rfl, rfl, ⟨_, _, rfl, rfl, ⟨_, _, rfl, ⟨A2, c2, rfl, l2, g2⟩, ⟨_, _, rfl, rfl, ⟨_, _, rfl, rfl, ⟨_, _, rfl, rfl, rfl⟩⟩⟩⟩⟩⟩ := h
 exact ⟨A2, c2, rfl, l2, g2⟩
theorem k93_openM {w : World} {base : Nat} {ok : Nat → Prop} {x : S93} {cs : List Value} (h : k93.M w base ok x cs) : ∃ v2, cs = [.int .i64 x.f0, .bool x.f1, v2, .int .i64 x.f3, .int .i64 x.f4, .int .i64 x.f5, .int .i64 x.f6] ∧ k100.R 100 w base ok v2 x.f2 := by
 obtain ⟨_, _, rfl, rfl, ⟨_, _, rfl, rfl, ⟨_, _, rfl, ⟨v2, rfl, g2⟩, ⟨_, _, rfl, rfl, ⟨_, _, rfl, rfl, ⟨_, _, rfl, rfl, rfl⟩⟩⟩⟩⟩⟩ := h
 exact ⟨v2, rfl, g2⟩
theorem k93_mkM (w : World) (base : Nat) (ok : Nat → Prop) (x : S93) {v2 : Value} (g2 : k100.R 100 w base ok v2 x.f2) : k93.M w base ok x [.int .i64 x.f0, .bool x.f1, v2, .int .i64 x.f3, .int .i64 x.f4, .int .i64 x.f5, .int .i64 x.f6] := ⟨[.int .i64 x.f0], [.bool x.f1, v2, .int .i64 x.f3, .int .i64 x.f4, .int .i64 x.f5, .int .i64 x.f6], rfl, rfl, ⟨[.bool x.f1], [v2, .int .i64 x.f3, .int .i64 x.f4, .int .i64 x.f5, .int .i64 x.f6], rfl, rfl, ⟨[v2], [.int .i64 x.f3, .int .i64 x.f4, .int .i64 x.f5, .int .i64 x.f6], rfl, ⟨v2, rfl, g2⟩, ⟨[.int .i64 x.f3], [.int .i64 x.f4, .int .i64 x.f5, .int .i64 x.f6], rfl, rfl, ⟨[.int .i64 x.f4], [.int .i64 x.f5, .int .i64 x.f6], rfl, rfl, ⟨[.int .i64 x.f5], [.int .i64 x.f6], rfl, rfl, rfl⟩⟩⟩⟩⟩⟩
def rd_T93 (xs : List S93) (i : Int) : S93 := xs.getD i.toNat z93
theorem at_T93 {w : World} {A : Option Addr} {n : Nat} {xs : List S93} (h : Kd.C k93 w A n xs) (i : Int) (h0 : 0 ≤ i) (h1 : i < n) : ∃ ad A2 c2, A = some ad ∧ w.cell? (ad.add (i.toNat * 7)) = some (.int .i64 (rd_T93 xs i).f0) ∧ w.cell? ⟨(ad.add (i.toNat * 7)).block, (ad.add (i.toNat * 7)).off + 1, none⟩ = some (.bool (rd_T93 xs i).f1) ∧ w.cell? ⟨(ad.add (i.toNat * 7)).block, (ad.add (i.toNat * 7)).off + 2, none⟩ = some (.slice A2 (rd_T93 xs i).f2.length c2) ∧ w.cell? ⟨(ad.add (i.toNat * 7)).block, (ad.add (i.toNat * 7)).off + 3, none⟩ = some (.int .i64 (rd_T93 xs i).f3) ∧ w.cell? ⟨(ad.add (i.toNat * 7)).block, (ad.add (i.toNat * 7)).off + 4, none⟩ = some (.int .i64 (rd_T93 xs i).f4) ∧ w.cell? ⟨(ad.add (i.toNat * 7)).block, (ad.add (i.toNat * 7)).off + 5, none⟩ = some (.int .i64 (rd_T93 xs i).f5) ∧ w.cell? ⟨(ad.add (i.toNat * 7)).block, (ad.add (i.toNat * 7)).off + 6, none⟩ = some (.int .i64 (rd_T93 xs i).f6) ∧ (rd_T93 xs i).f2.length ≤ c2 ∧ k100.C w A2 (rd_T93 xs i).f2.length (rd_T93 xs i).f2 := by
 obtain ⟨ad, c, e, _, hK, hc0⟩ := Kd.C_get h z93 i h0 h1
 have hc : ∀ j u, c[j]? = some u → w.cell? (ad.add (i.toNat * 7 + j)) = some u := hc0
 obtain ⟨A2, c2, rfl, l2, g2⟩ := k93_open hK
 exact ⟨ad, A2, c2, e, hc 0 _ rfl, by rw [← add_field _ _ 1 (by omega)]; exact hc 1 _ rfl, by rw [← add_field _ _ 2 (by omega)]; exact hc 2 _ rfl, by rw [← add_field _ _ 3 (by omega)]; exact hc 3 _ rfl, by rw [← add_field _ _ 4 (by omega)]; exact hc 4 _ rfl, by rw [← add_field _ _ 5 (by omega)]; exact hc 5 _ rfl, by rw [← add_field _ _ 6 (by omega)]; exact hc 6 _ rfl, l2, g2⟩

end Go.Proofs.YtilmhfkbpnejeaaDoor.L

namespace Go.Proofs.YtilmhfkbpnejeaaDoorW.PrintWords
/-- W' is W but for what was drawn, and for new blocks. -/
class Up (W : outParam World) (W' : World) : Prop where
  up : ∀ (g : Nat) (o : Obj), W.heap[g]? = some o → W'.heap[g]? = some o
instance (priority := 10) (W : World) : Up W W := ⟨fun _ _ h => h⟩
instance (W V : World) [Up W V] : Up W V.drew := ⟨fun g o h => blk_drew (Up.up g o h)⟩
instance (W V : World) (n : Nat) [Up W V] : Up W (V.drewN n) := ⟨fun g o h => blk_drewN (Up.up g o h) n⟩
instance (W V : World) (x : Obj) [Up W V] : Up W (V.alloc x) := ⟨fun g o h => blk_alloc (Up.up g o h) x⟩
theorem blk_up {W W' : World} {g : Nat} {o : Obj} [Up W W'] (h : W.heap[g]? = some o) : W'.heap[g]? = some o := Up.up g o h
end Go.Proofs.YtilmhfkbpnejeaaDoorW.PrintWords
namespace Go.Proofs.YtilmhfkbpnejeaaDoorW.PrintWords
theorem blkC2 {w : World} {g : Nat} {t : TypeId} {a0 a1 : Value} (h : w.heap[g]? = some (.cells #[a0, a1] t (0, 0))) : (w.cell? ⟨g, 0, none⟩ = some a0 ∧ w.cell? ⟨g, 1, none⟩ = some a1) ∧ w.frozen? ⟨g, 0, none⟩ = false ∧ w.frozen? ⟨g, 1, none⟩ = false :=
  ⟨⟨(blk_cell h 0).trans rfl, (blk_cell h 1).trans rfl⟩, blk_frozen h 0, blk_frozen h 1⟩
theorem blkC7 {w : World} {g : Nat} {t : TypeId} {a0 a1 a2 a3 a4 a5 a6 : Value} (h : w.heap[g]? = some (.cells #[a0, a1, a2, a3, a4, a5, a6] t (0, 0))) : (w.cell? ⟨g, 0, none⟩ = some a0 ∧ w.cell? ⟨g, 1, none⟩ = some a1 ∧ w.cell? ⟨g, 2, none⟩ = some a2 ∧ w.cell? ⟨g, 3, none⟩ = some a3 ∧ w.cell? ⟨g, 4, none⟩ = some a4 ∧ w.cell? ⟨g, 5, none⟩ = some a5 ∧ w.cell? ⟨g, 6, none⟩ = some a6) ∧ w.frozen? ⟨g, 0, none⟩ = false ∧ w.frozen? ⟨g, 1, none⟩ = false ∧ w.frozen? ⟨g, 2, none⟩ = false ∧ w.frozen? ⟨g, 3, none⟩ = false ∧ w.frozen? ⟨g, 4, none⟩ = false ∧ w.frozen? ⟨g, 5, none⟩ = false ∧ w.frozen? ⟨g, 6, none⟩ = false :=
  ⟨⟨(blk_cell h 0).trans rfl, (blk_cell h 1).trans rfl, (blk_cell h 2).trans rfl, (blk_cell h 3).trans rfl, (blk_cell h 4).trans rfl, (blk_cell h 5).trans rfl, (blk_cell h 6).trans rfl⟩, blk_frozen h 0, blk_frozen h 1, blk_frozen h 2, blk_frozen h 3, blk_frozen h 4, blk_frozen h 5, blk_frozen h 6⟩
theorem dAct {p : Prop} (h : p := by simp only [Act.put, List.setIfInBounds_toArray, List.set_cons_zero, List.set_cons_succ, i64_w, i32_w]; rfl) : p := h
theorem dq0 {p : Prop} (h : p := by first | (go_simp; done) | (go_simp; rfl)) : p := h
theorem dq1 {p : Prop} (h : p := by repeat (first | exact (Kd.C_below HR0_2.out HB.out) | (with_reducible refine Kd.C_alloc ?_ _) | (with_reducible refine Kd.C_drewN ?_ _) | (with_reducible refine Kd.C_drew ?_))) : p := h
theorem dq2 {p : Prop} (h : p := by repeat (first | exact HR0.out | (with_reducible refine Kd.C_alloc ?_ _) | (with_reducible refine Kd.C_drewN ?_ _) | (with_reducible refine Kd.C_drew ?_))) : p := h
theorem dq3 {p : Prop} (h : p := by exact HC0.out) : p := h
theorem dq4 {p : Prop} (h : p := by repeat (first | exact (Kd.C_below HR0.out HB.out) | (with_reducible refine Kd.C_alloc ?_ _) | (with_reducible refine Kd.C_drewN ?_ _) | (with_reducible refine Kd.C_drew ?_))) : p := h
theorem dq5 {p : Prop} (h : p := by repeat (first | exact (Kd.C_below HR2.out HB.out) | (with_reducible refine Kd.C_alloc ?_ _) | (with_reducible refine Kd.C_drewN ?_ _) | (with_reducible refine Kd.C_drew ?_))) : p := h
theorem dq6 {p : Prop} (h : p := by repeat (first | exact (Kd.V_reads' HO_14.out).2.2 | (with_reducible refine Kd.C_alloc ?_ _) | (with_reducible refine Kd.C_drewN ?_ _) | (with_reducible refine Kd.C_drew ?_))) : p := h
theorem dq7 {p : Prop} (h : p := by repeat (first | exact (Kd.V_reads' HO344.out).2.2 | (with_reducible refine Kd.C_alloc ?_ _) | (with_reducible refine Kd.C_drewN ?_ _) | (with_reducible refine Kd.C_drew ?_))) : p := h
theorem dq8 {p : Prop} (h : p := by repeat (first | exact (Kd.R_reads' HO347.out).2.2 | (with_reducible refine Kd.C_alloc ?_ _) | (with_reducible refine Kd.C_drewN ?_ _) | (with_reducible refine Kd.C_drew ?_))) : p := h
theorem dq9 {p : Prop} (h : p := by exact Gl_below HT.out (by repeat (first | (with_reducible first | exact HB.out | apply below_alloc | apply pw_below_drewN | apply below_drew1) | exact HB.out))) : p := h
theorem dq10 {p : Prop} (h : p := by repeat (first | exact (Kd.C_below HR1_2.out HB.out) | (with_reducible refine Kd.C_alloc ?_ _) | (with_reducible refine Kd.C_drewN ?_ _) | (with_reducible refine Kd.C_drew ?_))) : p := h
theorem dq11 {p : Prop} (h : p := by repeat (first | exact (Kd.S_reads' HO376.out).2.2 | (with_reducible refine Kd.C_alloc ?_ _) | (with_reducible refine Kd.C_drewN ?_ _) | (with_reducible refine Kd.C_drew ?_))) : p := h
theorem dq12 {p : Prop} (h : p := by repeat (first | exact (Kd.S_reads' HO380.out).2.2 | (with_reducible refine Kd.C_alloc ?_ _) | (with_reducible refine Kd.C_drewN ?_ _) | (with_reducible refine Kd.C_drew ?_))) : p := h
theorem dq13 {p : Prop} (h : p := by repeat (first | exact Drawn0.refl _ | apply Drawn0.step)) : p := h
theorem dq14 {p : Prop} (h : p := by first | rfl | (simp; done) | (simp [*]; done)) : p := h
theorem dq15 {p : Prop} (h : p := by (try simp only [List.map_toArray, List.map_cons, List.map_nil]); first | done | rfl | (simp only [List.length_drop, List.length_take]; rfl)) : p := h
theorem dq16 {p : Prop} (h : p := by kernel_rfl) : p := h
theorem dq17 {p : Prop} (h : p := by rw [hg]; exact (below_size (by repeat (first | (with_reducible first | exact HB.out | apply below_alloc | apply pw_below_drewN | apply below_drew1) | exact HB.out)))) : p := h
theorem dq18 {p : Prop} (h : p := by repeat (first | (with_reducible first | exact HB.out | apply below_alloc | apply pw_below_drewN | apply below_drew1) | exact HB.out)) : p := h
theorem dq19 {p : Prop} (h : p := by repeat (first | (with_reducible first | exact HB.out | apply below_alloc | apply pw_below_drewN | apply below_drew1 | refine below_set ?_ GE101.out) | exact HB.out)) : p := h
theorem dq20 {p : Prop} (h : p := by first | rfl | (simp [errW_none, errW_some] <;> rfl) | (simp [*, errW_none, errW_some] <;> rfl)) : p := h
theorem dq21 {p : Prop} (h : p := by first | (with_reducible assumption) | assumption) : p := h
theorem dq22 {p : Prop} (h : p := by have := HK1.out; omega) : p := h
theorem dq23 {p : Prop} (h : p := by simp) : p := h
theorem dq24 {p : Prop} (h : p := by omega) : p := h
theorem dq25 {p : Prop} (h : p := by first | omega | exact Nat.le_refl _) : p := h
theorem dq26 {p : Prop} (h : p := by first | exact Kd.R_nil _ _ _ _ _ | exact Kd.N_nil _ _ _ _ _ | exact Kd.V_nil _ _ _ _ _ | exact Kd.Q_nil _ _ _ _ _ | exact Kd.S_nil _ _ _ _ _) : p := h
theorem dq27 {p : Prop} (h : p := by (with_reducible repeat (first | apply Kd.R_alloc | apply Kd.R_drewN | apply Kd.R_drew)); exact HO_4.out) : p := h
theorem dq28 {p : Prop} (h : p := by decide) : p := h
theorem dq29 {p : Prop} (h : p := by rfl) : p := h
theorem dq30 {p : Prop} (h : p := by repeat (first | (with_reducible first | exact HB.out | apply below_alloc | apply pw_below_drewN | apply below_drew1 | refine below_set ?_ GE116.out) | exact HB.out)) : p := h
theorem dq31 {p : Prop} (h : p := by refine blk_up ?_; exact BK116.out) : p := h
theorem dq32 {p : Prop} (h : p := by repeat (first | (with_reducible first | exact HB.out | apply below_alloc | apply pw_below_drewN | apply below_drew1 | refine below_set ?_ GE133.out) | exact HB.out)) : p := h
theorem dq33 {p : Prop} (h : p := by refine blk_up ?_; refine blk_put (cs := #[.int .i64 ((rd_T93 l0 a1).f0), .bool ((rd_T93 l0 a1).f1), .slice A132_2 ((rd_T93 l0 a1).f2).length c132_2, .int .i64 ((rd_T93 l0 a1).f3), .int .i64 ((rd_T93 l0 a1).f4), .int .i64 ((rd_T93 l0 a1).f5), .int .i64 0]) ?_ 6 _ rfl; refine blk_up ?_; refine blk_put (cs := #[.int .i64 ((rd_T93 l0 a1).f0), .bool ((rd_T93 l0 a1).f1), .slice A132_2 ((rd_T93 l0 a1).f2).length c132_2, .int .i64 ((rd_T93 l0 a1).f3), .int .i64 ((rd_T93 l0 a1).f4), .int .i64 0, .int .i64 0]) ?_ 5 _ rfl; refine blk_up ?_; refine blk_put (cs := #[.int .i64 ((rd_T93 l0 a1).f0), .bool ((rd_T93 l0 a1).f1), .slice A132_2 ((rd_T93 l0 a1).f2).length c132_2, .int .i64 ((rd_T93 l0 a1).f3), .int .i64 0, .int .i64 0, .int .i64 0]) ?_ 4 _ rfl; refine blk_up ?_; refine blk_put (cs := #[.int .i64 ((rd_T93 l0 a1).f0), .bool ((rd_T93 l0 a1).f1), .slice A132_2 ((rd_T93 l0 a1).f2).length c132_2, .int .i64 0, .int .i64 0, .int .i64 0, .int .i64 0]) ?_ 3 _ rfl; refine blk_up ?_; refine blk_put (cs := #[.int .i64 ((rd_T93 l0 a1).f0), .bool ((rd_T93 l0 a1).f1), .slice none 0 0, .int .i64 0, .int .i64 0, .int .i64 0, .int .i64 0]) ?_ 2 _ rfl; refine blk_up ?_; refine blk_put (cs := #[.int .i64 ((rd_T93 l0 a1).f0), .bool false, .slice none 0 0, .int .i64 0, .int .i64 0, .int .i64 0, .int .i64 0]) ?_ 1 _ rfl; refine blk_up ?_; refine blk_put (cs := #[.int .i64 0, .bool false, .slice none 0 0, .int .i64 0, .int .i64 0, .int .i64 0, .int .i64 0]) ?_ 0 _ rfl; refine blk_up ?_; exact BK133.out) : p := h
theorem dq34 {p : Prop} (h : p := by repeat (first | (with_reducible first | exact HB.out | apply below_alloc | apply pw_below_drewN | apply below_drew1 | refine below_set ?_ GE141.out) | exact HB.out)) : p := h
theorem dq35 {p : Prop} (h : p := by refine blk_up ?_; exact BK141.out) : p := h
theorem dq36 {p : Prop} (h : p := by refine blk_up ?_; exact BK151.out) : p := h
theorem dq37 {p : Prop} (h : p := by (with_reducible repeat (first | apply Kd.R_alloc | apply Kd.R_drewN | apply Kd.R_drew)); exact HO149.out) : p := h
theorem dq38 {p : Prop} (h : p := by repeat (first | (with_reducible first | exact HB.out | apply below_alloc | apply pw_below_drewN | apply below_drew1 | refine below_set ?_ GE151.out) | exact HB.out)) : p := h
theorem dq39 {p : Prop} (h : p := by refine blk_up ?_; refine blk_put (cs := #[.int .i64 ((rd_T93 l0 a1).f0), .bool ((rd_T93 l0 a1).f1), .slice A150_2 ((rd_T93 l0 a1).f2).length c150_2, .int .i64 ((rd_T93 l0 a1).f3), .int .i64 ((rd_T93 l0 a1).f4), .int .i64 ((rd_T93 l0 a1).f5), .int .i64 0]) ?_ 6 _ rfl; refine blk_up ?_; refine blk_put (cs := #[.int .i64 ((rd_T93 l0 a1).f0), .bool ((rd_T93 l0 a1).f1), .slice A150_2 ((rd_T93 l0 a1).f2).length c150_2, .int .i64 ((rd_T93 l0 a1).f3), .int .i64 ((rd_T93 l0 a1).f4), .int .i64 0, .int .i64 0]) ?_ 5 _ rfl; refine blk_up ?_; refine blk_put (cs := #[.int .i64 ((rd_T93 l0 a1).f0), .bool ((rd_T93 l0 a1).f1), .slice A150_2 ((rd_T93 l0 a1).f2).length c150_2, .int .i64 ((rd_T93 l0 a1).f3), .int .i64 0, .int .i64 0, .int .i64 0]) ?_ 4 _ rfl; refine blk_up ?_; refine blk_put (cs := #[.int .i64 ((rd_T93 l0 a1).f0), .bool ((rd_T93 l0 a1).f1), .slice A150_2 ((rd_T93 l0 a1).f2).length c150_2, .int .i64 0, .int .i64 0, .int .i64 0, .int .i64 0]) ?_ 3 _ rfl; refine blk_up ?_; refine blk_put (cs := #[.int .i64 ((rd_T93 l0 a1).f0), .bool ((rd_T93 l0 a1).f1), .slice none 0 0, .int .i64 0, .int .i64 0, .int .i64 0, .int .i64 0]) ?_ 2 _ rfl; refine blk_up ?_; refine blk_put (cs := #[.int .i64 ((rd_T93 l0 a1).f0), .bool false, .slice none 0 0, .int .i64 0, .int .i64 0, .int .i64 0, .int .i64 0]) ?_ 1 _ rfl; refine blk_up ?_; refine blk_put (cs := #[.int .i64 0, .bool false, .slice none 0 0, .int .i64 0, .int .i64 0, .int .i64 0, .int .i64 0]) ?_ 0 _ rfl; refine blk_up ?_; exact BK151.out) : p := h
theorem dq40 {p : Prop} (h : p := by (with_reducible repeat (first | apply Kd.R_alloc | apply Kd.R_drewN | apply Kd.R_drew)); exact (Kd.R_mono (Kd.R_far (p := ⟨gb151, 6, none⟩) (Kd.R_far (p := ⟨gb151, 5, none⟩) (Kd.R_far (p := ⟨gb151, 4, none⟩) (Kd.R_far (p := ⟨gb151, 3, none⟩) (Kd.R_far (p := ⟨gb151, 2, none⟩) (Kd.R_far (p := ⟨gb151, 1, none⟩) (Kd.R_far (p := ⟨gb151, 0, none⟩) (Kd.R_types HO149.out BK151.out (by decide)) (fun _ hk => hk.2) (.int .i64 ((rd_T93 l0 a1).f0))) (fun _ hk => hk.2) (.bool ((rd_T93 l0 a1).f1))) (fun _ hk => hk.2) (.slice A150_2 ((rd_T93 l0 a1).f2).length c150_2)) (fun _ hk => hk.2) (.int .i64 ((rd_T93 l0 a1).f3))) (fun _ hk => hk.2) (.int .i64 ((rd_T93 l0 a1).f4))) (fun _ hk => hk.2) (.int .i64 ((rd_T93 l0 a1).f5))) (fun _ hk => hk.2) (.int .i64 ((rd_T93 l0 a1).f6))) (fun _ h_ => h_.1))) : p := h
theorem dq41 {p : Prop} (h : p := by (with_reducible repeat (first | apply Kd.R_alloc | apply Kd.R_drewN | apply Kd.R_drew)); exact Kd.R_mono (Kd.R_far (p := ⟨gb151, 6, none⟩) (Kd.R_far (p := ⟨gb151, 5, none⟩) (Kd.R_far (p := ⟨gb151, 4, none⟩) (Kd.R_far (p := ⟨gb151, 3, none⟩) (Kd.R_far (p := ⟨gb151, 2, none⟩) (Kd.R_far (p := ⟨gb151, 1, none⟩) (Kd.R_far (p := ⟨gb151, 0, none⟩) (Kd.R_types HO149.out BK151.out (by decide)) (fun _ hk => hk.2) (.int .i64 ((rd_T93 l0 a1).f0))) (fun _ hk => hk.2) (.bool ((rd_T93 l0 a1).f1))) (fun _ hk => hk.2) (.slice A150_2 ((rd_T93 l0 a1).f2).length c150_2)) (fun _ hk => hk.2) (.int .i64 ((rd_T93 l0 a1).f3))) (fun _ hk => hk.2) (.int .i64 ((rd_T93 l0 a1).f4))) (fun _ hk => hk.2) (.int .i64 ((rd_T93 l0 a1).f5))) (fun _ hk => hk.2) (.int .i64 ((rd_T93 l0 a1).f6))) (fun _ hk => trivial)) : p := h
theorem dq42 {p : Prop} (h : p := by (with_reducible repeat (first | apply Kd.R_alloc | apply Kd.R_drewN | apply Kd.R_drew)); exact HO_9.out) : p := h
theorem dq43 {p : Prop} (h : p := by (with_reducible repeat (first | apply Kd.R_alloc | apply Kd.R_drewN | apply Kd.R_drew)); exact Kd.R_mono HO_13.out (fun _ hk => ⟨hk.2, hk.1⟩)) : p := h
theorem dq44 {p : Prop} (h : p := by (with_reducible repeat (first | apply Kd.R_alloc | apply Kd.R_drewN | apply Kd.R_drew)); exact Kd.R_mono HO_12.out (fun _ hk => ⟨hk.2, hk.1⟩)) : p := h
theorem dq45 {p : Prop} (h : p := by (with_reducible repeat (first | apply Kd.R_alloc | apply Kd.R_drewN | apply Kd.R_drew)); exact Kd.R_mono HO_9.out (fun _ hk => trivial)) : p := h
theorem dq46 {p : Prop} (h : p := by (with_reducible repeat (first | apply Kd.R_alloc | apply Kd.R_drewN | apply Kd.R_drew)); exact HO_15.out) : p := h
theorem dq47 {p : Prop} (h : p := by (with_reducible repeat (first | apply Kd.R_alloc | apply Kd.R_drewN | apply Kd.R_drew)); exact Kd.R_mono HO_15.out (fun _ hk => hk.2)) : p := h
theorem dq48 {p : Prop} (h : p := by have := HK1.out; have := HK2.out; first | omega | exact Nat.le_refl _) : p := h
theorem dq49 {p : Prop} (h : p := by (with_reducible repeat (first | apply Kd.R_alloc | apply Kd.R_drewN | apply Kd.R_drew)); exact Kd.R_mono HO_9.out (fun _ hk => hk.2)) : p := h
theorem dq50 {p : Prop} (h : p := by (with_reducible repeat (first | apply Kd.R_alloc | apply Kd.R_drewN | apply Kd.R_drew)); exact Kd.R_mono HO_15.out (fun _ hk => ⟨trivial, hk⟩)) : p := h
theorem dq51 {p : Prop} (h : p := by have := HK1.out; have := HK2.out; have := HJ101.out; have := HK4.out; omega) : p := h
theorem dq52 {p : Prop} (h : p := by (with_reducible repeat (first | apply Kd.R_alloc | apply Kd.R_drewN | apply Kd.R_drew)); exact HO219.out) : p := h
theorem dq53 {p : Prop} (h : p := by first | rfl | (simp [errW_none, errW_some] <;> rfl) | (simp only [← hji11]; first | rfl | (simp [errW_none, errW_some] <;> rfl)) | (simp [*, errW_none, errW_some] <;> rfl)) : p := h
theorem dq54 {p : Prop} (h : p := by rw [hg]; exact Nat.ne_of_gt (blk_lt (g := gb229) (o := .cells #[.int .i64 a0_0, .int .i64 a0_1] 154 (0, 0)) (by refine blk_up ?_; exact BK229.out))) : p := h
theorem dq55 {p : Prop} (h : p := by rw [hg]; exact Nat.ne_of_lt (blk_lt (g := gb229) (o := .cells #[.int .i64 a0_0, .int .i64 a0_1] 154 (0, 0)) (by refine blk_up ?_; exact BK229.out))) : p := h
theorem dq56 {p : Prop} (h : p := by rw [hg]; exact (below_size (by repeat (first | (with_reducible first | exact HB.out | apply below_alloc | apply pw_below_drewN | apply below_drew1 | refine below_set ?_ GE229.out | refine below_set ?_ GE230.out) | exact HB.out)))) : p := h
theorem dq57 {p : Prop} (h : p := by repeat (first | (with_reducible first | exact HB.out | apply below_alloc | apply pw_below_drewN | apply below_drew1 | refine below_set ?_ GE229.out | refine below_set ?_ GE230.out) | exact HB.out)) : p := h
theorem dq58 {p : Prop} (h : p := by refine blk_up ?_; exact BK229.out) : p := h
theorem dq59 {p : Prop} (h : p := by rw [hg]; exact (below_size (by repeat (first | (with_reducible first | exact HB.out | apply below_alloc | apply pw_below_drewN | apply below_drew1 | refine below_set ?_ GE229.out) | exact HB.out)))) : p := h
theorem dq60 {p : Prop} (h : p := by repeat (first | (with_reducible first | exact HB.out | apply below_alloc | apply pw_below_drewN | apply below_drew1 | refine below_set ?_ GE229.out) | exact HB.out)) : p := h
theorem dq61 {p : Prop} (h : p := by (with_reducible repeat (first | apply Kd.R_alloc | apply Kd.R_drewN | apply Kd.R_drew)); exact HO_3.out) : p := h
theorem dq62 {p : Prop} (h : p := by repeat (first | (with_reducible first | exact HB.out | apply below_alloc | apply pw_below_drewN | apply below_drew1 | refine below_set ?_ GE239.out | refine below_set ?_ GE240.out | refine below_set ?_ GE241.out) | exact HB.out)) : p := h
theorem dq63 {p : Prop} (h : p := by rw [hg]; exact Nat.ne_of_gt (blk_lt (g := gb239) (o := .cells #[.int .i64 a0_0, .bool a0_1, .slice A0_2 l0_2.length c0_2, .int .i64 a0_3, .int .i64 a0_4, .int .i64 a0_5, .int .i64 a0_6] 88 (0, 0)) (by refine blk_up ?_; exact BK239.out))) : p := h
theorem dq64 {p : Prop} (h : p := by rw [hg]; exact Nat.ne_of_lt (blk_lt (g := gb239) (o := .cells #[.int .i64 a0_0, .bool a0_1, .slice A0_2 l0_2.length c0_2, .int .i64 a0_3, .int .i64 a0_4, .int .i64 a0_5, .int .i64 a0_6] 88 (0, 0)) (by refine blk_up ?_; exact BK239.out))) : p := h
theorem dq65 {p : Prop} (h : p := by rw [hg]; exact (below_size (by repeat (first | (with_reducible first | exact HB.out | apply below_alloc | apply pw_below_drewN | apply below_drew1 | refine below_set ?_ GE239.out | refine below_set ?_ GE240.out) | exact HB.out)))) : p := h
theorem dq66 {p : Prop} (h : p := by repeat (first | (with_reducible first | exact HB.out | apply below_alloc | apply pw_below_drewN | apply below_drew1 | refine below_set ?_ GE239.out | refine below_set ?_ GE240.out) | exact HB.out)) : p := h
theorem dq67 {p : Prop} (h : p := by refine blk_up ?_; exact BK239.out) : p := h
theorem dq68 {p : Prop} (h : p := by rw [hg]; exact (below_size (by repeat (first | (with_reducible first | exact HB.out | apply below_alloc | apply pw_below_drewN | apply below_drew1 | refine below_set ?_ GE239.out) | exact HB.out)))) : p := h
theorem dq69 {p : Prop} (h : p := by repeat (first | (with_reducible first | exact HB.out | apply below_alloc | apply pw_below_drewN | apply below_drew1 | refine below_set ?_ GE239.out) | exact HB.out)) : p := h
theorem dq70 {p : Prop} (h : p := by rw [e_]; rfl) : p := h
theorem dq71 {p : Prop} (h : p := by (with_reducible repeat (first | apply Kd.S_alloc | apply Kd.S_drewN | apply Kd.S_drew)); exact HO_3.out) : p := h
theorem dq72 {p : Prop} (h : p := by repeat (first | (with_reducible first | exact HB.out | apply below_alloc | apply pw_below_drewN | apply below_drew1 | refine below_set ?_ GE261.out) | exact HB.out)) : p := h
theorem dq73 {p : Prop} (h : p := by refine blk_up ?_; exact BK261.out) : p := h
theorem dq74 {p : Prop} (h : p := by rw [hg]; exact Nat.ne_of_gt (blk_lt (g := gb261) (o := .cells #[.int .i64 a0_0, .bool a0_1, .slice (some ad263) l0_2.length c0_2, .int .i64 a0_3, .int .i64 a0_4, .int .i64 a0_5, .int .i64 a0_6] 93 (0, 0)) (by refine blk_up ?_; exact BK261.out))) : p := h
theorem dq75 {p : Prop} (h : p := by rw [hg]; exact Nat.ne_of_lt (blk_lt (g := gb261) (o := .cells #[.int .i64 a0_0, .bool a0_1, .slice (some ad263) l0_2.length c0_2, .int .i64 a0_3, .int .i64 a0_4, .int .i64 a0_5, .int .i64 a0_6] 93 (0, 0)) (by refine blk_up ?_; exact BK261.out))) : p := h
theorem dq76 {p : Prop} (h : p := by rw [hg]; exact (below_size (by repeat (first | (with_reducible first | exact HB.out | apply below_alloc | apply pw_below_drewN | apply below_drew1 | refine below_set ?_ GE261.out) | exact HB.out)))) : p := h
theorem dq77 {p : Prop} (h : p := by repeat (first | (with_reducible first | exact HB.out | apply below_alloc | apply pw_below_drewN | apply below_drew1 | refine below_set ?_ GE261.out | refine below_set ?_ GE264.out) | exact HB.out)) : p := h
theorem dq78 {p : Prop} (h : p := by (with_reducible repeat (first | apply Kd.R_alloc | apply Kd.R_drewN | apply Kd.R_drew)); exact HO272.out) : p := h
theorem dq79 {p : Prop} (h : p := by (with_reducible repeat (first | apply Kd.R_alloc | apply Kd.R_drewN | apply Kd.R_drew)); exact Kd.R_mono HO275.out (fun _ hk => hk.2)) : p := h
theorem dq80 {p : Prop} (h : p := by (with_reducible repeat (first | apply Kd.R_alloc | apply Kd.R_drewN | apply Kd.R_drew)); exact Kd.R_mono HO272.out (fun _ hk => hk.2)) : p := h
theorem dq81 {p : Prop} (h : p := by (with_reducible repeat (first | apply Kd.R_alloc | apply Kd.R_drewN | apply Kd.R_drew)); exact HO275.out) : p := h
theorem dq82 {p : Prop} (h : p := by repeat (first | (with_reducible first | exact HB.out | apply below_alloc | apply pw_below_drewN | apply below_drew1 | refine below_set ?_ GE279.out) | exact HB.out)) : p := h
theorem dq83 {p : Prop} (h : p := by refine blk_up ?_; exact BK279.out) : p := h
theorem dq84 {p : Prop} (h : p := by rw [hw]; exact below_set (HB.out) GB18.out) : p := h
theorem dq85 {p : Prop} (h : p := by (with_reducible repeat (first | apply Kd.R_alloc | apply Kd.R_drewN | apply Kd.R_drew)); exact Kd.R_mono HO_3.out (fun _ hk => ⟨trivial, hk⟩)) : p := h
theorem dq86 {p : Prop} (h : p := by (with_reducible repeat (first | apply Kd.R_alloc | apply Kd.R_drewN | apply Kd.R_drew)); exact Kd.R_mono HO_4.out (fun _ hk => ⟨trivial, hk⟩)) : p := h
theorem dq87 {p : Prop} (h : p := by rw [hw]; exact (by repeat (first | (with_reducible first | exact HB.out | apply below_alloc | apply pw_below_drewN | apply below_drew1 | refine below_set ?_ GE279.out) | exact HB.out))) : p := h
theorem dq88 {p : Prop} (h : p := by rw [hw]; exact (by refine blk_up ?_; refine blk_put (cs := #[.int .i64 ((rd_T93 l0 x21_1).f0), .bool ((rd_T93 l0 x21_1).f1), .slice A278_2 ((rd_T93 l0 x21_1).f2).length c278_2, .int .i64 ((rd_T93 l0 x21_1).f3), .int .i64 ((rd_T93 l0 x21_1).f4), .int .i64 ((rd_T93 l0 x21_1).f5), .int .i64 0]) ?_ 6 _ rfl; refine blk_up ?_; refine blk_put (cs := #[.int .i64 ((rd_T93 l0 x21_1).f0), .bool ((rd_T93 l0 x21_1).f1), .slice A278_2 ((rd_T93 l0 x21_1).f2).length c278_2, .int .i64 ((rd_T93 l0 x21_1).f3), .int .i64 ((rd_T93 l0 x21_1).f4), .int .i64 0, .int .i64 0]) ?_ 5 _ rfl; refine blk_up ?_; refine blk_put (cs := #[.int .i64 ((rd_T93 l0 x21_1).f0), .bool ((rd_T93 l0 x21_1).f1), .slice A278_2 ((rd_T93 l0 x21_1).f2).length c278_2, .int .i64 ((rd_T93 l0 x21_1).f3), .int .i64 0, .int .i64 0, .int .i64 0]) ?_ 4 _ rfl; refine blk_up ?_; refine blk_put (cs := #[.int .i64 ((rd_T93 l0 x21_1).f0), .bool ((rd_T93 l0 x21_1).f1), .slice A278_2 ((rd_T93 l0 x21_1).f2).length c278_2, .int .i64 0, .int .i64 0, .int .i64 0, .int .i64 0]) ?_ 3 _ rfl; refine blk_up ?_; refine blk_put (cs := #[.int .i64 ((rd_T93 l0 x21_1).f0), .bool ((rd_T93 l0 x21_1).f1), .slice none 0 0, .int .i64 0, .int .i64 0, .int .i64 0, .int .i64 0]) ?_ 2 _ rfl; refine blk_up ?_; refine blk_put (cs := #[.int .i64 ((rd_T93 l0 x21_1).f0), .bool false, .slice none 0 0, .int .i64 0, .int .i64 0, .int .i64 0, .int .i64 0]) ?_ 1 _ rfl; refine blk_up ?_; refine blk_put (cs := #[.int .i64 0, .bool false, .slice none 0 0, .int .i64 0, .int .i64 0, .int .i64 0, .int .i64 0]) ?_ 0 _ rfl; refine blk_up ?_; exact BK279.out)) : p := h
theorem dq89 {p : Prop} (h : p := by rw [hw]; exact (by (with_reducible repeat (first | apply Kd.R_alloc | apply Kd.R_drewN | apply Kd.R_drew)); exact Kd.R_mono (Kd.R_far (p := ⟨gb279, 6, none⟩) (Kd.R_far (p := ⟨gb279, 5, none⟩) (Kd.R_far (p := ⟨gb279, 4, none⟩) (Kd.R_far (p := ⟨gb279, 3, none⟩) (Kd.R_far (p := ⟨gb279, 2, none⟩) (Kd.R_far (p := ⟨gb279, 1, none⟩) (Kd.R_far (p := ⟨gb279, 0, none⟩) (Kd.R_types HO_4.out BK279.out (by decide)) (fun _ hk => hk.2) (.int .i64 ((rd_T93 l0 x21_1).f0))) (fun _ hk => hk.2) (.bool ((rd_T93 l0 x21_1).f1))) (fun _ hk => hk.2) (.slice A278_2 ((rd_T93 l0 x21_1).f2).length c278_2)) (fun _ hk => hk.2) (.int .i64 ((rd_T93 l0 x21_1).f3))) (fun _ hk => hk.2) (.int .i64 ((rd_T93 l0 x21_1).f4))) (fun _ hk => hk.2) (.int .i64 ((rd_T93 l0 x21_1).f5))) (fun _ hk => hk.2) (.int .i64 ((rd_T93 l0 x21_1).f6))) (fun _ hk => hk.1))) : p := h
theorem dq90 {p : Prop} (h : p := by rw [hw]; exact (by (with_reducible repeat (first | apply Kd.R_alloc | apply Kd.R_drewN | apply Kd.R_drew)); exact Kd.R_mono (Kd.R_far (p := ⟨gb279, 6, none⟩) (Kd.R_far (p := ⟨gb279, 5, none⟩) (Kd.R_far (p := ⟨gb279, 4, none⟩) (Kd.R_far (p := ⟨gb279, 3, none⟩) (Kd.R_far (p := ⟨gb279, 2, none⟩) (Kd.R_far (p := ⟨gb279, 1, none⟩) (Kd.R_far (p := ⟨gb279, 0, none⟩) (Kd.R_types HO_3.out BK279.out (by decide)) (fun _ hk => hk.2) (.int .i64 ((rd_T93 l0 x21_1).f0))) (fun _ hk => hk.2) (.bool ((rd_T93 l0 x21_1).f1))) (fun _ hk => hk.2) (.slice A278_2 ((rd_T93 l0 x21_1).f2).length c278_2)) (fun _ hk => hk.2) (.int .i64 ((rd_T93 l0 x21_1).f3))) (fun _ hk => hk.2) (.int .i64 ((rd_T93 l0 x21_1).f4))) (fun _ hk => hk.2) (.int .i64 ((rd_T93 l0 x21_1).f5))) (fun _ hk => hk.2) (.int .i64 ((rd_T93 l0 x21_1).f6))) (fun _ hk => hk.1))) : p := h
theorem dq91 {p : Prop} (h : p := by (with_reducible repeat (first | apply Kd.R_alloc | apply Kd.R_drewN | apply Kd.R_drew)); exact Kd.R_mono HO_3.out (fun _ hk => hk.2)) : p := h
theorem dq92 {p : Prop} (h : p := by refine blk_up ?_; refine blk_far ?_ (by have h_ := Kd.R_ne HO_4.out BK279.out (by decide); intro e_; exact h_ (by rw [e_]; rfl)) _; refine blk_up ?_; refine blk_far ?_ (by have h_ := Kd.R_ne HO_3.out BK279.out (by decide); intro e_; exact h_ (by rw [e_]; rfl)) _; refine blk_up ?_; exact BK279.out) : p := h
theorem dq93 {p : Prop} (h : p := by repeat (first | (with_reducible first | exact HB.out | apply below_alloc | apply pw_below_drewN | apply below_drew1 | refine below_set ?_ GB16.out | refine below_set ?_ GB18.out | refine below_set ?_ GE279.out) | exact HB.out)) : p := h
theorem dq94 {p : Prop} (h : p := by (try simp only [hl3_20]); (try simp only [hl4_20]); (with_reducible repeat (first | apply Kd.R_alloc | apply Kd.R_drewN | apply Kd.R_drew)); exact HO_4.out) : p := h
theorem dq95 {p : Prop} (h : p := by (try simp only [hl3_20]); (try simp only [hl4_20]); (with_reducible repeat (first | apply Kd.R_alloc | apply Kd.R_drewN | apply Kd.R_drew)); exact Kd.R_mono HO_3.out (fun _ hk => hk.2)) : p := h
theorem dq96 {p : Prop} (h : p := by first | rfl | (simp [errW_none, errW_some] <;> rfl) | (simp only [← hji102]; first | rfl | (simp [errW_none, errW_some] <;> rfl)) | (simp [*, errW_none, errW_some] <;> rfl)) : p := h
theorem dq97 {p : Prop} (h : p := by (with_reducible repeat (first | apply Kd.R_alloc | apply Kd.R_drewN | apply Kd.R_drew)); exact HO_5.out) : p := h
theorem dq98 {p : Prop} (h : p := by (with_reducible repeat (first | apply Kd.V_alloc | apply Kd.V_drewN | apply Kd.V_drew)); exact HO3.out) : p := h
theorem dq99 {p : Prop} (h : p := by repeat (first | (with_reducible first | exact HB.out | apply below_alloc | apply pw_below_drewN | apply below_drew1 | refine below_set ?_ GE310.out) | exact HB.out)) : p := h
theorem dq100 {p : Prop} (h : p := by refine blk_up ?_; refine blk_put (cs := #[.int .i64 ((rd_T93 l0 a1).f0), .bool ((rd_T93 l0 a1).f1), .slice A309_2 ((rd_T93 l0 a1).f2).length c309_2, .int .i64 ((rd_T93 l0 a1).f3), .int .i64 ((rd_T93 l0 a1).f4), .int .i64 ((rd_T93 l0 a1).f5), .int .i64 0]) ?_ 6 _ rfl; refine blk_up ?_; refine blk_put (cs := #[.int .i64 ((rd_T93 l0 a1).f0), .bool ((rd_T93 l0 a1).f1), .slice A309_2 ((rd_T93 l0 a1).f2).length c309_2, .int .i64 ((rd_T93 l0 a1).f3), .int .i64 ((rd_T93 l0 a1).f4), .int .i64 0, .int .i64 0]) ?_ 5 _ rfl; refine blk_up ?_; refine blk_put (cs := #[.int .i64 ((rd_T93 l0 a1).f0), .bool ((rd_T93 l0 a1).f1), .slice A309_2 ((rd_T93 l0 a1).f2).length c309_2, .int .i64 ((rd_T93 l0 a1).f3), .int .i64 0, .int .i64 0, .int .i64 0]) ?_ 4 _ rfl; refine blk_up ?_; refine blk_put (cs := #[.int .i64 ((rd_T93 l0 a1).f0), .bool ((rd_T93 l0 a1).f1), .slice A309_2 ((rd_T93 l0 a1).f2).length c309_2, .int .i64 0, .int .i64 0, .int .i64 0, .int .i64 0]) ?_ 3 _ rfl; refine blk_up ?_; refine blk_put (cs := #[.int .i64 ((rd_T93 l0 a1).f0), .bool ((rd_T93 l0 a1).f1), .slice none 0 0, .int .i64 0, .int .i64 0, .int .i64 0, .int .i64 0]) ?_ 2 _ rfl; refine blk_up ?_; refine blk_put (cs := #[.int .i64 ((rd_T93 l0 a1).f0), .bool false, .slice none 0 0, .int .i64 0, .int .i64 0, .int .i64 0, .int .i64 0]) ?_ 1 _ rfl; refine blk_up ?_; refine blk_put (cs := #[.int .i64 0, .bool false, .slice none 0 0, .int .i64 0, .int .i64 0, .int .i64 0, .int .i64 0]) ?_ 0 _ rfl; refine blk_up ?_; exact BK310.out) : p := h
theorem dq101 {p : Prop} (h : p := by refine blk_up ?_; exact BK310.out) : p := h
theorem dq102 {p : Prop} (h : p := by refine blk_up ?_; refine blk_far ?_ (by have h_ := Kd.R_ne HO_10.out BK310.out (by decide); intro e_; exact h_ (by rw [e_]; rfl)) _; refine blk_up ?_; exact BK310.out) : p := h
theorem dq103 {p : Prop} (h : p := by (with_reducible repeat (first | apply Kd.V_alloc | apply Kd.V_drewN | apply Kd.V_drew)); exact Kd.V_mono (Kd.V_far (p := ⟨gb310, 6, none⟩) (Kd.V_far (p := ⟨gb310, 5, none⟩) (Kd.V_far (p := ⟨gb310, 4, none⟩) (Kd.V_far (p := ⟨gb310, 3, none⟩) (Kd.V_far (p := ⟨gb310, 2, none⟩) (Kd.V_far (p := ⟨gb310, 1, none⟩) (Kd.V_far (p := ⟨gb310, 0, none⟩) (Kd.V_mono HO3.out (fun k_ hk => (⟨hk, hk.2⟩ : _ ∧ k_ ≠ gb310))) (fun _ hk => hk.2) (.int .i64 ((rd_T93 l0 a1).f0))) (fun _ hk => hk.2) (.bool ((rd_T93 l0 a1).f1))) (fun _ hk => hk.2) (.slice A309_2 ((rd_T93 l0 a1).f2).length c309_2)) (fun _ hk => hk.2) (.int .i64 ((rd_T93 l0 a1).f3))) (fun _ hk => hk.2) (.int .i64 ((rd_T93 l0 a1).f4))) (fun _ hk => hk.2) (.int .i64 ((rd_T93 l0 a1).f5))) (fun _ hk => hk.2) (.int .i64 ((rd_T93 l0 a1).f6))) (fun _ hk => ⟨hk.1.1, hk.1.2⟩)) : p := h
theorem dq104 {p : Prop} (h : p := by (with_reducible repeat (first | apply Kd.V_alloc | apply Kd.V_drewN | apply Kd.V_drew)); exact HO_13.out) : p := h
theorem dq105 {p : Prop} (h : p := by (with_reducible repeat (first | apply Kd.V_alloc | apply Kd.V_drewN | apply Kd.V_drew)); exact HO_14.out) : p := h
theorem dq106 {p : Prop} (h : p := by (with_reducible repeat (first | apply Kd.V_alloc | apply Kd.V_drewN | apply Kd.V_drew)); exact HO344.out) : p := h
theorem dq107 {p : Prop} (h : p := by have := HK1.out; have := HK2.out; have := HJ70.out; omega) : p := h
theorem dq108 {p : Prop} (h : p := by (with_reducible repeat (first | apply Kd.R_alloc | apply Kd.R_drewN | apply Kd.R_drew)); exact Kd.R_mono (ok' := fun k_ => w.heap.size ≤ k_ ∧ k_ ≠ gb310) (Kd.R_types HO347.out BK310.out (by decide)) (fun _ hk => ⟨hk.1.1, hk.2⟩)) : p := h
theorem dq109 {p : Prop} (h : p := by (with_reducible repeat (first | apply Kd.R_alloc | apply Kd.R_drewN | apply Kd.R_drew)); exact HO352.out) : p := h
theorem dq110 {p : Prop} (h : p := by rw [hg]; exact Nat.ne_of_gt (blk_lt (g := gb362) (o := .cells #[.int .i64 a0_0, .int .i64 a0_1] 100 (0, 0)) (by refine blk_up ?_; exact BK362.out))) : p := h
theorem dq111 {p : Prop} (h : p := by rw [hg]; exact Nat.ne_of_lt (blk_lt (g := gb362) (o := .cells #[.int .i64 a0_0, .int .i64 a0_1] 100 (0, 0)) (by refine blk_up ?_; exact BK362.out))) : p := h
theorem dq112 {p : Prop} (h : p := by rw [hg]; exact (below_size (by repeat (first | (with_reducible first | exact HB.out | apply below_alloc | apply pw_below_drewN | apply below_drew1 | refine below_set ?_ GE362.out) | exact HB.out)))) : p := h
theorem dq113 {p : Prop} (h : p := by repeat (first | (with_reducible first | exact HB.out | apply below_alloc | apply pw_below_drewN | apply below_drew1 | refine below_set ?_ GE362.out) | exact HB.out)) : p := h
theorem dq114 {p : Prop} (h : p := by refine blk_up ?_; exact BK362.out) : p := h
theorem dq115 {p : Prop} (h : p := by repeat (first | (with_reducible first | exact HB.out | apply below_alloc | apply pw_below_drewN | apply below_drew1 | refine below_set ?_ GE362.out | refine below_set ?_ GE363.out) | exact HB.out)) : p := h
theorem dq116 {p : Prop} (h : p := by rw [hg]; exact Nat.ne_of_gt (blk_lt (g := gb367) (o := .cells #[.int .i64 a0_0, .bool a0_1, .slice A0_2 l0_2.length c0_2, .int .i64 a0_3, .int .i64 a0_4, .int .i64 a0_5, .int .i64 a0_6] 93 (0, 0)) (by refine blk_up ?_; exact BK367.out))) : p := h
theorem dq117 {p : Prop} (h : p := by rw [hg]; exact Nat.ne_of_lt (blk_lt (g := gb367) (o := .cells #[.int .i64 a0_0, .bool a0_1, .slice A0_2 l0_2.length c0_2, .int .i64 a0_3, .int .i64 a0_4, .int .i64 a0_5, .int .i64 a0_6] 93 (0, 0)) (by refine blk_up ?_; exact BK367.out))) : p := h
theorem dq118 {p : Prop} (h : p := by rw [hg]; exact (below_size (by repeat (first | (with_reducible first | exact HB.out | apply below_alloc | apply pw_below_drewN | apply below_drew1 | refine below_set ?_ GE367.out) | exact HB.out)))) : p := h
theorem dq119 {p : Prop} (h : p := by repeat (first | (with_reducible first | exact HB.out | apply below_alloc | apply pw_below_drewN | apply below_drew1 | refine below_set ?_ GE367.out) | exact HB.out)) : p := h
theorem dq120 {p : Prop} (h : p := by refine blk_up ?_; exact BK367.out) : p := h
theorem dq121 {p : Prop} (h : p := by repeat (first | (with_reducible first | exact HB.out | apply below_alloc | apply pw_below_drewN | apply below_drew1 | refine below_set ?_ GE367.out | refine below_set ?_ GE368.out) | exact HB.out)) : p := h
theorem dq122 {p : Prop} (h : p := by refine blk_up ?_; exact BK368.out) : p := h
theorem dq123 {p : Prop} (h : p := by (with_reducible repeat (first | apply Kd.S_alloc | apply Kd.S_drewN | apply Kd.S_drew)); exact HO380.out) : p := h
theorem dq124 {p : Prop} (h : p := by (with_reducible repeat (first | apply Kd.S_alloc | apply Kd.S_drewN | apply Kd.S_drew)); exact HO376.out) : p := h
end Go.Proofs.YtilmhfkbpnejeaaDoorW.PrintWords
namespace Go.Proofs.YtilmhfkbpnejeaaDoorW.PrintLast
open Go.RowKit Go.Proofs.YtilmhfkbpnejeaaDoorW.PrintWords Go.Proofs.YtilmhfkbpnejeaaDoorW.PrintMore
section
variable {P : Program} {md : Region.Mode} {ops : Array Oper} {Q : Exit → Act → World → Prop} {S : World → Prop} {ds : List Nat}
theorem pureA {i : Nat} {N : Option Tmp} {oi : Oper} {v : Value} {fuel : Nat} {l : Array Bool} {a : Act} {w : World} (l' : Array Bool) {a' : Act}
    (h : wpAnyLast P md ops Q S ds fuel l' a' w) (hi : ops[i]? = some oi := by exact rfl) (hN : oi.dst = N := by exact rfl) (hc : anyB md ops l l' i = true := by exact any_of HT_.out (by kernel_rfl))
    (hQ : ∀ c a w, Q (.panic c) (a.put oi.dst v) w → Q (.panic c) a w := by exact fun _ _ _ h => h) (hy : Yields P ops oi v a := by refine Or.inl ⟨by rfl, ?_⟩; intro w'; go_simp; with_reducible rfl)
    (ha : a.put N v = a' := by simp only [Act.put, List.setIfInBounds_toArray, List.set_cons_zero, List.set_cons_succ, i64_w, i32_w]; rfl) : wpAnyLast P md ops Q S ds (fuel + 1) l a w := pure_ l' hi hN hc hQ hy ha h
theorem takeA4 {i : Nat} {N : Option Tmp} {oi : Oper} {v : Value} {fuel : Nat} {l : Array Bool} {a : Act} {w : World} (l' : Array Bool) {a' : Act}
    (h : wpAnyLast P md ops Q S ds fuel l' a' w) (hi : ops[i]? = some oi := by exact rfl) (hN : oi.dst = N := by exact rfl) (hc : takeB md ops ds l l' i = true := by exact take_ofW HT_.out HW_.out (by kernel_rfl))
    (hQ : ∀ c a w, Q (.panic c) (a.put oi.dst v) w → Q (.panic c) a w := by exact fun _ _ _ h => h) (hy : YieldsIf P ops S oi v a := by refine Or.inl ⟨by rfl, ?_⟩; rintro w' ⟨s0, s1, s2, s3⟩; go_simp; with_reducible rfl) (hS : S w := by exact hHeld)
    (ha : a.put N v = a' := by simp only [Act.put, List.setIfInBounds_toArray, List.set_cons_zero, List.set_cons_succ, i64_w, i32_w]; rfl) : wpAnyLast P md ops Q S ds (fuel + 1) l a w := take_ l' hi hN hc hQ hy hS ha h
theorem takeA7 {i : Nat} {N : Option Tmp} {oi : Oper} {v : Value} {fuel : Nat} {l : Array Bool} {a : Act} {w : World} (l' : Array Bool) {a' : Act}
    (h : wpAnyLast P md ops Q S ds fuel l' a' w) (hi : ops[i]? = some oi := by exact rfl) (hN : oi.dst = N := by exact rfl) (hc : takeB md ops ds l l' i = true := by exact take_ofW HT_.out HW_.out (by kernel_rfl))
    (hQ : ∀ c a w, Q (.panic c) (a.put oi.dst v) w → Q (.panic c) a w := by exact fun _ _ _ h => h) (hy : YieldsIf P ops S oi v a := by refine Or.inl ⟨by rfl, ?_⟩; rintro w' ⟨s0, s1, s2, s3, s4, s5, s6⟩; go_simp; with_reducible rfl) (hS : S w := by exact hHeld)
    (ha : a.put N v = a' := by simp only [Act.put, List.setIfInBounds_toArray, List.set_cons_zero, List.set_cons_succ, i64_w, i32_w]; rfl) : wpAnyLast P md ops Q S ds (fuel + 1) l a w := take_ l' hi hN hc hQ hy hS ha h
theorem takeA8 {i : Nat} {N : Option Tmp} {oi : Oper} {v : Value} {fuel : Nat} {l : Array Bool} {a : Act} {w : World} (l' : Array Bool) {a' : Act}
    (h : wpAnyLast P md ops Q S ds fuel l' a' w) (hi : ops[i]? = some oi := by exact rfl) (hN : oi.dst = N := by exact rfl) (hc : takeB md ops ds l l' i = true := by exact take_ofW HT_.out HW_.out (by kernel_rfl))
    (hQ : ∀ c a w, Q (.panic c) (a.put oi.dst v) w → Q (.panic c) a w := by exact fun _ _ _ h => h) (hy : YieldsIf P ops S oi v a := by refine Or.inl ⟨by rfl, ?_⟩; rintro w' ⟨s0, s1, s2, s3, s4, s5, s6, s7⟩; go_simp; with_reducible rfl) (hS : S w := by exact hHeld)
    (ha : a.put N v = a' := by simp only [Act.put, List.setIfInBounds_toArray, List.set_cons_zero, List.set_cons_succ, i64_w, i32_w]; rfl) : wpAnyLast P md ops Q S ds (fuel + 1) l a w := take_ l' hi hN hc hQ hy hS ha h
theorem takeA9 {i : Nat} {N : Option Tmp} {oi : Oper} {v : Value} {fuel : Nat} {l : Array Bool} {a : Act} {w : World} (l' : Array Bool) {a' : Act}
    (h : wpAnyLast P md ops Q S ds fuel l' a' w) (hi : ops[i]? = some oi := by exact rfl) (hN : oi.dst = N := by exact rfl) (hc : takeB md ops ds l l' i = true := by exact take_ofW HT_.out HW_.out (by kernel_rfl))
    (hQ : ∀ c a w, Q (.panic c) (a.put oi.dst v) w → Q (.panic c) a w := by exact fun _ _ _ h => h) (hy : YieldsIf P ops S oi v a := by refine Or.inl ⟨by rfl, ?_⟩; rintro w' ⟨s0, s1, s2, s3, s4, s5, s6, s7, s8⟩; go_simp; with_reducible rfl) (hS : S w := by exact hHeld)
    (ha : a.put N v = a' := by simp only [Act.put, List.setIfInBounds_toArray, List.set_cons_zero, List.set_cons_succ, i64_w, i32_w]; rfl) : wpAnyLast P md ops Q S ds (fuel + 1) l a w := take_ l' hi hN hc hQ hy hS ha h
theorem takeA10 {i : Nat} {N : Option Tmp} {oi : Oper} {v : Value} {fuel : Nat} {l : Array Bool} {a : Act} {w : World} (l' : Array Bool) {a' : Act}
    (h : wpAnyLast P md ops Q S ds fuel l' a' w) (hi : ops[i]? = some oi := by exact rfl) (hN : oi.dst = N := by exact rfl) (hc : takeB md ops ds l l' i = true := by exact take_ofW HT_.out HW_.out (by kernel_rfl))
    (hQ : ∀ c a w, Q (.panic c) (a.put oi.dst v) w → Q (.panic c) a w := by exact fun _ _ _ h => h) (hy : YieldsIf P ops S oi v a := by refine Or.inl ⟨by rfl, ?_⟩; rintro w' ⟨s0, s1, s2, s3, s4, s5, s6, s7, s8, s9⟩; go_simp; with_reducible rfl) (hS : S w := by exact hHeld)
    (ha : a.put N v = a' := by simp only [Act.put, List.setIfInBounds_toArray, List.set_cons_zero, List.set_cons_succ, i64_w, i32_w]; rfl) : wpAnyLast P md ops Q S ds (fuel + 1) l a w := take_ l' hi hN hc hQ hy hS ha h
theorem takeA11 {i : Nat} {N : Option Tmp} {oi : Oper} {v : Value} {fuel : Nat} {l : Array Bool} {a : Act} {w : World} (l' : Array Bool) {a' : Act}
    (h : wpAnyLast P md ops Q S ds fuel l' a' w) (hi : ops[i]? = some oi := by exact rfl) (hN : oi.dst = N := by exact rfl) (hc : takeB md ops ds l l' i = true := by exact take_ofW HT_.out HW_.out (by kernel_rfl))
    (hQ : ∀ c a w, Q (.panic c) (a.put oi.dst v) w → Q (.panic c) a w := by exact fun _ _ _ h => h) (hy : YieldsIf P ops S oi v a := by refine Or.inl ⟨by rfl, ?_⟩; rintro w' ⟨s0, s1, s2, s3, s4, s5, s6, s7, s8, s9, s10⟩; go_simp; with_reducible rfl) (hS : S w := by exact hHeld)
    (ha : a.put N v = a' := by simp only [Act.put, List.setIfInBounds_toArray, List.set_cons_zero, List.set_cons_succ, i64_w, i32_w]; rfl) : wpAnyLast P md ops Q S ds (fuel + 1) l a w := take_ l' hi hN hc hQ hy hS ha h
theorem takeA14 {i : Nat} {N : Option Tmp} {oi : Oper} {v : Value} {fuel : Nat} {l : Array Bool} {a : Act} {w : World} (l' : Array Bool) {a' : Act}
    (h : wpAnyLast P md ops Q S ds fuel l' a' w) (hi : ops[i]? = some oi := by exact rfl) (hN : oi.dst = N := by exact rfl) (hc : takeB md ops ds l l' i = true := by exact take_ofW HT_.out HW_.out (by kernel_rfl))
    (hQ : ∀ c a w, Q (.panic c) (a.put oi.dst v) w → Q (.panic c) a w := by exact fun _ _ _ h => h) (hy : YieldsIf P ops S oi v a := by refine Or.inl ⟨by rfl, ?_⟩; rintro w' ⟨s0, s1, s2, s3, s4, s5, s6, s7, s8, s9, s10, s11, s12, s13⟩; go_simp; with_reducible rfl) (hS : S w := by exact hHeld)
    (ha : a.put N v = a' := by simp only [Act.put, List.setIfInBounds_toArray, List.set_cons_zero, List.set_cons_succ, i64_w, i32_w]; rfl) : wpAnyLast P md ops Q S ds (fuel + 1) l a w := take_ l' hi hN hc hQ hy hS ha h
theorem takeA15 {i : Nat} {N : Option Tmp} {oi : Oper} {v : Value} {fuel : Nat} {l : Array Bool} {a : Act} {w : World} (l' : Array Bool) {a' : Act}
    (h : wpAnyLast P md ops Q S ds fuel l' a' w) (hi : ops[i]? = some oi := by exact rfl) (hN : oi.dst = N := by exact rfl) (hc : takeB md ops ds l l' i = true := by exact take_ofW HT_.out HW_.out (by kernel_rfl))
    (hQ : ∀ c a w, Q (.panic c) (a.put oi.dst v) w → Q (.panic c) a w := by exact fun _ _ _ h => h) (hy : YieldsIf P ops S oi v a := by refine Or.inl ⟨by rfl, ?_⟩; rintro w' ⟨s0, s1, s2, s3, s4, s5, s6, s7, s8, s9, s10, s11, s12, s13, s14⟩; go_simp; with_reducible rfl) (hS : S w := by exact hHeld)
    (ha : a.put N v = a' := by simp only [Act.put, List.setIfInBounds_toArray, List.set_cons_zero, List.set_cons_succ, i64_w, i32_w]; rfl) : wpAnyLast P md ops Q S ds (fuel + 1) l a w := take_ l' hi hN hc hQ hy hS ha h
end
end Go.Proofs.YtilmhfkbpnejeaaDoorW.PrintLast
namespace Go.Proofs.YtilmhfkbpnejeaaDoor.L
open Go.RowKit Go.Proofs.YtilmhfkbpnejeaaDoorW.PrintWords Go.Proofs.YtilmhfkbpnejeaaDoorW.PrintLast Go.Proofs.YtilmhfkbpnejeaaDoorW.PrintMore
attribute [local go_sem] max2_int min2_int max_two min_two max_three min_three max_four min_four
set_option linter.unusedVariables false
set_option linter.unusedSimpArgs false

/-! ### laws_szRangeS: function 105 -/
def laws_szRangeS.f (l0 : List (S154)) (a1 : Int) : Option (Int) := if (wrap64 (a1 - (l0.length : Int))) < 0 then (some (-1)) else (some (wrap64 (a1 - (l0.length : Int))))
set_option maxHeartbeats 8000000 in
set_option maxRecDepth 100000 in
theorem laws_szRangeS.calls (A0 : Option Addr) (c0 : Nat) (l0 : List (S154)) (a1 : Int) (r : Int) (w : World) (hr0 : Kd.C k154 w A0 l0.length l0) (hc0 : l0.length ≤ c0) (h : laws_szRangeS.f l0 a1 = some r) :
  Calls Tryd.prog 105 #[.slice A0 l0.length c0, .int .i64 a1] w fun e w' => e = .returned (.int .i64 r) ∧ Drawn0 w w' := by
 have HR0 := Aside0.mk hr0
 have HC0 := Aside0.mk hc0
 clear hr0 hc0
 have H : (if (wrap64 (a1 - (l0.length : Int))) < 0 then (some (-1)) else (some (wrap64 (a1 - (l0.length : Int))))) = some r := h
 clear h
 by_cases c3 : (wrap64 (a1 - (l0.length : Int))) < 0
 ·rw [if_pos c3] at H
  have c3b0 := decide_eq_true c3
  clear c3
  obtain rfl := Option.some.inj H
  go_enter Tryd.func105, Tryd.ntmps105
  go_wp2
  go_ret
  exact ⟨dq14, dq13⟩
 ·rw [if_neg c3] at H
  have c3b0 := decide_eq_false c3
  clear c3
  obtain rfl := Option.some.inj H
  go_enter Tryd.func105, Tryd.ntmps105
  go_wp2
  go_ret
  exact ⟨dq14, dq13⟩

end Go.Proofs.YtilmhfkbpnejeaaDoor.L

namespace Go.Proofs.YtilmhfkbpnejeaaDoor.L
open Go.RowKit Go.Proofs.YtilmhfkbpnejeaaDoorW.PrintWords Go.Proofs.YtilmhfkbpnejeaaDoorW.PrintLast Go.Proofs.YtilmhfkbpnejeaaDoorW.PrintMore
attribute [local go_sem] max2_int min2_int max_two min_two max_three min_three max_four min_four
set_option linter.unusedVariables false
set_option linter.unusedSimpArgs false

/-! ### laws_szRNode: function 72 -/
def laws_szRNode.f (a0_0 : Int) (a0_1 : Bool) (l0_2 : List (S154)) (a0_3 : Int) (a0_4 : Int) (a0_5 : Int) (a0_6 : Int) (a1 : Int) : Option (Int) := (laws_szRangeS.f l0_2 a1).bind fun t102 => (if t102 < 0 then (some (-1)) else (some t102))
set_option maxHeartbeats 8000000 in
set_option maxRecDepth 100000 in
theorem laws_szRNode.calls (a0_0 : Int) (a0_1 : Bool) (A0_2 : Option Addr) (c0_2 : Nat) (l0_2 : List (S154)) (a0_3 : Int) (a0_4 : Int) (a0_5 : Int) (a0_6 : Int) (a1 : Int) (r : Int) (w : World) (hr0_2 : Kd.C k154 w A0_2 l0_2.length l0_2) (hc0_2 : l0_2.length ≤ c0_2) (h : laws_szRNode.f a0_0 a0_1 l0_2 a0_3 a0_4 a0_5 a0_6 a1 = some r) :
  Calls Tryd.prog 72 #[.agg #[.int .i64 a0_0, .bool a0_1, .slice A0_2 l0_2.length c0_2, .int .i64 a0_3, .int .i64 a0_4, .int .i64 a0_5, .int .i64 a0_6], .int .i64 a1] w fun e w' => e = .returned (.int .i64 r) ∧ Below w.heap.size w w' := by
 have hu88 := Tryd.underlying88
 have HR0_2 := Aside0.mk hr0_2
 have HC0_2 := Aside0.mk hc0_2
 clear hr0_2 hc0_2
 have HB := Aside0.mk (Below.refl w.heap.size w)
 have H : ((laws_szRangeS.f l0_2 a1).bind fun t102 => (if t102 < 0 then (some (-1)) else (some t102))) = some r := h
 clear h
 replace H := Option.bind_eq_some_iff.mp H
 obtain ⟨t102, A30, H⟩ := H
 replace H : (if t102 < 0 then (some (-1)) else (some t102)) = some r := H
 have A3 := Aside0.mk A30
 clear A30
 by_cases c4 : t102 < 0
 ·rw [if_pos c4] at H
  have c4b0 := decide_eq_true c4
  clear c4
  obtain rfl := Option.some.inj H
  go_enter Tryd.func72, Tryd.ntmps72
  go_wp2_with (first | ((with_reducible refine gate_dst (N := 2) rfl ?_); refine box_event ?hg (N := 2) ?hd (cs := #[.int .i64 a0_0, .bool a0_1, .slice A0_2 l0_2.length c0_2, .int .i64 a0_3, .int .i64 a0_4, .int .i64 a0_5, .int .i64 a0_6]) (t := 88) ?hr ?_; (case hd => rfl); (case hg => rfl); (case hr => exact dq0); intro gb101 hg w5 hbox hb; have n0_ := Aside0.mk (below_step dq18 hb); have n1_ := Aside0.mk (hbox); have n2_ := Aside0.mk ((dq17 : w.heap.size ≤ gb101)); have n3_ := Aside0.mk ((dq17 : w.heap.size ≤ gb101)); clear HB; have HB := n0_; have BK101 := n1_; have GW101 := n2_; have GE101 := n3_; clear n0_ n1_ n2_ n3_; clear hb hbox hg; obtain ⟨⟨hcz6_0, hcz6_1, hcz6_2, hcz6_3, hcz6_4, hcz6_5, hcz6_6⟩, hfz6_0, hfz6_1, hfz6_2, hfz6_3, hfz6_4, hfz6_5, hfz6_6⟩ := blkC7 BK101.out) | ((with_reducible refine gate_callee (f := 105) rfl ?_); refine goesL_ (some 8) rfl rfl Tryd.func105 dq16 rfl #[.slice A0_2 l0_2.length c0_2, .int .i64 a1] rfl dq15 ?_; (with_reducible refine (laws_szRangeS.calls _ _ l0_2 a1 t102 _ ?side1 ?side2 A3.out).mono ?_); (case side1 => exact dq1); (case side2 => exact HC0_2.out); rintro e w' ⟨rfl, ⟨nd, rfl⟩⟩; refine ⟨_, rfl, ?_⟩))
  go_ret
  exact ⟨dq20, dq19⟩
 ·rw [if_neg c4] at H
  have c4b0 := decide_eq_false c4
  clear c4
  obtain rfl := Option.some.inj H
  go_enter Tryd.func72, Tryd.ntmps72
  go_wp2_with (first | ((with_reducible refine gate_dst (N := 2) rfl ?_); refine box_event ?hg (N := 2) ?hd (cs := #[.int .i64 a0_0, .bool a0_1, .slice A0_2 l0_2.length c0_2, .int .i64 a0_3, .int .i64 a0_4, .int .i64 a0_5, .int .i64 a0_6]) (t := 88) ?hr ?_; (case hd => rfl); (case hg => rfl); (case hr => exact dq0); intro gb101 hg w7 hbox hb; have n0_ := Aside0.mk (below_step dq18 hb); have n1_ := Aside0.mk (hbox); have n2_ := Aside0.mk ((dq17 : w.heap.size ≤ gb101)); have n3_ := Aside0.mk ((dq17 : w.heap.size ≤ gb101)); clear HB; have HB := n0_; have BK101 := n1_; have GW101 := n2_; have GE101 := n3_; clear n0_ n1_ n2_ n3_; clear hb hbox hg; obtain ⟨⟨hcz8_0, hcz8_1, hcz8_2, hcz8_3, hcz8_4, hcz8_5, hcz8_6⟩, hfz8_0, hfz8_1, hfz8_2, hfz8_3, hfz8_4, hfz8_5, hfz8_6⟩ := blkC7 BK101.out) | ((with_reducible refine gate_callee (f := 105) rfl ?_); refine goesL_ (some 8) rfl rfl Tryd.func105 dq16 rfl #[.slice A0_2 l0_2.length c0_2, .int .i64 a1] rfl dq15 ?_; (with_reducible refine (laws_szRangeS.calls _ _ l0_2 a1 t102 _ ?side1 ?side2 A3.out).mono ?_); (case side1 => exact dq1); (case side2 => exact HC0_2.out); rintro e w' ⟨rfl, ⟨nd, rfl⟩⟩; refine ⟨_, rfl, ?_⟩))
  go_ret
  exact ⟨dq20, dq19⟩

/-! ### laws_szRNodeS: function 32 -/
def laws_szRNodeS.l0 : Nat → List (S88) → Int → Int → Option (Int)
 | 0, _, _, _ => none
 | k + 1, x0, x1, x5 => if x5 < (x0.length : Int) then (if 0 ≤ x5 then ((laws_szRNode.f ((rd_T88 x0 x5).f0) ((rd_T88 x0 x5).f1) ((rd_T88 x0 x5).f2) ((rd_T88 x0 x5).f3) ((rd_T88 x0 x5).f4) ((rd_T88 x0 x5).f5) ((rd_T88 x0 x5).f6) x1).bind fun t104 => (if t104 < 0 then (some (-1)) else (laws_szRNodeS.l0 k x0 t104 (wrap64 (x5 + 1))))) else (none)) else (some x1)
def laws_szRNodeS.f (k : Nat) (l0 : List (S88)) (a1 : Int) : Option (Int) := if (wrap64 (a1 - (l0.length : Int))) < 0 then (some (-1)) else (laws_szRNodeS.l0 k l0 (wrap64 (a1 - (l0.length : Int))) 0)
set_option maxHeartbeats 8000000 in
set_option maxRecDepth 100000 in
theorem laws_szRNodeS.calls (k : Nat) (A0 : Option Addr) (c0 : Nat) (l0 : List (S88)) (a1 : Int) (r : Int) (w : World) (hr0 : Kd.C k88 w A0 l0.length l0) (hc0 : l0.length ≤ c0) (h : laws_szRNodeS.f k l0 a1 = some r) :
  Calls Tryd.prog 32 #[.slice A0 l0.length c0, .int .i64 a1] w fun e w' => e = .returned (.int .i64 r) ∧ Below w.heap.size w w' := by
 have hu88 := Tryd.underlying88
 have HR0 := Aside0.mk hr0
 have HC0 := Aside0.mk hc0
 clear hr0 hc0
 have HB := Aside0.mk (Below.refl w.heap.size w)
 have H : (if (wrap64 (a1 - (l0.length : Int))) < 0 then (some (-1)) else (laws_szRNodeS.l0 k l0 (wrap64 (a1 - (l0.length : Int))) 0)) = some r := h
 clear h
 by_cases c3 : (wrap64 (a1 - (l0.length : Int))) < 0
 ·rw [if_pos c3] at H
  have c3b0 := decide_eq_true c3
  clear c3
  obtain rfl := Option.some.inj H
  go_enter Tryd.func32, Tryd.ntmps32
  go_wp2
  go_ret
  exact ⟨dq20, dq18⟩
 ·rw [if_neg c3] at H
  have c3b0 := decide_eq_false c3
  clear c3
  have H' := Aside0.mk H
  clear H
  go_enter Tryd.func32, Tryd.ntmps32
  go_wp2
  go_loopg [1, 5] k (fun kq v1 v5 w' => ∃ (x1_1 : Int) (x5_1 : Int), v1 = .int .i64 x1_1 ∧ v5 = .int .i64 x5_1 ∧ Aside0 (laws_szRNodeS.l0 kq l0 x1_1 x5_1 = some r) ∧ Aside0 (kq ≤ k) ∧ Aside0 (Below w.heap.size w w'))
  case atStart => exact ⟨(wrap64 (a1 - (l0.length : Int))), (0), dq14, dq14, H', ⟨Nat.le_refl _⟩, ⟨dq18⟩⟩
  case round =>
   clear H'
   try clear p2
   try clear c3
   try clear c3b0
   obtain ⟨x1_1, x5_1, rfl, rfl, HA, HK1, HB⟩ := hrel
   cases gk with
   | zero => exact absurd HA.out (by simp [laws_szRNodeS.l0])
   | succ k1 =>
    have H := HA.out
    clear HA
    simp only [laws_szRNodeS.l0] at H
    by_cases c4 : x5_1 < (l0.length : Int)
    ·rw [if_pos c4] at H
     have c4b0 := decide_eq_true c4
     clear c4
     by_cases c5 : 0 ≤ x5_1
     ·rw [if_pos c5] at H
      have c5b0 := decide_eq_true c5
      clear c5
      replace H := Option.bind_eq_some_iff.mp H
      obtain ⟨t104, A60, H⟩ := H
      replace H : (if t104 < 0 then (some (-1)) else (laws_szRNodeS.l0 k1 l0 t104 (wrap64 (x5_1 + 1)))) = some r := H
      have A6 := Aside0.mk A60
      clear A60
      by_cases c7 : t104 < 0
      ·rw [if_pos c7] at H
       have c7b0 := decide_eq_true c7
       clear c7
       obtain rfl := Option.some.inj H
       have p103 : 0 ≤ (x5_1 : Int) := of_decide_eq_true dq21
       have q103 : x5_1 < (l0.length : Int) := of_decide_eq_true dq21
       obtain ⟨ad103, A103_2, c103_2, e103, hx103_0, hx103_1, hx103_2, hx103_3, hx103_4, hx103_5, hx103_6, hl103_2, hi103_2⟩ := at_T88 HR0.out x5_1 p103 q103
       cases e103
       replace hx103_0 := (HB.out.cell (World.block_lt_of_cell? w _ hx103_0)).trans hx103_0
       replace hx103_1 := (HB.out.cell (World.block_lt_of_cell? w _ hx103_1)).trans hx103_1
       replace hx103_2 := (HB.out.cell (World.block_lt_of_cell? w _ hx103_2)).trans hx103_2
       replace hx103_3 := (HB.out.cell (World.block_lt_of_cell? w _ hx103_3)).trans hx103_3
       replace hx103_4 := (HB.out.cell (World.block_lt_of_cell? w _ hx103_4)).trans hx103_4
       replace hx103_5 := (HB.out.cell (World.block_lt_of_cell? w _ hx103_5)).trans hx103_5
       replace hx103_6 := (HB.out.cell (World.block_lt_of_cell? w _ hx103_6)).trans hx103_6
       have HR103_2 := Aside0.mk hi103_2
       have HC103_2 := Aside0.mk hl103_2
       clear hi103_2 hl103_2
       replace p103 := eq_true p103
       replace q103 := eq_true q103
       go_wp2_with (first | ((with_reducible refine gate_callee (f := 72) rfl ?_); refine goesL_ (some 23) rfl rfl Tryd.func72 dq16 rfl #[.agg #[.int .i64 ((rd_T88 l0 x5_1).f0), .bool ((rd_T88 l0 x5_1).f1), .slice A103_2 ((rd_T88 l0 x5_1).f2).length c103_2, .int .i64 ((rd_T88 l0 x5_1).f3), .int .i64 ((rd_T88 l0 x5_1).f4), .int .i64 ((rd_T88 l0 x5_1).f5), .int .i64 ((rd_T88 l0 x5_1).f6)], .int .i64 x1_1] rfl dq15 ?_; (with_reducible refine (laws_szRNode.calls ((rd_T88 l0 x5_1).f0) ((rd_T88 l0 x5_1).f1) _ _ ((rd_T88 l0 x5_1).f2) ((rd_T88 l0 x5_1).f3) ((rd_T88 l0 x5_1).f4) ((rd_T88 l0 x5_1).f5) ((rd_T88 l0 x5_1).f6) x1_1 t104 _ ?side1 ?side2 A6.out).mono ?_); (case side1 => repeat (first | exact (Kd.C_below HR103_2.out HB.out) | (with_reducible refine Kd.C_alloc ?_ _) | (with_reducible refine Kd.C_drewN ?_ _) | (with_reducible refine Kd.C_drew ?_))); (case side2 => exact HC103_2.out); rintro e w8 ⟨rfl, hb⟩; refine ⟨_, rfl, ?_⟩; have n0_ := Aside0.mk (below_step dq18 hb); clear HB; have HB := n0_; clear n0_; (try clear hb); (try clear hb2); (try clear hk); (try clear hi)))
       go_ret
       exact ⟨dq20, dq18⟩
      ·rw [if_neg c7] at H
       have c7b0 := decide_eq_false c7
       clear c7
       have H' := Aside0.mk H
       clear H
       have p103 : 0 ≤ (x5_1 : Int) := of_decide_eq_true dq21
       have q103 : x5_1 < (l0.length : Int) := of_decide_eq_true dq21
       obtain ⟨ad103, A103_2, c103_2, e103, hx103_0, hx103_1, hx103_2, hx103_3, hx103_4, hx103_5, hx103_6, hl103_2, hi103_2⟩ := at_T88 HR0.out x5_1 p103 q103
       cases e103
       replace hx103_0 := (HB.out.cell (World.block_lt_of_cell? w _ hx103_0)).trans hx103_0
       replace hx103_1 := (HB.out.cell (World.block_lt_of_cell? w _ hx103_1)).trans hx103_1
       replace hx103_2 := (HB.out.cell (World.block_lt_of_cell? w _ hx103_2)).trans hx103_2
       replace hx103_3 := (HB.out.cell (World.block_lt_of_cell? w _ hx103_3)).trans hx103_3
       replace hx103_4 := (HB.out.cell (World.block_lt_of_cell? w _ hx103_4)).trans hx103_4
       replace hx103_5 := (HB.out.cell (World.block_lt_of_cell? w _ hx103_5)).trans hx103_5
       replace hx103_6 := (HB.out.cell (World.block_lt_of_cell? w _ hx103_6)).trans hx103_6
       have HR103_2 := Aside0.mk hi103_2
       have HC103_2 := Aside0.mk hl103_2
       clear hi103_2 hl103_2
       replace p103 := eq_true p103
       replace q103 := eq_true q103
       go_wp2_with (first | ((with_reducible refine gate_callee (f := 72) rfl ?_); refine goesL_ (some 23) rfl rfl Tryd.func72 dq16 rfl #[.agg #[.int .i64 ((rd_T88 l0 x5_1).f0), .bool ((rd_T88 l0 x5_1).f1), .slice A103_2 ((rd_T88 l0 x5_1).f2).length c103_2, .int .i64 ((rd_T88 l0 x5_1).f3), .int .i64 ((rd_T88 l0 x5_1).f4), .int .i64 ((rd_T88 l0 x5_1).f5), .int .i64 ((rd_T88 l0 x5_1).f6)], .int .i64 x1_1] rfl dq15 ?_; (with_reducible refine (laws_szRNode.calls ((rd_T88 l0 x5_1).f0) ((rd_T88 l0 x5_1).f1) _ _ ((rd_T88 l0 x5_1).f2) ((rd_T88 l0 x5_1).f3) ((rd_T88 l0 x5_1).f4) ((rd_T88 l0 x5_1).f5) ((rd_T88 l0 x5_1).f6) x1_1 t104 _ ?side1 ?side2 A6.out).mono ?_); (case side1 => repeat (first | exact (Kd.C_below HR103_2.out HB.out) | (with_reducible refine Kd.C_alloc ?_ _) | (with_reducible refine Kd.C_drewN ?_ _) | (with_reducible refine Kd.C_drew ?_))); (case side2 => exact HC103_2.out); rintro e w9 ⟨rfl, hb⟩; refine ⟨_, rfl, ?_⟩; have n0_ := Aside0.mk (below_step dq18 hb); clear HB; have HB := n0_; clear n0_; (try clear hb); (try clear hb2); (try clear hk); (try clear hi)))
       go_roundg k1
       case measure => have := HK1.out; omega
       case rel => exact ⟨(t104), (wrap64 (x5_1 + 1)), dq14, dq14, H', ⟨dq22⟩, ⟨dq18⟩⟩
     ·rw [if_neg c5] at H
      exact absurd H dq23
    ·rw [if_neg c4] at H
     have c4b0 := decide_eq_false c4
     clear c4
     obtain rfl := Option.some.inj H
     go_wp2
     go_ret
     exact ⟨dq20, dq18⟩

/-! ### spec_l1In: function 90 -/
def spec_l1In.f (a0 : Int) (a1 : Int) (a2 : Int) : Option (Bool) := if a0 ≥ a1 then (some (decide (a0 ≤ a2))) else (some false)
set_option maxHeartbeats 8000000 in
set_option maxRecDepth 100000 in
theorem spec_l1In.calls (a0 : Int) (a1 : Int) (a2 : Int) (r : Bool) (w : World) (h : spec_l1In.f a0 a1 a2 = some r) :
  Calls Tryd.prog 90 #[.int .i64 a0, .int .i64 a1, .int .i64 a2] w fun e w' => e = .returned (.bool r) ∧ Drawn0 w w' := by
 have H : (if a0 ≥ a1 then (some (decide (a0 ≤ a2))) else (some false)) = some r := h
 clear h
 by_cases c4 : a0 ≥ a1
 ·rw [if_pos c4] at H
  have c4b0 : decide (a1 ≤ a0) = true := decide_eq_true c4
  clear c4
  obtain rfl := Option.some.inj H
  go_enter Tryd.func90, Tryd.ntmps90
  go_wp2
  go_ret
  exact ⟨dq14, dq13⟩
 ·rw [if_neg c4] at H
  have c4b0 : decide (a1 ≤ a0) = false := decide_eq_false c4
  clear c4
  obtain rfl := Option.some.inj H
  go_enter Tryd.func90, Tryd.ntmps90
  go_wp2
  go_ret
  exact ⟨dq14, dq13⟩

/-! ### spec_l1Char: function 122 -/
def spec_l1Char.f (a0 : Int) : Option (Bool) := (spec_l1In.f a0 0 55295).bind fun t105 => (if t105 = true then (some true) else ((spec_l1In.f a0 57344 1114111).bind fun t106 => (some t106)))
set_option maxHeartbeats 8000000 in
set_option maxRecDepth 100000 in
theorem spec_l1Char.calls (a0 : Int) (r : Bool) (w : World) (h : spec_l1Char.f a0 = some r) :
  Calls Tryd.prog 122 #[.int .i64 a0] w fun e w' => e = .returned (.bool r) ∧ Drawn0 w w' := by
 have H : ((spec_l1In.f a0 0 55295).bind fun t105 => (if t105 = true then (some true) else ((spec_l1In.f a0 57344 1114111).bind fun t106 => (some t106)))) = some r := h
 clear h
 replace H := Option.bind_eq_some_iff.mp H
 obtain ⟨t105, A20, H⟩ := H
 replace H : (if t105 = true then (some true) else ((spec_l1In.f a0 57344 1114111).bind fun t106 => (some t106))) = some r := H
 have A2 := Aside0.mk A20
 clear A20
 by_cases c3 : t105 = true
 ·subst c3
  have H1 : (some true) = some r := by rw [if_pos rfl] at H; exact H
  clear H
  have H := H1
  clear H1
  obtain rfl := Option.some.inj H
  go_enter Tryd.func122, Tryd.ntmps122
  go_wp2_with (first | ((with_reducible refine gate_callee (f := 90) rfl ?_); refine goesL_ (some 4) rfl rfl Tryd.func90 dq16 rfl #[.int .i64 a0, .int .i64 0, .int .i64 55295] rfl dq15 ?_; (with_reducible refine (spec_l1In.calls a0 0 55295 true _ A2.out).mono ?_); rintro e w' ⟨rfl, ⟨nd, rfl⟩⟩; refine ⟨_, rfl, ?_⟩))
  go_ret
  exact ⟨dq14, dq13⟩
 ·replace c3 := Bool.eq_false_iff.mpr c3
  subst c3
  have H1 : ((spec_l1In.f a0 57344 1114111).bind fun t106 => (some t106)) = some r := by rw [if_neg (show ¬ (false = true) by decide)] at H; exact H
  clear H
  have H := H1
  clear H1
  replace H := Option.bind_eq_some_iff.mp H
  obtain ⟨t106, A40, H⟩ := H
  replace H : (some t106) = some r := H
  have A4 := Aside0.mk A40
  clear A40
  obtain rfl := Option.some.inj H
  go_enter Tryd.func122, Tryd.ntmps122
  go_wp2_with (first | ((with_reducible refine gate_callee (f := 90) rfl ?_); refine goesL_ (some 4) rfl rfl Tryd.func90 dq16 rfl #[.int .i64 a0, .int .i64 0, .int .i64 55295] rfl dq15 ?_; (with_reducible refine (spec_l1In.calls a0 0 55295 false _ A2.out).mono ?_); rintro e w' ⟨rfl, ⟨nd, rfl⟩⟩; refine ⟨_, rfl, ?_⟩) | (go_at_call 90; (with_reducible refine (spec_l1In.calls a0 57344 1114111 t106 _ A4.out).mono ?_); rintro e w' ⟨rfl, ⟨nd, rfl⟩⟩))
  go_ret
  exact ⟨dq14, dq13⟩

/-! ### spec_l1Rune: function 89 -/
mutual
def spec_l1Rune.j2 : Nat → ByteArray → Int → Int → Int → Option (Int × Int)
 | 0, _, _, _, _ => none
 | k + 1, x0, x4, x5, x6 => if (x0.size : Int) < x5 then (some (0, 0)) else (spec_l1Rune.l0 k x0 x4 x5 x6 1)
def spec_l1Rune.l0 : Nat → ByteArray → Int → Int → Int → Int → Option (Int × Int)
 | 0, _, _, _, _, _ => none
 | k + 1, x0, x4, x5, x6, x7 => if x7 < x5 then (if 0 ≤ x7 then (if x7 < (x0.size : Int) then (if (bt x0 x7) < 128 then (some (0, 0)) else (if (bt x0 x7) ≥ 192 then (some (0, 0)) else (spec_l1Rune.l0 k x0 (wrap64 ((wrap64 (64 * x4)) + (wrap64 (Int.tmod (bt x0 x7) 64)))) x5 x6 (wrap64 (x7 + 1))))) else (none)) else (none)) else (if x4 < x6 then (some (0, 0)) else ((spec_l1Char.f x4).bind fun t107 => (if t107 = true then (some (x4, x5)) else (some (0, 0)))))
def spec_l1Rune.j0 : Nat → ByteArray → Int → Bool → Option (Int × Int)
 | 0, _, _, _ => none
 | k + 1, x0, x4, x17 => if x17 = true then (spec_l1Rune.j2 k x0 (Int.tmod x4 32) 2 128) else (if x4 ≥ 224 then (spec_l1Rune.j1 k x0 x4 (decide (x4 < 240))) else (spec_l1Rune.j1 k x0 x4 false))
def spec_l1Rune.j1 : Nat → ByteArray → Int → Bool → Option (Int × Int)
 | 0, _, _, _ => none
 | k + 1, x0, x4, x26 => if x26 = true then (spec_l1Rune.j2 k x0 (Int.tmod x4 16) 3 2048) else (if x4 ≥ 240 then (if x4 < 248 then (spec_l1Rune.j2 k x0 (Int.tmod x4 8) 4 65536) else (some (0, 0))) else (some (0, 0)))
end
def spec_l1Rune.f (k : Nat) (a0 : ByteArray) : Option (Int × Int) := if a0.toList = ([] : List UInt8) then (some (0, 0)) else (if 0 < (a0.size : Int) then (if (wrap64 (bt a0 0)) < 128 then (some (wrap64 (bt a0 0), 1)) else (if (wrap64 (bt a0 0)) ≥ 192 then (spec_l1Rune.j0 k a0 (wrap64 (bt a0 0)) (decide ((wrap64 (bt a0 0)) < 224))) else (spec_l1Rune.j0 k a0 (wrap64 (bt a0 0)) false))) else (none))
set_option maxHeartbeats 8000000 in
set_option maxRecDepth 100000 in
theorem spec_l1Rune.calls (k : Nat) (a0 : ByteArray) (r1 : Int) (r2 : Int) (w : World) (h : spec_l1Rune.f k a0 = some (r1, r2)) :
  Calls Tryd.prog 89 #[.string a0] w fun e w' => e = .returned (.tuple #[.int .i64 r1, .int .i64 r2]) ∧ Drawn0 w w' := by
 have H : (if a0.toList = ([] : List UInt8) then (some (0, 0)) else (if 0 < (a0.size : Int) then (if (wrap64 (bt a0 0)) < 128 then (some (wrap64 (bt a0 0), 1)) else (if (wrap64 (bt a0 0)) ≥ 192 then (spec_l1Rune.j0 k a0 (wrap64 (bt a0 0)) (decide ((wrap64 (bt a0 0)) < 224))) else (spec_l1Rune.j0 k a0 (wrap64 (bt a0 0)) false))) else (none))) = some (r1, r2) := h
 clear h
 by_cases c2 : a0.toList = ([] : List UInt8)
 ·rw [if_pos c2] at H
  have c2b0 := beq_iff_eq.mpr c2
  have c2b1 := bne_eq_false_iff_eq.mpr c2
  clear c2
  simp only [Option.some.injEq, Prod.mk.injEq] at H
  obtain ⟨rfl, rfl⟩ := H
  go_enter Tryd.func89, Tryd.ntmps89
  go_wp2
  go_ret2
  exact ⟨dq14, dq13⟩
 ·rw [if_neg c2] at H
  have c2b0 := beq_eq_false_iff_ne.mpr c2
  have c2b1 := bne_iff_ne.mpr c2
  by_cases c3 : 0 < (a0.size : Int)
  ·rw [if_pos c3] at H
   have c3b0 := decide_eq_true c3
   have c3b1 : decide (0 < a0.size) = true := decide_eq_true dq24
   clear c3
   have HC5 := Aside0.mk H
   clear H
   have p4 : 0 ≤ (0 : Int) := dq24
   have q4 : 0 < a0.size := (by have : (0 : Int) < (a0.size : Int) := of_decide_eq_true dq21; omega)
   have hx4 : ∀ h : 0 < a0.size, ((a0[0]'h).toNat : Int) = bt a0 0 := bt_at a0 0
   clear p4
   have qi4 : (0 < (a0.size : Int)) = True := eq_true (of_decide_eq_true dq21)
   replace q4 := eq_true q4
   go_enter Tryd.func89, Tryd.ntmps89
   go_upto_block 0 with (fail)
   go_cut [4, 5, 6] (fun v4 v5 v6 wc => ∃ (kq : Nat) (x4_4 : Int) (x5_4 : Int) (x6_4 : Int), v4 = .int .i64 x4_4 ∧ v5 = .int .i64 x5_4 ∧ v6 = .int .i64 x6_4 ∧ Aside0 (spec_l1Rune.j2 kq a0 x4_4 x5_4 x6_4 = some (r1, r2)) ∧ Aside0 (kq ≤ k) ∧ Drawn0 w wc)
   case first =>
    have H := HC5.out
    clear HC5
    by_cases c6 : (wrap64 (bt a0 0)) < 128
    ·rw [if_pos c6] at H
     have c6b0 := decide_eq_true c6
     clear c6
     (first | rw [c6b0] | (simp only [i64_w, i32_w]; rw [c6b0]) | skip)
     simp only [Option.some.injEq, Prod.mk.injEq] at H
     obtain ⟨rfl, rfl⟩ := H
     go_wp2
     go_ret2
     exact ⟨dq14, dq13⟩
    ·rw [if_neg c6] at H
     have c6b0 := decide_eq_false c6
     clear c6
     (first | rw [c6b0] | (simp only [i64_w, i32_w]; rw [c6b0]) | skip)
     have HC7 := Aside0.mk H
     clear H
     go_upto_region 9 with (fail)
     go_cut [17] (fun v17 wc => ∃ (kq : Nat) (x17_6 : Bool), v17 = .bool x17_6 ∧ Aside0 (spec_l1Rune.j0 kq a0 (wrap64 (bt a0 0)) x17_6 = some (r1, r2)) ∧ Aside0 (kq ≤ k) ∧ Drawn0 w wc)
     case first =>
      have H := HC7.out
      clear HC7
      by_cases c8 : (wrap64 (bt a0 0)) ≥ 192
      ·rw [if_pos c8] at H
       have c8b0 : decide (192 ≤ (wrap64 (bt a0 0))) = true := decide_eq_true c8
       clear c8
       (first | rw [c8b0] | (simp only [i64_w, i32_w]; rw [c8b0]) | skip)
       have H' := Aside0.mk H
       clear H
       go_wp2
       go_meet
       case rel => exact ⟨_, (decide ((wrap64 (bt a0 0)) < 224)), dq14, H', ⟨dq25⟩, dq13⟩
      ·rw [if_neg c8] at H
       have c8b0 : decide (192 ≤ (wrap64 (bt a0 0))) = false := decide_eq_false c8
       clear c8
       (first | rw [c8b0] | (simp only [i64_w, i32_w]; rw [c8b0]) | skip)
       have H' := Aside0.mk H
       clear H
       go_wp2
       go_meet
       case rel => exact ⟨_, (false), dq14, H', ⟨dq25⟩, dq13⟩
     case rest =>
      clear HC7
      try clear c2
      try clear c2b0
      try clear c2b1
      try clear p2
      try clear c3
      try clear c3b0
      try clear c3b1
      try clear p4
      try clear q4
      try clear hx4
      try clear qi4
      try clear c6
      try clear c6b0
      try clear p6
      try clear c8
      try clear c8b0
      try clear p4
      try clear q4
      obtain ⟨kq, x17_6, rfl, HA, HJ6, ⟨mc6, rfl⟩⟩ := hcut
      cases kq with
      | zero => exact absurd HA.out (by simp [spec_l1Rune.j0])
      | succ kj6 =>
       have H := HA.out
       clear HA
       simp only [spec_l1Rune.j0] at H
       by_cases c9 : x17_6 = true
       ·subst c9
        have H1 : (spec_l1Rune.j2 kj6 a0 (Int.tmod (wrap64 (bt a0 0)) 32) 2 128) = some (r1, r2) := by rw [if_pos rfl] at H; exact H
        clear H
        have H := H1
        clear H1
        have H' := Aside0.mk H
        clear H
        go_wp2
        go_meet
        case rel => exact ⟨_, (Int.tmod (wrap64 (bt a0 0)) 32), (2), (128), dq14, dq14, dq14, H', ⟨by have := HJ6.out; first | omega | exact Nat.le_refl _⟩, dq13⟩
       ·replace c9 := Bool.eq_false_iff.mpr c9
        subst c9
        have H1 : (if (wrap64 (bt a0 0)) ≥ 224 then (spec_l1Rune.j1 kj6 a0 (wrap64 (bt a0 0)) (decide ((wrap64 (bt a0 0)) < 240))) else (spec_l1Rune.j1 kj6 a0 (wrap64 (bt a0 0)) false)) = some (r1, r2) := by rw [if_neg (show ¬ (false = true) by decide)] at H; exact H
        clear H
        have H := H1
        clear H1
        have HC10 := Aside0.mk H
        clear H
        go_upto_region 13 with (fail)
        go_cut [26] (fun v26 wc => ∃ (kq : Nat) (x26_9 : Bool), v26 = .bool x26_9 ∧ Aside0 (spec_l1Rune.j1 kq a0 (wrap64 (bt a0 0)) x26_9 = some (r1, r2)) ∧ Aside0 (kq ≤ kj6) ∧ Drawn0 w wc)
        case first =>
         have H := HC10.out
         clear HC10
         by_cases c11 : (wrap64 (bt a0 0)) ≥ 224
         ·rw [if_pos c11] at H
          have c11b0 : decide (224 ≤ (wrap64 (bt a0 0))) = true := decide_eq_true c11
          clear c11
          (first | rw [c11b0] | (simp only [i64_w, i32_w]; rw [c11b0]) | skip)
          have H' := Aside0.mk H
          clear H
          go_wp2
          go_meet
          case rel => exact ⟨_, (decide ((wrap64 (bt a0 0)) < 240)), dq14, H', ⟨by have := HJ6.out; first | omega | exact Nat.le_refl _⟩, dq13⟩
         ·rw [if_neg c11] at H
          have c11b0 : decide (224 ≤ (wrap64 (bt a0 0))) = false := decide_eq_false c11
          clear c11
          (first | rw [c11b0] | (simp only [i64_w, i32_w]; rw [c11b0]) | skip)
          have H' := Aside0.mk H
          clear H
          go_wp2
          go_meet
          case rel => exact ⟨_, (false), dq14, H', ⟨by have := HJ6.out; first | omega | exact Nat.le_refl _⟩, dq13⟩
        case rest =>
         clear HC10
         try clear c1
         try clear c2
         try clear c2b0
         try clear c2b1
         try clear p2
         try clear c3
         try clear c3b0
         try clear c3b1
         try clear p4
         try clear q4
         try clear hx4
         try clear qi4
         try clear c6
         try clear c6b0
         try clear p6
         try clear c8
         try clear c8b0
         try clear c9
         try clear c11
         try clear c11b0
         try clear p2
         try clear p4
         try clear p6
         try clear q4
         obtain ⟨kq, x26_9, rfl, HA, HJ9, ⟨mc9, rfl⟩⟩ := hcut
         cases kq with
         | zero => exact absurd HA.out (by simp [spec_l1Rune.j1])
         | succ kj9 =>
          have H := HA.out
          clear HA
          simp only [spec_l1Rune.j1] at H
          by_cases c12 : x26_9 = true
          ·subst c12
           have H1 : (spec_l1Rune.j2 kj9 a0 (Int.tmod (wrap64 (bt a0 0)) 16) 3 2048) = some (r1, r2) := by rw [if_pos rfl] at H; exact H
           clear H
           have H := H1
           clear H1
           have H' := Aside0.mk H
           clear H
           go_wp2
           go_meet
           case rel => exact ⟨_, (Int.tmod (wrap64 (bt a0 0)) 16), (3), (2048), dq14, dq14, dq14, H', ⟨by have := HJ6.out; have := HJ9.out; first | omega | exact Nat.le_refl _⟩, dq13⟩
          ·replace c12 := Bool.eq_false_iff.mpr c12
           subst c12
           have H1 : (if (wrap64 (bt a0 0)) ≥ 240 then (if (wrap64 (bt a0 0)) < 248 then (spec_l1Rune.j2 kj9 a0 (Int.tmod (wrap64 (bt a0 0)) 8) 4 65536) else (some (0, 0))) else (some (0, 0))) = some (r1, r2) := by rw [if_neg (show ¬ (false = true) by decide)] at H; exact H
           clear H
           have H := H1
           clear H1
           by_cases c13 : (wrap64 (bt a0 0)) ≥ 240
           ·rw [if_pos c13] at H
            have c13b0 : decide (240 ≤ (wrap64 (bt a0 0))) = true := decide_eq_true c13
            clear c13
            by_cases c14 : (wrap64 (bt a0 0)) < 248
            ·rw [if_pos c14] at H
             have c14b0 := decide_eq_true c14
             clear c14
             have H' := Aside0.mk H
             clear H
             go_wp2
             go_meet
             case rel => exact ⟨_, (Int.tmod (wrap64 (bt a0 0)) 8), (4), (65536), dq14, dq14, dq14, H', ⟨by have := HJ6.out; have := HJ9.out; first | omega | exact Nat.le_refl _⟩, dq13⟩
            ·rw [if_neg c14] at H
             have c14b0 := decide_eq_false c14
             clear c14
             simp only [Option.some.injEq, Prod.mk.injEq] at H
             obtain ⟨rfl, rfl⟩ := H
             go_wp2
             go_ret2
             exact ⟨dq14, dq13⟩
           ·rw [if_neg c13] at H
            have c13b0 : decide (240 ≤ (wrap64 (bt a0 0))) = false := decide_eq_false c13
            clear c13
            simp only [Option.some.injEq, Prod.mk.injEq] at H
            obtain ⟨rfl, rfl⟩ := H
            go_wp2
            go_ret2
            exact ⟨dq14, dq13⟩
   case rest =>
    clear HC5
    try clear c1
    try clear c2
    try clear c2b0
    try clear c2b1
    try clear p2
    try clear c3
    try clear c3b0
    try clear c3b1
    try clear p4
    try clear q4
    try clear hx4
    try clear qi4
    try clear c6
    try clear c6b0
    try clear p6
    try clear c8
    try clear c8b0
    try clear c9
    try clear c11
    try clear c11b0
    try clear c12
    try clear c13
    try clear c13b0
    try clear c14
    try clear c14b0
    try clear p2
    try clear p4
    try clear p6
    try clear q4
    obtain ⟨kq, x4_4, x5_4, x6_4, rfl, rfl, rfl, HA, HJ4, ⟨mc4, rfl⟩⟩ := hcut
    cases kq with
    | zero => exact absurd HA.out (by simp [spec_l1Rune.j2])
    | succ kj4 =>
     have H := HA.out
     clear HA
     simp only [spec_l1Rune.j2] at H
     by_cases c15 : (a0.size : Int) < x5_4
     ·rw [if_pos c15] at H
      have c15b0 := decide_eq_true c15
      clear c15
      simp only [Option.some.injEq, Prod.mk.injEq] at H
      obtain ⟨rfl, rfl⟩ := H
      go_wp2
      go_ret2
      exact ⟨dq14, dq13⟩
     ·rw [if_neg c15] at H
      have c15b0 := decide_eq_false c15
      clear c15
      have H' := Aside0.mk H
      clear H
      go_wp2
      go_loopg [4, 7] kj4 (fun kq v4 v7 w' => ∃ (x4_2 : Int) (x7_2 : Int), v4 = .int .i64 x4_2 ∧ v7 = .int .i64 x7_2 ∧ Aside0 (spec_l1Rune.l0 kq a0 x4_2 x5_4 x6_4 x7_2 = some (r1, r2)) ∧ Aside0 (kq ≤ kj4) ∧ Drawn0 w w')
      case atStart => exact ⟨(x4_4), (1), dq14, dq14, H', ⟨Nat.le_refl _⟩, dq13⟩
      case round =>
       clear H'
       try clear c1
       try clear c2
       try clear c2b0
       try clear c2b1
       try clear p2
       try clear c3
       try clear c3b0
       try clear c3b1
       try clear c4
       try clear p4
       try clear q4
       try clear hx4
       try clear qi4
       try clear c6
       try clear c6b0
       try clear p6
       try clear c8
       try clear c8b0
       try clear c9
       try clear c11
       try clear c11b0
       try clear c12
       try clear c13
       try clear c13b0
       try clear c14
       try clear c14b0
       try clear c15
       try clear c15b0
       try clear p2
       try clear p4
       try clear p6
       try clear q4
       obtain ⟨x4_2, x7_2, rfl, rfl, HA, HK2, ⟨m2, rfl⟩⟩ := hrel
       cases gk with
       | zero => exact absurd HA.out (by simp [spec_l1Rune.l0])
       | succ k2 =>
        have H := HA.out
        clear HA
        simp only [spec_l1Rune.l0] at H
        by_cases c16 : x7_2 < x5_4
        ·rw [if_pos c16] at H
         have c16b0 := decide_eq_true c16
         clear c16
         by_cases c17 : 0 ≤ x7_2
         ·rw [if_pos c17] at H
          have c17b0 := decide_eq_true c17
          clear c17
          by_cases c18 : x7_2 < (a0.size : Int)
          ·rw [if_pos c18] at H
           have c18b0 := decide_eq_true c18
           clear c18
           by_cases c20 : (bt a0 x7_2) < 128
           ·rw [if_pos c20] at H
            have c20b0 := decide_eq_true c20
            clear c20
            simp only [Option.some.injEq, Prod.mk.injEq] at H
            obtain ⟨rfl, rfl⟩ := H
            have p19 : 0 ≤ (x7_2 : Int) := of_decide_eq_true dq21
            have q19 : x7_2 < (a0.size : Int) := of_decide_eq_true dq21
            have hx19 := bt_at a0 x7_2
            replace p19 := eq_true p19
            replace q19 := eq_true q19
            go_wp2
            go_ret2
            exact ⟨dq14, dq13⟩
           ·rw [if_neg c20] at H
            have c20b0 := decide_eq_false c20
            clear c20
            by_cases c22 : (bt a0 x7_2) ≥ 192
            ·rw [if_pos c22] at H
             have c22b0 : decide (192 ≤ (bt a0 x7_2)) = true := decide_eq_true c22
             clear c22
             simp only [Option.some.injEq, Prod.mk.injEq] at H
             obtain ⟨rfl, rfl⟩ := H
             have p19 : 0 ≤ (x7_2 : Int) := of_decide_eq_true dq21
             have q19 : x7_2 < (a0.size : Int) := of_decide_eq_true dq21
             have hx19 := bt_at a0 x7_2
             replace p19 := eq_true p19
             replace q19 := eq_true q19
             have p21 : 0 ≤ (x7_2 : Int) := of_decide_eq_true dq21
             have q21 : x7_2 < (a0.size : Int) := of_decide_eq_true dq21
             have hx21 := bt_at a0 x7_2
             replace p21 := eq_true p21
             replace q21 := eq_true q21
             go_wp2
             go_ret2
             exact ⟨dq14, dq13⟩
            ·rw [if_neg c22] at H
             have c22b0 : decide (192 ≤ (bt a0 x7_2)) = false := decide_eq_false c22
             clear c22
             have H' := Aside0.mk H
             clear H
             have p19 : 0 ≤ (x7_2 : Int) := of_decide_eq_true dq21
             have q19 : x7_2 < (a0.size : Int) := of_decide_eq_true dq21
             have hx19 := bt_at a0 x7_2
             replace p19 := eq_true p19
             replace q19 := eq_true q19
             have p21 : 0 ≤ (x7_2 : Int) := of_decide_eq_true dq21
             have q21 : x7_2 < (a0.size : Int) := of_decide_eq_true dq21
             have hx21 := bt_at a0 x7_2
             replace p21 := eq_true p21
             replace q21 := eq_true q21
             have p23 : 0 ≤ (x7_2 : Int) := of_decide_eq_true dq21
             have q23 : x7_2 < (a0.size : Int) := of_decide_eq_true dq21
             have hx23 := bt_at a0 x7_2
             replace p23 := eq_true p23
             replace q23 := eq_true q23
             go_wp2
             go_roundg k2
             case measure => have := HJ4.out; have := HK2.out; omega
             case rel => exact ⟨(wrap64 ((wrap64 (64 * x4_2)) + (wrap64 (Int.tmod (bt a0 x7_2) 64)))), (wrap64 (x7_2 + 1)), dq14, dq14, H', ⟨by have := HJ4.out; have := HK2.out; omega⟩, dq13⟩
          ·rw [if_neg c18] at H
           exact absurd H dq23
         ·rw [if_neg c17] at H
          exact absurd H dq23
        ·rw [if_neg c16] at H
         have c16b0 := decide_eq_false c16
         clear c16
         by_cases c24 : x4_2 < x6_4
         ·rw [if_pos c24] at H
          have c24b0 := decide_eq_true c24
          clear c24
          simp only [Option.some.injEq, Prod.mk.injEq] at H
          obtain ⟨rfl, rfl⟩ := H
          go_wp2
          go_ret2
          exact ⟨dq14, dq13⟩
         ·rw [if_neg c24] at H
          have c24b0 := decide_eq_false c24
          clear c24
          replace H := Option.bind_eq_some_iff.mp H
          obtain ⟨t107, A250, H⟩ := H
          replace H : (if t107 = true then (some (x4_2, x5_4)) else (some (0, 0))) = some (r1, r2) := H
          have A25 := Aside0.mk A250
          clear A250
          by_cases c26 : t107 = true
          ·subst c26
           have H1 : (some (x4_2, x5_4)) = some (r1, r2) := by rw [if_pos rfl] at H; exact H
           clear H
           have H := H1
           clear H1
           simp only [Option.some.injEq, Prod.mk.injEq] at H
           obtain ⟨rfl, rfl⟩ := H
           go_wp2_with (first | (go_at_call 122; (with_reducible refine (spec_l1Char.calls x4_2 true _ A25.out).mono ?_); rintro e w' ⟨rfl, ⟨nd, rfl⟩⟩))
           go_ret2
           exact ⟨dq14, dq13⟩
          ·replace c26 := Bool.eq_false_iff.mpr c26
           subst c26
           have H1 : (some (0, 0)) = some (r1, r2) := by rw [if_neg (show ¬ (false = true) by decide)] at H; exact H
           clear H
           have H := H1
           clear H1
           simp only [Option.some.injEq, Prod.mk.injEq] at H
           obtain ⟨rfl, rfl⟩ := H
           go_wp2_with (first | (go_at_call 122; (with_reducible refine (spec_l1Char.calls x4_2 false _ A25.out).mono ?_); rintro e w' ⟨rfl, ⟨nd, rfl⟩⟩))
           go_ret2
           exact ⟨dq14, dq13⟩
  ·rw [if_neg c3] at H
   exact absurd H dq23

/-! ### spec_Runes: function 46 -/
def spec_Runes.l0 : Nat → ByteArray → List Int → Option (List Int × Bool)
 | 0, _, _ => none
 | k + 1, x0, x4 => if x0.toList = ([] : List UInt8) then (some (x4, true)) else ((spec_l1Rune.f k x0).bind fun bt111 => (if bt111.2 = 0 then (some (([] : List Int), false)) else (if x4.length < 17592186044416 then (if 0 ≤ bt111.2 then (if bt111.2 ≤ (x0.size : Int) then (spec_Runes.l0 k (x0.extract (bt111.2 : Int).toNat x0.size) (x4 ++ [bt111.1])) else (none)) else (none)) else (none))))
def spec_Runes.f (k : Nat) (a0 : ByteArray) : Option (List Int × Bool) := if (a0.size : Int) > 20000 then (some (([] : List Int), false)) else (spec_Runes.l0 k a0 (([] : List Int)))
set_option maxHeartbeats 8000000 in
set_option maxRecDepth 100000 in
theorem spec_Runes.calls (k : Nat) (a0 : ByteArray) (r1 : List Int) (r2 : Bool) (w : World) (h : spec_Runes.f k a0 = some (r1, r2)) :
  Calls Tryd.prog 46 #[.string a0] w fun e w' => ∃ v0_ : Value, e = .returned (.tuple #[v0_, .bool r2]) ∧ Kd.R (Kd.int .i64) 2 w' w.heap.size (fun _ => True) v0_ r1 ∧ Below w.heap.size w w' := by
 have HB := Aside0.mk (Below.refl w.heap.size w)
 have H : (if (a0.size : Int) > 20000 then (some (([] : List Int), false)) else (spec_Runes.l0 k a0 (([] : List Int)))) = some (r1, r2) := h
 clear h
 by_cases c2 : (a0.size : Int) > 20000
 ·rw [if_pos c2] at H
  have c2b0 : decide (20000 < (a0.size : Int)) = true := decide_eq_true c2
  have c2b1 : decide (20000 < a0.size) = true := decide_eq_true dq24
  clear c2
  simp only [Option.some.injEq, Prod.mk.injEq] at H
  obtain ⟨rfl, rfl⟩ := H
  go_enter Tryd.func46, Tryd.ntmps46
  go_wp2
  go_ret2
  exact ⟨_, dq20, dq26, dq18⟩
 ·rw [if_neg c2] at H
  have c2b0 : decide (20000 < (a0.size : Int)) = false := decide_eq_false c2
  have c2b1 : decide (20000 < a0.size) = false := decide_eq_false dq24
  clear c2
  obtain ⟨y108, hy108⟩ : ∃ y_ : List Int, y_ = (([] : List Int)) := ⟨_, rfl⟩
  replace H : (spec_Runes.l0 k a0 y108) = some (r1, r2) := by first | (rw [hy108]; with_reducible exact H) | (have H2_ := (Option.bind_some _ _).symm.trans H; rw [hy108]; with_reducible exact H2_) | (have H2_ := (Option.bind_some _ _).symm.trans H; with_reducible exact H2_) | with_reducible exact H | (rw [hy108]; exact H) | exact H
  have Ny108 := Aside0.mk hy108
  clear hy108
  have H' := Aside0.mk H
  clear H
  go_enter Tryd.func46, Tryd.ntmps46
  go_wp2_with (first | ((with_reducible refine gate_dst (N := 10) rfl ?_); refine Kd.R_lit (Kd.int .i64) _ 2 ?hg (N := 10) ?hd (xs := ([] : List Int)) (inner := []) (ok := fun _ => True) (okp := fun _ => True) ?hr ?hp (fun _ hk => hk) trivial (Below.refl _ _) (Nat.le_refl _) dq23 ?_; (case hd => rfl); (case hg => rfl); (case hr => exact dq0); (case hp => exact (Reps.none _ _)); intro v109 w3 ho4 hb hg_ hnew_; clear hg_ hnew_; (first | rw [← Ny108.out] at ho4 | (simp only [Int.reduceToNat] at ho4; rw [← Ny108.out] at ho4)); have n0_ := Aside0.mk (Kd.R_lower ho4 (below_size dq18)); have n1_ := Aside0.mk (below_step dq18 hb); clear HB; have HO110 := n0_; have HB := n1_; clear n0_ n1_; clear hb ho4))
  go_loopg [0, 4] k (fun kq v0 v4 w' => ∃ (x0_1 : ByteArray) (x4_1 : List Int), v0 = .string x0_1 ∧ Aside0 (spec_Runes.l0 kq x0_1 x4_1 = some (r1, r2)) ∧ Aside0 (kq ≤ k) ∧ Aside0 (Kd.R (Kd.int .i64) 2 w' w.heap.size (fun _ => True) v4 x4_1) ∧ Aside0 (Below w.heap.size w w'))
  case atStart => exact ⟨(a0), (y108), dq14, H', ⟨Nat.le_refl _⟩, ⟨by (with_reducible repeat (first | apply Kd.R_alloc | apply Kd.R_drewN | apply Kd.R_drew)); exact HO110.out⟩, ⟨dq18⟩⟩
  case round =>
   clear H'
   try clear c2
   try clear c2b0
   try clear c2b1
   try clear p2
   try clear c4
   obtain ⟨x0_1, x4_1, rfl, HA, HK1, HO_4, HB⟩ := hrel
   cases gk with
   | zero => exact absurd HA.out (by simp [spec_Runes.l0])
   | succ k1 =>
    have H := HA.out
    clear HA
    simp only [spec_Runes.l0] at H
    by_cases c5 : x0_1.toList = ([] : List UInt8)
    ·rw [if_pos c5] at H
     have c5b0 := beq_iff_eq.mpr c5
     have c5b1 := bne_eq_false_iff_eq.mpr c5
     clear c5
     simp only [Option.some.injEq, Prod.mk.injEq] at H
     obtain ⟨rfl, rfl⟩ := H
     go_wp2
     go_ret2
     exact ⟨_, dq20, dq27, dq18⟩
    ·rw [if_neg c5] at H
     have c5b0 := beq_eq_false_iff_ne.mpr c5
     have c5b1 := bne_iff_ne.mpr c5
     replace H := Option.bind_eq_some_iff.mp H
     obtain ⟨⟨t111, t112⟩, A60, H⟩ := H
     replace H : (if t112 = 0 then (some (([] : List Int), false)) else (if x4_1.length < 17592186044416 then (if 0 ≤ t112 then (if t112 ≤ (x0_1.size : Int) then (spec_Runes.l0 k1 (x0_1.extract (t112 : Int).toNat x0_1.size) (x4_1 ++ [t111])) else (none)) else (none)) else (none))) = some (r1, r2) := H
     have A6 := Aside0.mk A60
     clear A60
     by_cases c7 : t112 = 0
     ·rw [if_pos c7] at H
      have c7b0 := beq_iff_eq.mpr c7
      have c7b1 := bne_eq_false_iff_eq.mpr c7
      clear c7
      simp only [Option.some.injEq, Prod.mk.injEq] at H
      obtain ⟨rfl, rfl⟩ := H
      go_wp2_with (first | ((with_reducible refine gate_callee (f := 89) rfl ?_); refine goesL_ (some 15) rfl rfl Tryd.func89 dq16 rfl #[.string x0_1] rfl dq15 ?_; (with_reducible refine (spec_l1Rune.calls k1 x0_1 t111 t112 _ A6.out).mono ?_); rintro e w' ⟨rfl, ⟨nd, rfl⟩⟩; refine ⟨_, rfl, ?_⟩))
      go_ret2
      exact ⟨_, dq20, dq26, dq18⟩
     ·rw [if_neg c7] at H
      have c7b0 := beq_eq_false_iff_ne.mpr c7
      have c7b1 := bne_iff_ne.mpr c7
      by_cases c8 : x4_1.length < 17592186044416
      ·rw [if_pos c8] at H
       have LMc8 := Aside0.mk c8
       clear c8
       obtain ⟨y113, hy113⟩ : ∃ y_ : List Int, y_ = (x4_1 ++ [t111]) := ⟨_, rfl⟩
       replace H : (if 0 ≤ t112 then (if t112 ≤ (x0_1.size : Int) then (spec_Runes.l0 k1 (x0_1.extract (t112 : Int).toNat x0_1.size) y113) else (none)) else (none)) = some (r1, r2) := by first | (rw [hy113]; with_reducible exact H) | (have H2_ := (Option.bind_some _ _).symm.trans H; rw [hy113]; with_reducible exact H2_) | (have H2_ := (Option.bind_some _ _).symm.trans H; with_reducible exact H2_) | with_reducible exact H | (rw [hy113]; exact H) | exact H
       have Ny113 := Aside0.mk hy113
       clear hy113
       by_cases c9 : 0 ≤ t112
       ·rw [if_pos c9] at H
        have c9b0 := eq_true c9
        have c9b1 := decide_eq_true c9
        clear c9
        by_cases c10 : t112 ≤ (x0_1.size : Int)
        ·rw [if_pos c10] at H
         have c10b0 := eq_true c10
         have c10b1 := decide_eq_true c10
         clear c10
         have H' := Aside0.mk H
         clear H
         go_wp2_with (first | ((with_reducible refine gate_callee (f := 89) rfl ?_); refine goesL_ (some 15) rfl rfl Tryd.func89 dq16 rfl #[.string x0_1] rfl dq15 ?_; (with_reducible refine (spec_l1Rune.calls k1 x0_1 t111 t112 _ A6.out).mono ?_); rintro e w' ⟨rfl, ⟨nd, rfl⟩⟩; refine ⟨_, rfl, ?_⟩) | ((with_reducible refine gate_builtin (b := .append) (xs := #[.tmp 20, .tmp 22]) rfl ?_); at_builtin; refine Kd.R_append (Kd.int .i64) (w0 := w) w.heap.size rfl (.tmp 20) (.tmp 22) 56 2 (.int .i64 0) 8 rfl Tryd.underlying56 info2 rfl dq28 dq24 u4 x4_1 t111 [.int .i64 t111] (fun _ => True) (fun _ => False) rfl rfl ?aP (fun _ hk => hk.elim) ?aF ?aO ?aB ?aS ?aL ?_; (case aP => exact rfl); (case aB => exact dq18); (case aF => exact (fun _ _ => trivial)); (case aO => exact dq27); (case aS => exact (below_size dq18)); (case aL => have := LMc8.out; omega); intro v114 w11 ho hb hg hat; rw [← Ny113.out] at ho; have n0_ := Aside0.mk (hb); have n1_ := Aside0.mk (ho); clear HB; clear HO_4; have HB := n0_; have HO115 := n1_; clear n0_ n1_; clear ho hb hg hat))
         go_roundg k1
         case measure => have := HK1.out; omega
         case rel => exact ⟨(x0_1.extract (t112 : Int).toNat x0_1.size), (y113), dq14, H', ⟨dq22⟩, ⟨by (with_reducible repeat (first | apply Kd.R_alloc | apply Kd.R_drewN | apply Kd.R_drew)); exact HO115.out⟩, ⟨dq18⟩⟩
        ·rw [if_neg c10] at H
         exact absurd H dq23
       ·rw [if_neg c9] at H
        exact absurd H dq23
      ·rw [if_neg c8] at H
       exact absurd H dq23

/-! ### spec_l6NodeOk: function 106 -/
mutual
def spec_l6NodeOk.j0 : Nat → Bool → Int → Bool → List (S100) → Int → Int → Int → Int → Option (Bool)
 | 0, _, _, _, _, _, _, _, _ => none
 | k + 1, x68, x117000, x117001, x117002, x117003, x117004, x117005, x117006 => if x68 = true then (some false) else (spec_l6NodeOk.l0 k 0 x117000 x117001 x117002 x117003 x117004 x117005 x117006)
def spec_l6NodeOk.l0 : Nat → Int → Int → Bool → List (S100) → Int → Int → Int → Int → Option (Bool)
 | 0, _, _, _, _, _, _, _, _ => none
 | k + 1, x3, x117000, x117001, x117002, x117003, x117004, x117005, x117006 => if x3 < (x117002.length : Int) then (if 0 ≤ x3 then ((spec_l1Char.f ((rd_T100 x117002 x3).f0)).bind fun t118 => (if t118 = true then ((spec_l1Char.f ((rd_T100 x117002 x3).f1)).bind fun t120 => (if t120 = true then (if ((rd_T100 x117002 x3).f0) > ((rd_T100 x117002 x3).f1) then (some false) else (spec_l6NodeOk.l0 k (wrap64 (x3 + 1)) x117000 x117001 x117002 x117003 x117004 x117005 x117006)) else (some false))) else (some false))) else (none)) else (some true)
def spec_l6NodeOk.j2 : Nat → Int → Bool → Int → Bool → List (S100) → Int → Int → Int → Int → Option (Bool)
 | 0, _, _, _, _, _, _, _, _, _ => none
 | k + 1, x5, x109, x117000, x117001, x117002, x117003, x117004, x117005, x117006 => if x109 = true then (if x117001 = true then (some false) else (if (x117002.length : Int) = 0 then (if x117005 = 0 then (some (x117006 == 0)) else (some false)) else (some false))) else (if x5 = 5 then (if x117001 = true then (some false) else (if (x117002.length : Int) = 0 then (if x117004 = 0 then ((spec_l1In.f x117005 0 20).bind fun t123 => (if t123 = true then (if x117006 = (-1) then (some true) else ((spec_l1In.f x117006 x117005 20).bind fun t124 => (some t124))) else (some false))) else (some false)) else (some false))) else (some false))
end
def spec_l6NodeOk.f (k : Nat) (a0_0 : Int) (a0_1 : Bool) (l0_2 : List (S100)) (a0_3 : Int) (a0_4 : Int) (a0_5 : Int) (a0_6 : Int) : Option (Bool) := if a0_0 = 1 then (if a0_1 = true then (some false) else (if (l0_2.length : Int) = 0 then (if a0_3 = 0 then (if a0_4 = 0 then (if a0_5 = 0 then (some (a0_6 == 0)) else (some false)) else (some false)) else (some false)) else (some false))) else (if a0_0 = 2 then (if (l0_2.length : Int) < 1 then (spec_l6NodeOk.j0 k true a0_0 a0_1 l0_2 a0_3 a0_4 a0_5 a0_6) else (if (l0_2.length : Int) > 12 then (spec_l6NodeOk.j0 k true a0_0 a0_1 l0_2 a0_3 a0_4 a0_5 a0_6) else (if a0_3 = 0 then (if a0_4 = 0 then (if a0_5 = 0 then (spec_l6NodeOk.j0 k (a0_6 != 0) a0_0 a0_1 l0_2 a0_3 a0_4 a0_5 a0_6) else (spec_l6NodeOk.j0 k true a0_0 a0_1 l0_2 a0_3 a0_4 a0_5 a0_6)) else (spec_l6NodeOk.j0 k true a0_0 a0_1 l0_2 a0_3 a0_4 a0_5 a0_6)) else (spec_l6NodeOk.j0 k true a0_0 a0_1 l0_2 a0_3 a0_4 a0_5 a0_6)))) else (if a0_0 = 3 then (spec_l6NodeOk.j2 k a0_0 (a0_0 == 3) a0_0 a0_1 l0_2 a0_3 a0_4 a0_5 a0_6) else (spec_l6NodeOk.j2 k a0_0 (a0_0 == 4) a0_0 a0_1 l0_2 a0_3 a0_4 a0_5 a0_6)))
def spec_l6NodeOk.T10 : Bool × List (List Nat × List Nat) := (true, [([], []), ([0], [0]), ([], []), ([1, 2], [1, 2]), ([3], [3]), ([4], [4]), ([5], [5]), ([6], [6]), ([7, 6], [7]), ([8], [8]), ([9, 8], [8, 9]), ([8], [8]), ([10, 11, 8], [8, 10, 11]), ([12, 8], [8, 12]), ([13, 8], [8, 13]), ([14, 8, 8], [8, 14]), ([15, 8], [8, 15]), ([8, 16], [8, 16]), ([17, 15], [17]), ([18], [18]), ([19, 18], [18, 19]), ([18], [18]), ([20, 21, 18], [18, 20, 21]), ([22, 18], [18, 22]), ([23, 18], [18, 23]), ([18], [18]), ([25, 18], [18, 25]), ([18], [18]), ([26, 27, 18], [18, 26, 27]), ([28, 18], [18, 28]), ([29, 18], [18, 29]), ([24, 30, 18], [18, 24, 30]), ([18, 31], [18, 31])])
def spec_l6NodeOk.B10 : List Nat := [0, 1, 0, 7, 15, 31, 63, 127, 255, 511, 1023, 511, 4095, 8191, 16383, 32767, 65535, 131071, 262143, 524287, 1048575, 524287, 4194303, 8388607, 16777215, 524287, 34078719, 524287, 235405311, 503840767, 1040711679, 2147483647, 4294967295]
theorem spec_l6NodeOk.tab10 : rtab .any (opsOf Tryd.f106 10) = spec_l6NodeOk.T10 := by kernel_rfl
theorem spec_l6NodeOk.bits10 : waitsOk spec_l6NodeOk.T10.2 spec_l6NodeOk.B10 = true := by kernel_rfl
set_option maxHeartbeats 8000000 in
set_option maxRecDepth 100000 in
theorem spec_l6NodeOk.calls (k : Nat) (a0_0 : Int) (a0_1 : Bool) (A0_2 : Option Addr) (c0_2 : Nat) (l0_2 : List (S100)) (a0_3 : Int) (a0_4 : Int) (a0_5 : Int) (a0_6 : Int) (r : Bool) (w : World) (hr0_2 : Kd.C k100 w A0_2 l0_2.length l0_2) (hc0_2 : l0_2.length ≤ c0_2) (h : spec_l6NodeOk.f k a0_0 a0_1 l0_2 a0_3 a0_4 a0_5 a0_6 = some r) :
  Calls Tryd.prog 106 #[.agg #[.int .i64 a0_0, .bool a0_1, .slice A0_2 l0_2.length c0_2, .int .i64 a0_3, .int .i64 a0_4, .int .i64 a0_5, .int .i64 a0_6]] w fun e w' => e = .returned (.bool r) ∧ Below w.heap.size w w' := by
 have hu93 := Tryd.underlying93
 have HR0_2 := Aside0.mk hr0_2
 have HC0_2 := Aside0.mk hc0_2
 clear hr0_2 hc0_2
 have HB := Aside0.mk (Below.refl w.heap.size w)
 have H : (if a0_0 = 1 then (if a0_1 = true then (some false) else (if (l0_2.length : Int) = 0 then (if a0_3 = 0 then (if a0_4 = 0 then (if a0_5 = 0 then (some (a0_6 == 0)) else (some false)) else (some false)) else (some false)) else (some false))) else (if a0_0 = 2 then (if (l0_2.length : Int) < 1 then (spec_l6NodeOk.j0 k true a0_0 a0_1 l0_2 a0_3 a0_4 a0_5 a0_6) else (if (l0_2.length : Int) > 12 then (spec_l6NodeOk.j0 k true a0_0 a0_1 l0_2 a0_3 a0_4 a0_5 a0_6) else (if a0_3 = 0 then (if a0_4 = 0 then (if a0_5 = 0 then (spec_l6NodeOk.j0 k (a0_6 != 0) a0_0 a0_1 l0_2 a0_3 a0_4 a0_5 a0_6) else (spec_l6NodeOk.j0 k true a0_0 a0_1 l0_2 a0_3 a0_4 a0_5 a0_6)) else (spec_l6NodeOk.j0 k true a0_0 a0_1 l0_2 a0_3 a0_4 a0_5 a0_6)) else (spec_l6NodeOk.j0 k true a0_0 a0_1 l0_2 a0_3 a0_4 a0_5 a0_6)))) else (if a0_0 = 3 then (spec_l6NodeOk.j2 k a0_0 (a0_0 == 3) a0_0 a0_1 l0_2 a0_3 a0_4 a0_5 a0_6) else (spec_l6NodeOk.j2 k a0_0 (a0_0 == 4) a0_0 a0_1 l0_2 a0_3 a0_4 a0_5 a0_6)))) = some r := h
 clear h
 by_cases c2 : a0_0 = 1
 ·rw [if_pos c2] at H
  have c2b0 := beq_iff_eq.mpr c2
  have c2b1 := bne_eq_false_iff_eq.mpr c2
  clear c2
  by_cases c3 : a0_1 = true
  ·subst c3
   have H1 : (some false) = some r := by rw [if_pos rfl] at H; exact H
   clear H
   have H := H1
   clear H1
   obtain rfl := Option.some.inj H
   go_enter Tryd.func106, Tryd.ntmps106
   go_wp2_with (first | ((with_reducible refine gate_dst (N := 1) rfl ?_); (try (refine gate_guard dq29 ?_; dsimp only)); refine box_event ?hg (N := 1) ?hd (cs := #[.int .i64 a0_0, .bool true, .slice A0_2 l0_2.length c0_2, .int .i64 a0_3, .int .i64 a0_4, .int .i64 a0_5, .int .i64 a0_6]) (t := 93) ?hr ?_; (case hd => rfl); (case hg => rfl); (case hr => exact dq0); intro gb116 hg w4 hbox hb; have n0_ := Aside0.mk (below_step dq18 hb); have n1_ := Aside0.mk (hbox); have n2_ := Aside0.mk ((dq17 : w.heap.size ≤ gb116)); have n3_ := Aside0.mk ((dq17 : w.heap.size ≤ gb116)); clear HB; have HB := n0_; have BK116 := n1_; have GW116 := n2_; have GE116 := n3_; clear n0_ n1_ n2_ n3_; clear hb hbox hg; obtain ⟨⟨hcz5_0, hcz5_1, hcz5_2, hcz5_3, hcz5_4, hcz5_5, hcz5_6⟩, hfz5_0, hfz5_1, hfz5_2, hfz5_3, hfz5_4, hfz5_5, hfz5_6⟩ := blkC7 BK116.out))
   go_ret
   exact ⟨dq20, dq30⟩
  ·replace c3 := Bool.eq_false_iff.mpr c3
   subst c3
   have H1 : (if (l0_2.length : Int) = 0 then (if a0_3 = 0 then (if a0_4 = 0 then (if a0_5 = 0 then (some (a0_6 == 0)) else (some false)) else (some false)) else (some false)) else (some false)) = some r := by rw [if_neg (show ¬ (false = true) by decide)] at H; exact H
   clear H
   have H := H1
   clear H1
   by_cases c6 : (l0_2.length : Int) = 0
   ·rw [if_pos c6] at H
    have c6b0 := beq_iff_eq.mpr c6
    have c6b1 := bne_eq_false_iff_eq.mpr c6
    clear c6
    by_cases c7 : a0_3 = 0
    ·rw [if_pos c7] at H
     have c7b0 := beq_iff_eq.mpr c7
     have c7b1 := bne_eq_false_iff_eq.mpr c7
     clear c7
     by_cases c8 : a0_4 = 0
     ·rw [if_pos c8] at H
      have c8b0 := beq_iff_eq.mpr c8
      have c8b1 := bne_eq_false_iff_eq.mpr c8
      clear c8
      by_cases c9 : a0_5 = 0
      ·rw [if_pos c9] at H
       have c9b0 := beq_iff_eq.mpr c9
       have c9b1 := bne_eq_false_iff_eq.mpr c9
       clear c9
       obtain rfl := Option.some.inj H
       go_enter Tryd.func106, Tryd.ntmps106
       go_wp2_with (first | ((with_reducible refine gate_dst (N := 1) rfl ?_); (try (refine gate_guard dq29 ?_; dsimp only)); refine box_event ?hg (N := 1) ?hd (cs := #[.int .i64 a0_0, .bool false, .slice A0_2 l0_2.length c0_2, .int .i64 a0_3, .int .i64 a0_4, .int .i64 a0_5, .int .i64 a0_6]) (t := 93) ?hr ?_; (case hd => rfl); (case hg => rfl); (case hr => exact dq0); intro gb116 hg w10 hbox hb; have n0_ := Aside0.mk (below_step dq18 hb); have n1_ := Aside0.mk (hbox); have n2_ := Aside0.mk ((dq17 : w.heap.size ≤ gb116)); have n3_ := Aside0.mk ((dq17 : w.heap.size ≤ gb116)); clear HB; have HB := n0_; have BK116 := n1_; have GW116 := n2_; have GE116 := n3_; clear n0_ n1_ n2_ n3_; clear hb hbox hg; obtain ⟨⟨hcz11_0, hcz11_1, hcz11_2, hcz11_3, hcz11_4, hcz11_5, hcz11_6⟩, hfz11_0, hfz11_1, hfz11_2, hfz11_3, hfz11_4, hfz11_5, hfz11_6⟩ := blkC7 BK116.out))
       go_ret
       exact ⟨dq20, dq30⟩
      ·rw [if_neg c9] at H
       have c9b0 := beq_eq_false_iff_ne.mpr c9
       have c9b1 := bne_iff_ne.mpr c9
       obtain rfl := Option.some.inj H
       go_enter Tryd.func106, Tryd.ntmps106
       go_wp2_with (first | ((with_reducible refine gate_dst (N := 1) rfl ?_); (try (refine gate_guard dq29 ?_; dsimp only)); refine box_event ?hg (N := 1) ?hd (cs := #[.int .i64 a0_0, .bool false, .slice A0_2 l0_2.length c0_2, .int .i64 a0_3, .int .i64 a0_4, .int .i64 a0_5, .int .i64 a0_6]) (t := 93) ?hr ?_; (case hd => rfl); (case hg => rfl); (case hr => exact dq0); intro gb116 hg w12 hbox hb; have n0_ := Aside0.mk (below_step dq18 hb); have n1_ := Aside0.mk (hbox); have n2_ := Aside0.mk ((dq17 : w.heap.size ≤ gb116)); have n3_ := Aside0.mk ((dq17 : w.heap.size ≤ gb116)); clear HB; have HB := n0_; have BK116 := n1_; have GW116 := n2_; have GE116 := n3_; clear n0_ n1_ n2_ n3_; clear hb hbox hg; obtain ⟨⟨hcz13_0, hcz13_1, hcz13_2, hcz13_3, hcz13_4, hcz13_5, hcz13_6⟩, hfz13_0, hfz13_1, hfz13_2, hfz13_3, hfz13_4, hfz13_5, hfz13_6⟩ := blkC7 BK116.out))
       go_ret
       exact ⟨dq20, dq30⟩
     ·rw [if_neg c8] at H
      have c8b0 := beq_eq_false_iff_ne.mpr c8
      have c8b1 := bne_iff_ne.mpr c8
      obtain rfl := Option.some.inj H
      go_enter Tryd.func106, Tryd.ntmps106
      go_wp2_with (first | ((with_reducible refine gate_dst (N := 1) rfl ?_); (try (refine gate_guard dq29 ?_; dsimp only)); refine box_event ?hg (N := 1) ?hd (cs := #[.int .i64 a0_0, .bool false, .slice A0_2 l0_2.length c0_2, .int .i64 a0_3, .int .i64 a0_4, .int .i64 a0_5, .int .i64 a0_6]) (t := 93) ?hr ?_; (case hd => rfl); (case hg => rfl); (case hr => exact dq0); intro gb116 hg w14 hbox hb; have n0_ := Aside0.mk (below_step dq18 hb); have n1_ := Aside0.mk (hbox); have n2_ := Aside0.mk ((dq17 : w.heap.size ≤ gb116)); have n3_ := Aside0.mk ((dq17 : w.heap.size ≤ gb116)); clear HB; have HB := n0_; have BK116 := n1_; have GW116 := n2_; have GE116 := n3_; clear n0_ n1_ n2_ n3_; clear hb hbox hg; obtain ⟨⟨hcz15_0, hcz15_1, hcz15_2, hcz15_3, hcz15_4, hcz15_5, hcz15_6⟩, hfz15_0, hfz15_1, hfz15_2, hfz15_3, hfz15_4, hfz15_5, hfz15_6⟩ := blkC7 BK116.out))
      go_ret
      exact ⟨dq20, dq30⟩
    ·rw [if_neg c7] at H
     have c7b0 := beq_eq_false_iff_ne.mpr c7
     have c7b1 := bne_iff_ne.mpr c7
     obtain rfl := Option.some.inj H
     go_enter Tryd.func106, Tryd.ntmps106
     go_wp2_with (first | ((with_reducible refine gate_dst (N := 1) rfl ?_); (try (refine gate_guard dq29 ?_; dsimp only)); refine box_event ?hg (N := 1) ?hd (cs := #[.int .i64 a0_0, .bool false, .slice A0_2 l0_2.length c0_2, .int .i64 a0_3, .int .i64 a0_4, .int .i64 a0_5, .int .i64 a0_6]) (t := 93) ?hr ?_; (case hd => rfl); (case hg => rfl); (case hr => exact dq0); intro gb116 hg w16 hbox hb; have n0_ := Aside0.mk (below_step dq18 hb); have n1_ := Aside0.mk (hbox); have n2_ := Aside0.mk ((dq17 : w.heap.size ≤ gb116)); have n3_ := Aside0.mk ((dq17 : w.heap.size ≤ gb116)); clear HB; have HB := n0_; have BK116 := n1_; have GW116 := n2_; have GE116 := n3_; clear n0_ n1_ n2_ n3_; clear hb hbox hg; obtain ⟨⟨hcz17_0, hcz17_1, hcz17_2, hcz17_3, hcz17_4, hcz17_5, hcz17_6⟩, hfz17_0, hfz17_1, hfz17_2, hfz17_3, hfz17_4, hfz17_5, hfz17_6⟩ := blkC7 BK116.out))
     go_ret
     exact ⟨dq20, dq30⟩
   ·rw [if_neg c6] at H
    have c6b0 := beq_eq_false_iff_ne.mpr c6
    have c6b1 := bne_iff_ne.mpr c6
    have c6b2 : ¬ (l0_2 = []) := fun h_ => c6 (by rw [h_]; rfl)
    obtain rfl := Option.some.inj H
    go_enter Tryd.func106, Tryd.ntmps106
    go_wp2_with (first | ((with_reducible refine gate_dst (N := 1) rfl ?_); (try (refine gate_guard dq29 ?_; dsimp only)); refine box_event ?hg (N := 1) ?hd (cs := #[.int .i64 a0_0, .bool false, .slice A0_2 l0_2.length c0_2, .int .i64 a0_3, .int .i64 a0_4, .int .i64 a0_5, .int .i64 a0_6]) (t := 93) ?hr ?_; (case hd => rfl); (case hg => rfl); (case hr => exact dq0); intro gb116 hg w18 hbox hb; have n0_ := Aside0.mk (below_step dq18 hb); have n1_ := Aside0.mk (hbox); have n2_ := Aside0.mk ((dq17 : w.heap.size ≤ gb116)); have n3_ := Aside0.mk ((dq17 : w.heap.size ≤ gb116)); clear HB; have HB := n0_; have BK116 := n1_; have GW116 := n2_; have GE116 := n3_; clear n0_ n1_ n2_ n3_; clear hb hbox hg; obtain ⟨⟨hcz19_0, hcz19_1, hcz19_2, hcz19_3, hcz19_4, hcz19_5, hcz19_6⟩, hfz19_0, hfz19_1, hfz19_2, hfz19_3, hfz19_4, hfz19_5, hfz19_6⟩ := blkC7 BK116.out))
    go_ret
    exact ⟨dq20, dq30⟩
 ·rw [if_neg c2] at H
  have c2b0 := beq_eq_false_iff_ne.mpr c2
  have c2b1 := bne_iff_ne.mpr c2
  by_cases c20 : a0_0 = 2
  ·rw [if_pos c20] at H
   have c20b0 := beq_iff_eq.mpr c20
   have c20b1 := bne_eq_false_iff_eq.mpr c20
   clear c20
   have HC21 := Aside0.mk H
   clear H
   go_enter Tryd.func106, Tryd.ntmps106
   go_upto_region 5 with (first | ((with_reducible refine gate_dst (N := 1) rfl ?_); (try (refine gate_guard dq29 ?_; dsimp only)); refine box_event ?hg (N := 1) ?hd (cs := #[.int .i64 a0_0, .bool a0_1, .slice A0_2 l0_2.length c0_2, .int .i64 a0_3, .int .i64 a0_4, .int .i64 a0_5, .int .i64 a0_6]) (t := 93) ?hr ?_; (case hd => rfl); (case hg => rfl); (case hr => exact dq0); intro gb116 hg w22 hbox hb; have n0_ := Aside0.mk (below_step dq18 hb); have n1_ := Aside0.mk (hbox); have n2_ := Aside0.mk ((dq17 : w.heap.size ≤ gb116)); have n3_ := Aside0.mk ((dq17 : w.heap.size ≤ gb116)); clear HB; have HB := n0_; have BK116 := n1_; have GW116 := n2_; have GE116 := n3_; clear n0_ n1_ n2_ n3_; clear hb hbox hg; obtain ⟨⟨hcz23_0, hcz23_1, hcz23_2, hcz23_3, hcz23_4, hcz23_5, hcz23_6⟩, hfz23_0, hfz23_1, hfz23_2, hfz23_3, hfz23_4, hfz23_5, hfz23_6⟩ := blkC7 BK116.out))
   (try simp only [Act.put, List.setIfInBounds_toArray, List.set_cons_zero, List.set_cons_succ])
   go_cut [68] (fun v68 wc => ∃ (kq : Nat) (x68_20 : Bool), v68 = .bool x68_20 ∧ Aside0 (spec_l6NodeOk.j0 kq x68_20 a0_0 a0_1 l0_2 a0_3 a0_4 a0_5 a0_6 = some r) ∧ Aside0 (kq ≤ k) ∧ Aside0 (wc.heap[gb116]? = some (.cells #[.int .i64 a0_0, .bool a0_1, (.slice A0_2 l0_2.length c0_2), .int .i64 a0_3, .int .i64 a0_4, .int .i64 a0_5, .int .i64 a0_6] 93 (0, 0))) ∧ Aside0 (Below w.heap.size w wc))
   case first =>
    have H := HC21.out
    clear HC21
    by_cases c24 : (l0_2.length : Int) < 1
    ·rw [if_pos c24] at H
     have c24b0 := decide_eq_true c24
     have c24b1 : decide (l0_2.length < 1) = true := decide_eq_true dq24
     clear c24
     (first | rw [c24b0] | (simp only [i64_w, i32_w]; rw [c24b0]) | skip)
     have H' := Aside0.mk H
     clear H
     obtain ⟨⟨hcz25_0, hcz25_1, hcz25_2, hcz25_3, hcz25_4, hcz25_5, hcz25_6⟩, hfz25_0, hfz25_1, hfz25_2, hfz25_3, hfz25_4, hfz25_5, hfz25_6⟩ := blkC7 BK116.out
     go_wp2
     go_meet
     case rel => exact ⟨_, (true), dq14, H', ⟨dq25⟩, ⟨dq31⟩, ⟨dq30⟩⟩
    ·rw [if_neg c24] at H
     have c24b0 := decide_eq_false c24
     have c24b1 : decide (l0_2.length < 1) = false := decide_eq_false dq24
     clear c24
     (first | rw [c24b0] | (simp only [i64_w, i32_w]; rw [c24b0]) | skip)
     by_cases c26 : (l0_2.length : Int) > 12
     ·rw [if_pos c26] at H
      have c26b0 : decide (12 < (l0_2.length : Int)) = true := decide_eq_true c26
      have c26b1 : decide (12 < l0_2.length) = true := decide_eq_true dq24
      clear c26
      have H' := Aside0.mk H
      clear H
      obtain ⟨⟨hcz27_0, hcz27_1, hcz27_2, hcz27_3, hcz27_4, hcz27_5, hcz27_6⟩, hfz27_0, hfz27_1, hfz27_2, hfz27_3, hfz27_4, hfz27_5, hfz27_6⟩ := blkC7 BK116.out
      go_wp2
      go_meet
      case rel => exact ⟨_, (true), dq14, H', ⟨dq25⟩, ⟨dq31⟩, ⟨dq30⟩⟩
     ·rw [if_neg c26] at H
      have c26b0 : decide (12 < (l0_2.length : Int)) = false := decide_eq_false c26
      have c26b1 : decide (12 < l0_2.length) = false := decide_eq_false dq24
      clear c26
      by_cases c28 : a0_3 = 0
      ·rw [if_pos c28] at H
       have c28b0 := beq_iff_eq.mpr c28
       have c28b1 := bne_eq_false_iff_eq.mpr c28
       clear c28
       by_cases c29 : a0_4 = 0
       ·rw [if_pos c29] at H
        have c29b0 := beq_iff_eq.mpr c29
        have c29b1 := bne_eq_false_iff_eq.mpr c29
        clear c29
        by_cases c30 : a0_5 = 0
        ·rw [if_pos c30] at H
         have c30b0 := beq_iff_eq.mpr c30
         have c30b1 := bne_eq_false_iff_eq.mpr c30
         clear c30
         have H' := Aside0.mk H
         clear H
         obtain ⟨⟨hcz31_0, hcz31_1, hcz31_2, hcz31_3, hcz31_4, hcz31_5, hcz31_6⟩, hfz31_0, hfz31_1, hfz31_2, hfz31_3, hfz31_4, hfz31_5, hfz31_6⟩ := blkC7 BK116.out
         go_wp2
         go_meet
         case rel => exact ⟨_, ((a0_6 != 0)), dq14, H', ⟨dq25⟩, ⟨dq31⟩, ⟨dq30⟩⟩
        ·rw [if_neg c30] at H
         have c30b0 := beq_eq_false_iff_ne.mpr c30
         have c30b1 := bne_iff_ne.mpr c30
         have H' := Aside0.mk H
         clear H
         obtain ⟨⟨hcz32_0, hcz32_1, hcz32_2, hcz32_3, hcz32_4, hcz32_5, hcz32_6⟩, hfz32_0, hfz32_1, hfz32_2, hfz32_3, hfz32_4, hfz32_5, hfz32_6⟩ := blkC7 BK116.out
         go_wp2
         go_meet
         case rel => exact ⟨_, (true), dq14, H', ⟨dq25⟩, ⟨dq31⟩, ⟨dq30⟩⟩
       ·rw [if_neg c29] at H
        have c29b0 := beq_eq_false_iff_ne.mpr c29
        have c29b1 := bne_iff_ne.mpr c29
        have H' := Aside0.mk H
        clear H
        obtain ⟨⟨hcz33_0, hcz33_1, hcz33_2, hcz33_3, hcz33_4, hcz33_5, hcz33_6⟩, hfz33_0, hfz33_1, hfz33_2, hfz33_3, hfz33_4, hfz33_5, hfz33_6⟩ := blkC7 BK116.out
        go_wp2
        go_meet
        case rel => exact ⟨_, (true), dq14, H', ⟨dq25⟩, ⟨dq31⟩, ⟨dq30⟩⟩
      ·rw [if_neg c28] at H
       have c28b0 := beq_eq_false_iff_ne.mpr c28
       have c28b1 := bne_iff_ne.mpr c28
       have H' := Aside0.mk H
       clear H
       obtain ⟨⟨hcz34_0, hcz34_1, hcz34_2, hcz34_3, hcz34_4, hcz34_5, hcz34_6⟩, hfz34_0, hfz34_1, hfz34_2, hfz34_3, hfz34_4, hfz34_5, hfz34_6⟩ := blkC7 BK116.out
       go_wp2
       go_meet
       case rel => exact ⟨_, (true), dq14, H', ⟨dq25⟩, ⟨dq31⟩, ⟨dq30⟩⟩
   case rest =>
    clear HC21
    try clear c1
    try clear c2
    try clear c2b0
    try clear c2b1
    try clear p2
    try clear c3
    try clear c6
    try clear c6b0
    try clear c6b1
    try clear c6b2
    try clear c7
    try clear c7b0
    try clear c7b1
    try clear c8
    try clear c8b0
    try clear c8b1
    try clear c9
    try clear c9b0
    try clear c9b1
    try clear c10
    try clear c20
    try clear c20b0
    try clear c20b1
    try clear c24
    try clear c24b0
    try clear c24b1
    try clear c26
    try clear c26b0
    try clear c26b1
    try clear c28
    try clear c28b0
    try clear c28b1
    try clear c29
    try clear c29b0
    try clear c29b1
    try clear c30
    try clear c30b0
    try clear c30b1
    try clear hcz11_0
    try clear hcz11_1
    try clear hcz11_2
    try clear hcz11_3
    try clear hcz11_4
    try clear hcz11_5
    try clear hcz11_6
    try clear hcz13_0
    try clear hcz13_1
    try clear hcz13_2
    try clear hcz13_3
    try clear hcz13_4
    try clear hcz13_5
    try clear hcz13_6
    try clear hcz15_0
    try clear hcz15_1
    try clear hcz15_2
    try clear hcz15_3
    try clear hcz15_4
    try clear hcz15_5
    try clear hcz15_6
    try clear hcz17_0
    try clear hcz17_1
    try clear hcz17_2
    try clear hcz17_3
    try clear hcz17_4
    try clear hcz17_5
    try clear hcz17_6
    try clear hcz19_0
    try clear hcz19_1
    try clear hcz19_2
    try clear hcz19_3
    try clear hcz19_4
    try clear hcz19_5
    try clear hcz19_6
    try clear hcz23_0
    try clear hcz23_1
    try clear hcz23_2
    try clear hcz23_3
    try clear hcz23_4
    try clear hcz23_5
    try clear hcz23_6
    try clear hcz25_0
    try clear hcz25_1
    try clear hcz25_2
    try clear hcz25_3
    try clear hcz25_4
    try clear hcz25_5
    try clear hcz25_6
    try clear hcz27_0
    try clear hcz27_1
    try clear hcz27_2
    try clear hcz27_3
    try clear hcz27_4
    try clear hcz27_5
    try clear hcz27_6
    try clear hcz31_0
    try clear hcz31_1
    try clear hcz31_2
    try clear hcz31_3
    try clear hcz31_4
    try clear hcz31_5
    try clear hcz31_6
    try clear hcz32_0
    try clear hcz32_1
    try clear hcz32_2
    try clear hcz32_3
    try clear hcz32_4
    try clear hcz32_5
    try clear hcz32_6
    try clear hcz33_0
    try clear hcz33_1
    try clear hcz33_2
    try clear hcz33_3
    try clear hcz33_4
    try clear hcz33_5
    try clear hcz33_6
    try clear hcz34_0
    try clear hcz34_1
    try clear hcz34_2
    try clear hcz34_3
    try clear hcz34_4
    try clear hcz34_5
    try clear hcz34_6
    try clear hcz5_0
    try clear hcz5_1
    try clear hcz5_2
    try clear hcz5_3
    try clear hcz5_4
    try clear hcz5_5
    try clear hcz5_6
    try clear hfz11_0
    try clear hfz11_1
    try clear hfz11_2
    try clear hfz11_3
    try clear hfz11_4
    try clear hfz11_5
    try clear hfz11_6
    try clear hfz13_0
    try clear hfz13_1
    try clear hfz13_2
    try clear hfz13_3
    try clear hfz13_4
    try clear hfz13_5
    try clear hfz13_6
    try clear hfz15_0
    try clear hfz15_1
    try clear hfz15_2
    try clear hfz15_3
    try clear hfz15_4
    try clear hfz15_5
    try clear hfz15_6
    try clear hfz17_0
    try clear hfz17_1
    try clear hfz17_2
    try clear hfz17_3
    try clear hfz17_4
    try clear hfz17_5
    try clear hfz17_6
    try clear hfz19_0
    try clear hfz19_1
    try clear hfz19_2
    try clear hfz19_3
    try clear hfz19_4
    try clear hfz19_5
    try clear hfz19_6
    try clear hfz23_0
    try clear hfz23_1
    try clear hfz23_2
    try clear hfz23_3
    try clear hfz23_4
    try clear hfz23_5
    try clear hfz23_6
    try clear hfz25_0
    try clear hfz25_1
    try clear hfz25_2
    try clear hfz25_3
    try clear hfz25_4
    try clear hfz25_5
    try clear hfz25_6
    try clear hfz27_0
    try clear hfz27_1
    try clear hfz27_2
    try clear hfz27_3
    try clear hfz27_4
    try clear hfz27_5
    try clear hfz27_6
    try clear hfz31_0
    try clear hfz31_1
    try clear hfz31_2
    try clear hfz31_3
    try clear hfz31_4
    try clear hfz31_5
    try clear hfz31_6
    try clear hfz32_0
    try clear hfz32_1
    try clear hfz32_2
    try clear hfz32_3
    try clear hfz32_4
    try clear hfz32_5
    try clear hfz32_6
    try clear hfz33_0
    try clear hfz33_1
    try clear hfz33_2
    try clear hfz33_3
    try clear hfz33_4
    try clear hfz33_5
    try clear hfz33_6
    try clear hfz34_0
    try clear hfz34_1
    try clear hfz34_2
    try clear hfz34_3
    try clear hfz34_4
    try clear hfz34_5
    try clear hfz34_6
    try clear hfz5_0
    try clear hfz5_1
    try clear hfz5_2
    try clear hfz5_3
    try clear hfz5_4
    try clear hfz5_5
    try clear hfz5_6
    obtain ⟨kq, x68_20, rfl, HA, HJ20, BK116, HB⟩ := hcut
    cases kq with
    | zero => exact absurd HA.out (by simp [spec_l6NodeOk.j0])
    | succ kj20 =>
     have H := HA.out
     clear HA
     simp only [spec_l6NodeOk.j0] at H
     by_cases c35 : x68_20 = true
     ·subst c35
      have H1 : (some false) = some r := by rw [if_pos rfl] at H; exact H
      clear H
      have H := H1
      clear H1
      obtain rfl := Option.some.inj H
      go_wp2
      go_ret
      exact ⟨dq20, dq30⟩
     ·replace c35 := Bool.eq_false_iff.mpr c35
      subst c35
      have H1 : (spec_l6NodeOk.l0 kj20 0 a0_0 a0_1 l0_2 a0_3 a0_4 a0_5 a0_6) = some r := by rw [if_neg (show ¬ (false = true) by decide)] at H; exact H
      clear H
      have H := H1
      clear H1
      have H' := Aside0.mk H
      clear H
      go_wp2
      go_loopg [3] kj20 (fun kq v3 w' => ∃ (x3_2 : Int), v3 = .int .i64 x3_2 ∧ Aside0 (spec_l6NodeOk.l0 kq x3_2 a0_0 a0_1 l0_2 a0_3 a0_4 a0_5 a0_6 = some r) ∧ Aside0 (kq ≤ kj20) ∧ Aside0 (w'.heap[gb116]? = some (.cells #[.int .i64 a0_0, .bool a0_1, (.slice A0_2 l0_2.length c0_2), .int .i64 a0_3, .int .i64 a0_4, .int .i64 a0_5, .int .i64 a0_6] 93 (0, 0))) ∧ Aside0 (Below w.heap.size w w'))
      case atStart => exact ⟨(0), dq14, H', ⟨Nat.le_refl _⟩, ⟨dq31⟩, ⟨dq30⟩⟩
      case round =>
       clear H'
       try clear c1
       try clear c2
       try clear c2b0
       try clear c2b1
       try clear p2
       try clear c3
       try clear c6
       try clear c6b0
       try clear c6b1
       try clear c6b2
       try clear c7
       try clear c7b0
       try clear c7b1
       try clear c8
       try clear c8b0
       try clear c8b1
       try clear c9
       try clear c9b0
       try clear c9b1
       try clear c10
       try clear c20
       try clear c20b0
       try clear c20b1
       try clear c24
       try clear c24b0
       try clear c24b1
       try clear c26
       try clear c26b0
       try clear c26b1
       try clear c28
       try clear c28b0
       try clear c28b1
       try clear c29
       try clear c29b0
       try clear c29b1
       try clear c30
       try clear c30b0
       try clear c30b1
       try clear c35
       try clear hcz11_0
       try clear hcz11_1
       try clear hcz11_2
       try clear hcz11_3
       try clear hcz11_4
       try clear hcz11_5
       try clear hcz11_6
       try clear hcz13_0
       try clear hcz13_1
       try clear hcz13_2
       try clear hcz13_3
       try clear hcz13_4
       try clear hcz13_5
       try clear hcz13_6
       try clear hcz15_0
       try clear hcz15_1
       try clear hcz15_2
       try clear hcz15_3
       try clear hcz15_4
       try clear hcz15_5
       try clear hcz15_6
       try clear hcz17_0
       try clear hcz17_1
       try clear hcz17_2
       try clear hcz17_3
       try clear hcz17_4
       try clear hcz17_5
       try clear hcz17_6
       try clear hcz19_0
       try clear hcz19_1
       try clear hcz19_2
       try clear hcz19_3
       try clear hcz19_4
       try clear hcz19_5
       try clear hcz19_6
       try clear hcz23_0
       try clear hcz23_1
       try clear hcz23_2
       try clear hcz23_3
       try clear hcz23_4
       try clear hcz23_5
       try clear hcz23_6
       try clear hcz25_0
       try clear hcz25_1
       try clear hcz25_2
       try clear hcz25_3
       try clear hcz25_4
       try clear hcz25_5
       try clear hcz25_6
       try clear hcz27_0
       try clear hcz27_1
       try clear hcz27_2
       try clear hcz27_3
       try clear hcz27_4
       try clear hcz27_5
       try clear hcz27_6
       try clear hcz31_0
       try clear hcz31_1
       try clear hcz31_2
       try clear hcz31_3
       try clear hcz31_4
       try clear hcz31_5
       try clear hcz31_6
       try clear hcz32_0
       try clear hcz32_1
       try clear hcz32_2
       try clear hcz32_3
       try clear hcz32_4
       try clear hcz32_5
       try clear hcz32_6
       try clear hcz33_0
       try clear hcz33_1
       try clear hcz33_2
       try clear hcz33_3
       try clear hcz33_4
       try clear hcz33_5
       try clear hcz33_6
       try clear hcz34_0
       try clear hcz34_1
       try clear hcz34_2
       try clear hcz34_3
       try clear hcz34_4
       try clear hcz34_5
       try clear hcz34_6
       try clear hcz5_0
       try clear hcz5_1
       try clear hcz5_2
       try clear hcz5_3
       try clear hcz5_4
       try clear hcz5_5
       try clear hcz5_6
       try clear hfz11_0
       try clear hfz11_1
       try clear hfz11_2
       try clear hfz11_3
       try clear hfz11_4
       try clear hfz11_5
       try clear hfz11_6
       try clear hfz13_0
       try clear hfz13_1
       try clear hfz13_2
       try clear hfz13_3
       try clear hfz13_4
       try clear hfz13_5
       try clear hfz13_6
       try clear hfz15_0
       try clear hfz15_1
       try clear hfz15_2
       try clear hfz15_3
       try clear hfz15_4
       try clear hfz15_5
       try clear hfz15_6
       try clear hfz17_0
       try clear hfz17_1
       try clear hfz17_2
       try clear hfz17_3
       try clear hfz17_4
       try clear hfz17_5
       try clear hfz17_6
       try clear hfz19_0
       try clear hfz19_1
       try clear hfz19_2
       try clear hfz19_3
       try clear hfz19_4
       try clear hfz19_5
       try clear hfz19_6
       try clear hfz23_0
       try clear hfz23_1
       try clear hfz23_2
       try clear hfz23_3
       try clear hfz23_4
       try clear hfz23_5
       try clear hfz23_6
       try clear hfz25_0
       try clear hfz25_1
       try clear hfz25_2
       try clear hfz25_3
       try clear hfz25_4
       try clear hfz25_5
       try clear hfz25_6
       try clear hfz27_0
       try clear hfz27_1
       try clear hfz27_2
       try clear hfz27_3
       try clear hfz27_4
       try clear hfz27_5
       try clear hfz27_6
       try clear hfz31_0
       try clear hfz31_1
       try clear hfz31_2
       try clear hfz31_3
       try clear hfz31_4
       try clear hfz31_5
       try clear hfz31_6
       try clear hfz32_0
       try clear hfz32_1
       try clear hfz32_2
       try clear hfz32_3
       try clear hfz32_4
       try clear hfz32_5
       try clear hfz32_6
       try clear hfz33_0
       try clear hfz33_1
       try clear hfz33_2
       try clear hfz33_3
       try clear hfz33_4
       try clear hfz33_5
       try clear hfz33_6
       try clear hfz34_0
       try clear hfz34_1
       try clear hfz34_2
       try clear hfz34_3
       try clear hfz34_4
       try clear hfz34_5
       try clear hfz34_6
       try clear hfz5_0
       try clear hfz5_1
       try clear hfz5_2
       try clear hfz5_3
       try clear hfz5_4
       try clear hfz5_5
       try clear hfz5_6
       try clear p2
       obtain ⟨x3_2, rfl, HA, HK2, BK116, HB⟩ := hrel
       cases gk with
       | zero => exact absurd HA.out (by simp [spec_l6NodeOk.l0])
       | succ k2 =>
        have H := HA.out
        clear HA
        simp only [spec_l6NodeOk.l0] at H
        by_cases c36 : x3_2 < (l0_2.length : Int)
        ·rw [if_pos c36] at H
         have c36b0 := decide_eq_true c36
         clear c36
         by_cases c37 : 0 ≤ x3_2
         ·rw [if_pos c37] at H
          have c37b0 := decide_eq_true c37
          clear c37
          replace H := Option.bind_eq_some_iff.mp H
          obtain ⟨t118, A380, H⟩ := H
          replace H : (if t118 = true then ((spec_l1Char.f ((rd_T100 l0_2 x3_2).f1)).bind fun t120 => (if t120 = true then (if ((rd_T100 l0_2 x3_2).f0) > ((rd_T100 l0_2 x3_2).f1) then (some false) else (spec_l6NodeOk.l0 k2 (wrap64 (x3_2 + 1)) a0_0 a0_1 l0_2 a0_3 a0_4 a0_5 a0_6)) else (some false))) else (some false)) = some r := H
          have A38 := Aside0.mk A380
          clear A380
          by_cases c39 : t118 = true
          ·subst c39
           have H1 : ((spec_l1Char.f ((rd_T100 l0_2 x3_2).f1)).bind fun t120 => (if t120 = true then (if ((rd_T100 l0_2 x3_2).f0) > ((rd_T100 l0_2 x3_2).f1) then (some false) else (spec_l6NodeOk.l0 k2 (wrap64 (x3_2 + 1)) a0_0 a0_1 l0_2 a0_3 a0_4 a0_5 a0_6)) else (some false))) = some r := by rw [if_pos rfl] at H; exact H
           clear H
           have H := H1
           clear H1
           replace H := Option.bind_eq_some_iff.mp H
           obtain ⟨t120, A400, H⟩ := H
           replace H : (if t120 = true then (if ((rd_T100 l0_2 x3_2).f0) > ((rd_T100 l0_2 x3_2).f1) then (some false) else (spec_l6NodeOk.l0 k2 (wrap64 (x3_2 + 1)) a0_0 a0_1 l0_2 a0_3 a0_4 a0_5 a0_6)) else (some false)) = some r := H
           have A40 := Aside0.mk A400
           clear A400
           by_cases c41 : t120 = true
           ·subst c41
            have H1 : (if ((rd_T100 l0_2 x3_2).f0) > ((rd_T100 l0_2 x3_2).f1) then (some false) else (spec_l6NodeOk.l0 k2 (wrap64 (x3_2 + 1)) a0_0 a0_1 l0_2 a0_3 a0_4 a0_5 a0_6)) = some r := by rw [if_pos rfl] at H; exact H
            clear H
            have H := H1
            clear H1
            by_cases c42 : ((rd_T100 l0_2 x3_2).f0) > ((rd_T100 l0_2 x3_2).f1)
            ·rw [if_pos c42] at H
             have c42b0 : decide (((rd_T100 l0_2 x3_2).f1) < ((rd_T100 l0_2 x3_2).f0)) = true := decide_eq_true c42
             clear c42
             obtain rfl := Option.some.inj H
             obtain ⟨⟨hcz43_0, hcz43_1, hcz43_2, hcz43_3, hcz43_4, hcz43_5, hcz43_6⟩, hfz43_0, hfz43_1, hfz43_2, hfz43_3, hfz43_4, hfz43_5, hfz43_6⟩ := blkC7 BK116.out
             try go_wp2
             have n0_ := Aside0.mk (blk_drew BK116.out)
             have n1_ := Aside0.mk (below_drew1 HB.out)
             clear BK116
             clear HB
             have BK116 := n0_
             have HB := n1_
             clear n0_ n1_
             have p117 : 0 ≤ (x3_2 : Int) := of_decide_eq_true dq21
             have q117 : x3_2 < (l0_2.length : Int) := of_decide_eq_true dq21
             obtain ⟨ad117, e117, hx117_0, hx117_1⟩ := at_T100 HR0_2.out x3_2 p117 q117
             have hw117_1 := hx117_1
             have hw117_0 := hx117_0
             cases e117
             replace hx117_0 := (HB.out.cell (World.block_lt_of_cell? w _ hx117_0)).trans hx117_0
             replace hx117_1 := (HB.out.cell (World.block_lt_of_cell? w _ hx117_1)).trans hx117_1
             replace p117 := eq_true p117
             replace q117 := eq_true q117
             have p119 : 0 ≤ (x3_2 : Int) := of_decide_eq_true dq21
             have q119 : x3_2 < (l0_2.length : Int) := of_decide_eq_true dq21
             obtain ⟨ad119, e119, hx119_0, hx119_1⟩ := at_T100 HR0_2.out x3_2 p119 q119
             have hw119_1 := hx119_1
             have hw119_0 := hx119_0
             obtain rfl : ad117 = ad119 := (by injection e119)
             replace hx119_0 := (HB.out.cell (World.block_lt_of_cell? w _ hx119_0)).trans hx119_0
             replace hx119_1 := (HB.out.cell (World.block_lt_of_cell? w _ hx119_1)).trans hx119_1
             replace p119 := eq_true p119
             replace q119 := eq_true q119
             have p121 : 0 ≤ (x3_2 : Int) := of_decide_eq_true dq21
             have q121 : x3_2 < (l0_2.length : Int) := of_decide_eq_true dq21
             obtain ⟨ad121, e121, hx121_0, hx121_1⟩ := at_T100 HR0_2.out x3_2 p121 q121
             have hw121_1 := hx121_1
             have hw121_0 := hx121_0
             obtain rfl : ad117 = ad121 := (by injection e121)
             replace hx121_0 := (HB.out.cell (World.block_lt_of_cell? w _ hx121_0)).trans hx121_0
             replace hx121_1 := (HB.out.cell (World.block_lt_of_cell? w _ hx121_1)).trans hx121_1
             replace p121 := eq_true p121
             replace q121 := eq_true q121
             have p122 : 0 ≤ (x3_2 : Int) := of_decide_eq_true dq21
             have q122 : x3_2 < (l0_2.length : Int) := of_decide_eq_true dq21
             obtain ⟨ad122, e122, hx122_0, hx122_1⟩ := at_T100 HR0_2.out x3_2 p122 q122
             have hw122_1 := hx122_1
             have hw122_0 := hx122_0
             obtain rfl : ad117 = ad122 := (by injection e122)
             replace hx122_0 := (HB.out.cell (World.block_lt_of_cell? w _ hx122_0)).trans hx122_0
             replace hx122_1 := (HB.out.cell (World.block_lt_of_cell? w _ hx122_1)).trans hx122_1
             replace p122 := eq_true p122
             replace q122 := eq_true q122
             refine start_ (n := 33) (S := fun w' => w'.cell? ⟨gb116, 0, none⟩ = some (.int .i64 a0_0) ∧ w'.cell? ⟨gb116, 1, none⟩ = some (.bool a0_1) ∧ w'.cell? ⟨gb116, 2, none⟩ = some (.slice (some ad117) l0_2.length c0_2) ∧ w'.cell? ⟨gb116, 3, none⟩ = some (.int .i64 a0_3) ∧ w'.cell? ⟨gb116, 4, none⟩ = some (.int .i64 a0_4) ∧ w'.cell? ⟨gb116, 5, none⟩ = some (.int .i64 a0_5) ∧ w'.cell? ⟨gb116, 6, none⟩ = some (.int .i64 a0_6) ∧ w'.cell? (ad117.add ((x3_2).toNat * 2)) = some (.int .i64 ((rd_T100 l0_2 x3_2).f0)) ∧ w'.cell? ⟨(ad117.add ((x3_2).toNat * 2)).block, (ad117.add ((x3_2).toNat * 2)).off + 1, none⟩ = some (.int .i64 ((rd_T100 l0_2 x3_2).f1)) ∧ w'.cell? (ad117.add ((x3_2).toNat * 2)) = some (.int .i64 ((rd_T100 l0_2 x3_2).f0)) ∧ w'.cell? ⟨(ad117.add ((x3_2).toNat * 2)).block, (ad117.add ((x3_2).toNat * 2)).off + 1, none⟩ = some (.int .i64 ((rd_T100 l0_2 x3_2).f1)) ∧ w'.cell? (ad117.add ((x3_2).toNat * 2)) = some (.int .i64 ((rd_T100 l0_2 x3_2).f0)) ∧ w'.cell? ⟨(ad117.add ((x3_2).toNat * 2)).block, (ad117.add ((x3_2).toNat * 2)).off + 1, none⟩ = some (.int .i64 ((rd_T100 l0_2 x3_2).f1)) ∧ w'.cell? (ad117.add ((x3_2).toNat * 2)) = some (.int .i64 ((rd_T100 l0_2 x3_2).f0)) ∧ w'.cell? ⟨(ad117.add ((x3_2).toNat * 2)).block, (ad117.add ((x3_2).toNat * 2)).off + 1, none⟩ = some (.int .i64 ((rd_T100 l0_2 x3_2).f1))) (ds := []) #[false, false, false, false, false, false, false, false, false, false, false, false, false, false, false, false, false, false, false, false, false, false, false, false, false, false, false, false, false, false, false, false, false] dq16 rfl rfl ⟨(blk_cell BK116.out 0).trans rfl, (blk_cell BK116.out 1).trans rfl, (blk_cell BK116.out 2).trans rfl, (blk_cell BK116.out 3).trans rfl, (blk_cell BK116.out 4).trans rfl, (blk_cell BK116.out 5).trans rfl, (blk_cell BK116.out 6).trans rfl, ((HB.out.cell (World.block_lt_of_cell? w _ hw117_0)).trans hw117_0), ((HB.out.cell (World.block_lt_of_cell? w _ hw117_1)).trans hw117_1), ((HB.out.cell (World.block_lt_of_cell? w _ hw119_0)).trans hw119_0), ((HB.out.cell (World.block_lt_of_cell? w _ hw119_1)).trans hw119_1), ((HB.out.cell (World.block_lt_of_cell? w _ hw121_0)).trans hw121_0), ((HB.out.cell (World.block_lt_of_cell? w _ hw121_1)).trans hw121_1), ((HB.out.cell (World.block_lt_of_cell? w _ hw122_0)).trans hw122_0), ((HB.out.cell (World.block_lt_of_cell? w _ hw122_1)).trans hw122_1)⟩ (fun hHeld => ?_); refine with_tabW spec_l6NodeOk.tab10 spec_l6NodeOk.bits10 (fun HT_ HW_ => ?_)
             generalize wr.drew = w44 at BK116 HB hx117_0 hx117_1 hx119_0 hx119_1 hx121_0 hx121_1 hx122_0 hx122_1 hHeld ⊢
             refine pureA (i := 0) (N := some 76) #[true, false, false, false, false, false, false, false, false, false, false, false, false, false, false, false, false, false, false, false, false, false, false, false, false, false, false, false, false, false, false, false, false] ?_
             refine pureA (i := 2) (N := some 78) #[true, false, true, false, false, false, false, false, false, false, false, false, false, false, false, false, false, false, false, false, false, false, false, false, false, false, false, false, false, false, false, false, false] ?_
             refine takeA15 (i := 1) (N := some 77) #[true, true, true, false, false, false, false, false, false, false, false, false, false, false, false, false, false, false, false, false, false, false, false, false, false, false, false, false, false, false, false, false, false] ?_
             refine pureA (i := 3) (N := some 79) #[true, true, true, true, false, false, false, false, false, false, false, false, false, false, false, false, false, false, false, false, false, false, false, false, false, false, false, false, false, false, false, false, false] ?_
             refine pureA (i := 4) (N := some 80) #[true, true, true, true, true, false, false, false, false, false, false, false, false, false, false, false, false, false, false, false, false, false, false, false, false, false, false, false, false, false, false, false, false] ?_
             refine takeA15 (i := 5) (N := some 81) #[true, true, true, true, true, true, false, false, false, false, false, false, false, false, false, false, false, false, false, false, false, false, false, false, false, false, false, false, false, false, false, false, false] ?_
             refine one_ (i := 6) (N := some 82) #[true, true, true, true, true, true, true, false, false, false, false, false, false, false, false, false, false, false, false, false, false, false, false, false, false, false, false, false, false, false, false, false, false] rfl rfl (one_of HT_.out dq16) dq28 (fun K hK => ?_)
             refine goes_ Tryd.func122 dq16 rfl #[.int .i64 ((rd_T100 l0_2 x3_2).f0)] dq29 rfl rfl dq15 ?_
             with_reducible refine (spec_l1Char.calls ((rd_T100 l0_2 x3_2).f0) true _ A38.out).mono ?_
             rintro e w' ⟨rfl, ⟨nd, rfl⟩⟩
             refine ⟨_, rfl, ?_⟩
             refine hK.out _ _ ⟨(blk_cell BK116.out 0).trans rfl, (blk_cell BK116.out 1).trans rfl, (blk_cell BK116.out 2).trans rfl, (blk_cell BK116.out 3).trans rfl, (blk_cell BK116.out 4).trans rfl, (blk_cell BK116.out 5).trans rfl, (blk_cell BK116.out 6).trans rfl, ((HB.out.cell (World.block_lt_of_cell? w _ hw117_0)).trans hw117_0), ((HB.out.cell (World.block_lt_of_cell? w _ hw117_1)).trans hw117_1), ((HB.out.cell (World.block_lt_of_cell? w _ hw119_0)).trans hw119_0), ((HB.out.cell (World.block_lt_of_cell? w _ hw119_1)).trans hw119_1), ((HB.out.cell (World.block_lt_of_cell? w _ hw121_0)).trans hw121_0), ((HB.out.cell (World.block_lt_of_cell? w _ hw121_1)).trans hw121_1), ((HB.out.cell (World.block_lt_of_cell? w _ hw122_0)).trans hw122_0), ((HB.out.cell (World.block_lt_of_cell? w _ hw122_1)).trans hw122_1)⟩ (fun hHeld => ?_)
             clear hK K
             refine norm_ (a' := ?_) ?_ ?_
             rotate_left
             ·show Act.put _ (some 82) _ = _
              simp only [Act.put, List.setIfInBounds_toArray, List.set_cons_zero, List.set_cons_succ, i64_w, i32_w]
              rfl
             refine pureA (i := 7) (N := some 83) #[true, true, true, true, true, true, true, true, false, false, false, false, false, false, false, false, false, false, false, false, false, false, false, false, false, false, false, false, false, false, false, false, false] ?_
             refine pureA (i := 8) (N := some 84) #[true, true, true, true, true, true, true, true, true, false, false, false, false, false, false, false, false, false, false, false, false, false, false, false, false, false, false, false, false, false, false, false, false] ?_
             refine pureA (i := 9) (N := some 85) #[true, true, true, true, true, true, true, true, true, true, false, false, false, false, false, false, false, false, false, false, false, false, false, false, false, false, false, false, false, false, false, false, false] ?_
             refine pureA (i := 11) (N := some 87) #[true, true, true, true, true, true, true, true, true, true, false, true, false, false, false, false, false, false, false, false, false, false, false, false, false, false, false, false, false, false, false, false, false] ?_
             refine takeA15 (i := 10) (N := some 86) #[true, true, true, true, true, true, true, true, true, true, true, true, false, false, false, false, false, false, false, false, false, false, false, false, false, false, false, false, false, false, false, false, false] ?_
             refine pureA (i := 12) (N := some 88) #[true, true, true, true, true, true, true, true, true, true, true, true, true, false, false, false, false, false, false, false, false, false, false, false, false, false, false, false, false, false, false, false, false] ?_
             refine pureA (i := 13) (N := some 89) #[true, true, true, true, true, true, true, true, true, true, true, true, true, true, false, false, false, false, false, false, false, false, false, false, false, false, false, false, false, false, false, false, false] ?_
             refine takeA15 (i := 14) (N := some 90) #[true, true, true, true, true, true, true, true, true, true, true, true, true, true, true, false, false, false, false, false, false, false, false, false, false, false, false, false, false, false, false, false, false] ?_
             refine one_ (i := 15) (N := some 91) #[true, true, true, true, true, true, true, true, true, true, true, true, true, true, true, true, false, false, false, false, false, false, false, false, false, false, false, false, false, false, false, false, false] rfl rfl (one_of HT_.out dq16) dq28 (fun K hK => ?_)
             refine goes_ Tryd.func122 dq16 rfl #[.int .i64 ((rd_T100 l0_2 x3_2).f1)] dq29 rfl rfl dq15 ?_
             with_reducible refine (spec_l1Char.calls ((rd_T100 l0_2 x3_2).f1) true _ A40.out).mono ?_
             rintro e w' ⟨rfl, ⟨nd, rfl⟩⟩
             refine ⟨_, rfl, ?_⟩
             refine hK.out _ _ ⟨(blk_cell BK116.out 0).trans rfl, (blk_cell BK116.out 1).trans rfl, (blk_cell BK116.out 2).trans rfl, (blk_cell BK116.out 3).trans rfl, (blk_cell BK116.out 4).trans rfl, (blk_cell BK116.out 5).trans rfl, (blk_cell BK116.out 6).trans rfl, ((HB.out.cell (World.block_lt_of_cell? w _ hw117_0)).trans hw117_0), ((HB.out.cell (World.block_lt_of_cell? w _ hw117_1)).trans hw117_1), ((HB.out.cell (World.block_lt_of_cell? w _ hw119_0)).trans hw119_0), ((HB.out.cell (World.block_lt_of_cell? w _ hw119_1)).trans hw119_1), ((HB.out.cell (World.block_lt_of_cell? w _ hw121_0)).trans hw121_0), ((HB.out.cell (World.block_lt_of_cell? w _ hw121_1)).trans hw121_1), ((HB.out.cell (World.block_lt_of_cell? w _ hw122_0)).trans hw122_0), ((HB.out.cell (World.block_lt_of_cell? w _ hw122_1)).trans hw122_1)⟩ (fun hHeld => ?_)
             clear hK K
             refine norm_ (a' := ?_) ?_ ?_
             rotate_left
             ·show Act.put _ (some 91) _ = _
              simp only [Act.put, List.setIfInBounds_toArray, List.set_cons_zero, List.set_cons_succ, i64_w, i32_w]
              rfl
             refine pureA (i := 16) (N := some 92) #[true, true, true, true, true, true, true, true, true, true, true, true, true, true, true, true, true, false, false, false, false, false, false, false, false, false, false, false, false, false, false, false, false] ?_
             refine pureA (i := 17) (N := some 93) #[true, true, true, true, true, true, true, true, true, true, true, true, true, true, true, true, true, true, false, false, false, false, false, false, false, false, false, false, false, false, false, false, false] ?_
             refine pureA (i := 18) (N := some 94) #[true, true, true, true, true, true, true, true, true, true, true, true, true, true, true, true, true, true, true, false, false, false, false, false, false, false, false, false, false, false, false, false, false] ?_
             refine pureA (i := 19) (N := some 95) #[true, true, true, true, true, true, true, true, true, true, true, true, true, true, true, true, true, true, true, true, false, false, false, false, false, false, false, false, false, false, false, false, false] ?_
             refine pureA (i := 21) (N := some 97) #[true, true, true, true, true, true, true, true, true, true, true, true, true, true, true, true, true, true, true, true, false, true, false, false, false, false, false, false, false, false, false, false, false] ?_
             refine pureA (i := 25) (N := some 101) #[true, true, true, true, true, true, true, true, true, true, true, true, true, true, true, true, true, true, true, true, false, true, false, false, false, true, false, false, false, false, false, false, false] ?_
             refine pureA (i := 27) (N := some 103) #[true, true, true, true, true, true, true, true, true, true, true, true, true, true, true, true, true, true, true, true, false, true, false, false, false, true, false, true, false, false, false, false, false] ?_
             refine takeA15 (i := 20) (N := some 96) #[true, true, true, true, true, true, true, true, true, true, true, true, true, true, true, true, true, true, true, true, true, true, false, false, false, true, false, true, false, false, false, false, false] ?_
             refine pureA (i := 22) (N := some 98) #[true, true, true, true, true, true, true, true, true, true, true, true, true, true, true, true, true, true, true, true, true, true, true, false, false, true, false, true, false, false, false, false, false] ?_
             refine pureA (i := 23) (N := some 99) #[true, true, true, true, true, true, true, true, true, true, true, true, true, true, true, true, true, true, true, true, true, true, true, true, false, true, false, true, false, false, false, false, false] ?_
             refine takeA15 (i := 24) (N := some 100) #[true, true, true, true, true, true, true, true, true, true, true, true, true, true, true, true, true, true, true, true, true, true, true, true, true, true, false, true, false, false, false, false, false] ?_
             refine takeA15 (i := 26) (N := some 102) #[true, true, true, true, true, true, true, true, true, true, true, true, true, true, true, true, true, true, true, true, true, true, true, true, true, true, true, true, false, false, false, false, false] ?_
             refine pureA (i := 28) (N := some 104) #[true, true, true, true, true, true, true, true, true, true, true, true, true, true, true, true, true, true, true, true, true, true, true, true, true, true, true, true, true, false, false, false, false] ?_
             refine pureA (i := 29) (N := some 105) #[true, true, true, true, true, true, true, true, true, true, true, true, true, true, true, true, true, true, true, true, true, true, true, true, true, true, true, true, true, true, false, false, false] ?_
             refine takeA15 (i := 30) (N := some 106) #[true, true, true, true, true, true, true, true, true, true, true, true, true, true, true, true, true, true, true, true, true, true, true, true, true, true, true, true, true, true, true, false, false] ?_
             refine pureA (i := 31) (N := some 107) #[true, true, true, true, true, true, true, true, true, true, true, true, true, true, true, true, true, true, true, true, true, true, true, true, true, true, true, true, true, true, true, true, false] ?_
             refine pureA (i := 32) (N := some 108) #[true, true, true, true, true, true, true, true, true, true, true, true, true, true, true, true, true, true, true, true, true, true, true, true, true, true, true, true, true, true, true, true, true] ?_
             refine done_ (done_of HT_.out dq16) ?_
             try go_wp2
             go_ret
             exact ⟨dq20, dq30⟩
            ·rw [if_neg c42] at H
             have c42b0 : decide (((rd_T100 l0_2 x3_2).f1) < ((rd_T100 l0_2 x3_2).f0)) = false := decide_eq_false c42
             clear c42
             have H' := Aside0.mk H
             clear H
             obtain ⟨⟨hcz45_0, hcz45_1, hcz45_2, hcz45_3, hcz45_4, hcz45_5, hcz45_6⟩, hfz45_0, hfz45_1, hfz45_2, hfz45_3, hfz45_4, hfz45_5, hfz45_6⟩ := blkC7 BK116.out
             try go_wp2
             have n0_ := Aside0.mk (blk_drew BK116.out)
             have n1_ := Aside0.mk (below_drew1 HB.out)
             clear BK116
             clear HB
             have BK116 := n0_
             have HB := n1_
             clear n0_ n1_
             have p117 : 0 ≤ (x3_2 : Int) := of_decide_eq_true dq21
             have q117 : x3_2 < (l0_2.length : Int) := of_decide_eq_true dq21
             obtain ⟨ad117, e117, hx117_0, hx117_1⟩ := at_T100 HR0_2.out x3_2 p117 q117
             have hw117_1 := hx117_1
             have hw117_0 := hx117_0
             cases e117
             replace hx117_0 := (HB.out.cell (World.block_lt_of_cell? w _ hx117_0)).trans hx117_0
             replace hx117_1 := (HB.out.cell (World.block_lt_of_cell? w _ hx117_1)).trans hx117_1
             replace p117 := eq_true p117
             replace q117 := eq_true q117
             have p119 : 0 ≤ (x3_2 : Int) := of_decide_eq_true dq21
             have q119 : x3_2 < (l0_2.length : Int) := of_decide_eq_true dq21
             obtain ⟨ad119, e119, hx119_0, hx119_1⟩ := at_T100 HR0_2.out x3_2 p119 q119
             have hw119_1 := hx119_1
             have hw119_0 := hx119_0
             obtain rfl : ad117 = ad119 := (by injection e119)
             replace hx119_0 := (HB.out.cell (World.block_lt_of_cell? w _ hx119_0)).trans hx119_0
             replace hx119_1 := (HB.out.cell (World.block_lt_of_cell? w _ hx119_1)).trans hx119_1
             replace p119 := eq_true p119
             replace q119 := eq_true q119
             have p121 : 0 ≤ (x3_2 : Int) := of_decide_eq_true dq21
             have q121 : x3_2 < (l0_2.length : Int) := of_decide_eq_true dq21
             obtain ⟨ad121, e121, hx121_0, hx121_1⟩ := at_T100 HR0_2.out x3_2 p121 q121
             have hw121_1 := hx121_1
             have hw121_0 := hx121_0
             obtain rfl : ad117 = ad121 := (by injection e121)
             replace hx121_0 := (HB.out.cell (World.block_lt_of_cell? w _ hx121_0)).trans hx121_0
             replace hx121_1 := (HB.out.cell (World.block_lt_of_cell? w _ hx121_1)).trans hx121_1
             replace p121 := eq_true p121
             replace q121 := eq_true q121
             have p122 : 0 ≤ (x3_2 : Int) := of_decide_eq_true dq21
             have q122 : x3_2 < (l0_2.length : Int) := of_decide_eq_true dq21
             obtain ⟨ad122, e122, hx122_0, hx122_1⟩ := at_T100 HR0_2.out x3_2 p122 q122
             have hw122_1 := hx122_1
             have hw122_0 := hx122_0
             obtain rfl : ad117 = ad122 := (by injection e122)
             replace hx122_0 := (HB.out.cell (World.block_lt_of_cell? w _ hx122_0)).trans hx122_0
             replace hx122_1 := (HB.out.cell (World.block_lt_of_cell? w _ hx122_1)).trans hx122_1
             replace p122 := eq_true p122
             replace q122 := eq_true q122
             refine start_ (n := 33) (S := fun w' => w'.cell? ⟨gb116, 0, none⟩ = some (.int .i64 a0_0) ∧ w'.cell? ⟨gb116, 1, none⟩ = some (.bool a0_1) ∧ w'.cell? ⟨gb116, 2, none⟩ = some (.slice (some ad117) l0_2.length c0_2) ∧ w'.cell? ⟨gb116, 3, none⟩ = some (.int .i64 a0_3) ∧ w'.cell? ⟨gb116, 4, none⟩ = some (.int .i64 a0_4) ∧ w'.cell? ⟨gb116, 5, none⟩ = some (.int .i64 a0_5) ∧ w'.cell? ⟨gb116, 6, none⟩ = some (.int .i64 a0_6) ∧ w'.cell? (ad117.add ((x3_2).toNat * 2)) = some (.int .i64 ((rd_T100 l0_2 x3_2).f0)) ∧ w'.cell? ⟨(ad117.add ((x3_2).toNat * 2)).block, (ad117.add ((x3_2).toNat * 2)).off + 1, none⟩ = some (.int .i64 ((rd_T100 l0_2 x3_2).f1)) ∧ w'.cell? (ad117.add ((x3_2).toNat * 2)) = some (.int .i64 ((rd_T100 l0_2 x3_2).f0)) ∧ w'.cell? ⟨(ad117.add ((x3_2).toNat * 2)).block, (ad117.add ((x3_2).toNat * 2)).off + 1, none⟩ = some (.int .i64 ((rd_T100 l0_2 x3_2).f1)) ∧ w'.cell? (ad117.add ((x3_2).toNat * 2)) = some (.int .i64 ((rd_T100 l0_2 x3_2).f0)) ∧ w'.cell? ⟨(ad117.add ((x3_2).toNat * 2)).block, (ad117.add ((x3_2).toNat * 2)).off + 1, none⟩ = some (.int .i64 ((rd_T100 l0_2 x3_2).f1)) ∧ w'.cell? (ad117.add ((x3_2).toNat * 2)) = some (.int .i64 ((rd_T100 l0_2 x3_2).f0)) ∧ w'.cell? ⟨(ad117.add ((x3_2).toNat * 2)).block, (ad117.add ((x3_2).toNat * 2)).off + 1, none⟩ = some (.int .i64 ((rd_T100 l0_2 x3_2).f1))) (ds := []) #[false, false, false, false, false, false, false, false, false, false, false, false, false, false, false, false, false, false, false, false, false, false, false, false, false, false, false, false, false, false, false, false, false] dq16 rfl rfl ⟨(blk_cell BK116.out 0).trans rfl, (blk_cell BK116.out 1).trans rfl, (blk_cell BK116.out 2).trans rfl, (blk_cell BK116.out 3).trans rfl, (blk_cell BK116.out 4).trans rfl, (blk_cell BK116.out 5).trans rfl, (blk_cell BK116.out 6).trans rfl, ((HB.out.cell (World.block_lt_of_cell? w _ hw117_0)).trans hw117_0), ((HB.out.cell (World.block_lt_of_cell? w _ hw117_1)).trans hw117_1), ((HB.out.cell (World.block_lt_of_cell? w _ hw119_0)).trans hw119_0), ((HB.out.cell (World.block_lt_of_cell? w _ hw119_1)).trans hw119_1), ((HB.out.cell (World.block_lt_of_cell? w _ hw121_0)).trans hw121_0), ((HB.out.cell (World.block_lt_of_cell? w _ hw121_1)).trans hw121_1), ((HB.out.cell (World.block_lt_of_cell? w _ hw122_0)).trans hw122_0), ((HB.out.cell (World.block_lt_of_cell? w _ hw122_1)).trans hw122_1)⟩ (fun hHeld => ?_); refine with_tabW spec_l6NodeOk.tab10 spec_l6NodeOk.bits10 (fun HT_ HW_ => ?_)
             generalize wr.drew = w46 at BK116 HB hx117_0 hx117_1 hx119_0 hx119_1 hx121_0 hx121_1 hx122_0 hx122_1 hHeld ⊢
             refine pureA (i := 0) (N := some 76) #[true, false, false, false, false, false, false, false, false, false, false, false, false, false, false, false, false, false, false, false, false, false, false, false, false, false, false, false, false, false, false, false, false] ?_
             refine pureA (i := 2) (N := some 78) #[true, false, true, false, false, false, false, false, false, false, false, false, false, false, false, false, false, false, false, false, false, false, false, false, false, false, false, false, false, false, false, false, false] ?_
             refine takeA15 (i := 1) (N := some 77) #[true, true, true, false, false, false, false, false, false, false, false, false, false, false, false, false, false, false, false, false, false, false, false, false, false, false, false, false, false, false, false, false, false] ?_
             refine pureA (i := 3) (N := some 79) #[true, true, true, true, false, false, false, false, false, false, false, false, false, false, false, false, false, false, false, false, false, false, false, false, false, false, false, false, false, false, false, false, false] ?_
             refine pureA (i := 4) (N := some 80) #[true, true, true, true, true, false, false, false, false, false, false, false, false, false, false, false, false, false, false, false, false, false, false, false, false, false, false, false, false, false, false, false, false] ?_
             refine takeA15 (i := 5) (N := some 81) #[true, true, true, true, true, true, false, false, false, false, false, false, false, false, false, false, false, false, false, false, false, false, false, false, false, false, false, false, false, false, false, false, false] ?_
             refine one_ (i := 6) (N := some 82) #[true, true, true, true, true, true, true, false, false, false, false, false, false, false, false, false, false, false, false, false, false, false, false, false, false, false, false, false, false, false, false, false, false] rfl rfl (one_of HT_.out dq16) dq28 (fun K hK => ?_)
             refine goes_ Tryd.func122 dq16 rfl #[.int .i64 ((rd_T100 l0_2 x3_2).f0)] dq29 rfl rfl dq15 ?_
             with_reducible refine (spec_l1Char.calls ((rd_T100 l0_2 x3_2).f0) true _ A38.out).mono ?_
             rintro e w' ⟨rfl, ⟨nd, rfl⟩⟩
             refine ⟨_, rfl, ?_⟩
             refine hK.out _ _ ⟨(blk_cell BK116.out 0).trans rfl, (blk_cell BK116.out 1).trans rfl, (blk_cell BK116.out 2).trans rfl, (blk_cell BK116.out 3).trans rfl, (blk_cell BK116.out 4).trans rfl, (blk_cell BK116.out 5).trans rfl, (blk_cell BK116.out 6).trans rfl, ((HB.out.cell (World.block_lt_of_cell? w _ hw117_0)).trans hw117_0), ((HB.out.cell (World.block_lt_of_cell? w _ hw117_1)).trans hw117_1), ((HB.out.cell (World.block_lt_of_cell? w _ hw119_0)).trans hw119_0), ((HB.out.cell (World.block_lt_of_cell? w _ hw119_1)).trans hw119_1), ((HB.out.cell (World.block_lt_of_cell? w _ hw121_0)).trans hw121_0), ((HB.out.cell (World.block_lt_of_cell? w _ hw121_1)).trans hw121_1), ((HB.out.cell (World.block_lt_of_cell? w _ hw122_0)).trans hw122_0), ((HB.out.cell (World.block_lt_of_cell? w _ hw122_1)).trans hw122_1)⟩ (fun hHeld => ?_)
             clear hK K
             refine norm_ (a' := ?_) ?_ ?_
             rotate_left
             ·show Act.put _ (some 82) _ = _
              simp only [Act.put, List.setIfInBounds_toArray, List.set_cons_zero, List.set_cons_succ, i64_w, i32_w]
              rfl
             refine pureA (i := 7) (N := some 83) #[true, true, true, true, true, true, true, true, false, false, false, false, false, false, false, false, false, false, false, false, false, false, false, false, false, false, false, false, false, false, false, false, false] ?_
             refine pureA (i := 8) (N := some 84) #[true, true, true, true, true, true, true, true, true, false, false, false, false, false, false, false, false, false, false, false, false, false, false, false, false, false, false, false, false, false, false, false, false] ?_
             refine pureA (i := 9) (N := some 85) #[true, true, true, true, true, true, true, true, true, true, false, false, false, false, false, false, false, false, false, false, false, false, false, false, false, false, false, false, false, false, false, false, false] ?_
             refine pureA (i := 11) (N := some 87) #[true, true, true, true, true, true, true, true, true, true, false, true, false, false, false, false, false, false, false, false, false, false, false, false, false, false, false, false, false, false, false, false, false] ?_
             refine takeA15 (i := 10) (N := some 86) #[true, true, true, true, true, true, true, true, true, true, true, true, false, false, false, false, false, false, false, false, false, false, false, false, false, false, false, false, false, false, false, false, false] ?_
             refine pureA (i := 12) (N := some 88) #[true, true, true, true, true, true, true, true, true, true, true, true, true, false, false, false, false, false, false, false, false, false, false, false, false, false, false, false, false, false, false, false, false] ?_
             refine pureA (i := 13) (N := some 89) #[true, true, true, true, true, true, true, true, true, true, true, true, true, true, false, false, false, false, false, false, false, false, false, false, false, false, false, false, false, false, false, false, false] ?_
             refine takeA15 (i := 14) (N := some 90) #[true, true, true, true, true, true, true, true, true, true, true, true, true, true, true, false, false, false, false, false, false, false, false, false, false, false, false, false, false, false, false, false, false] ?_
             refine one_ (i := 15) (N := some 91) #[true, true, true, true, true, true, true, true, true, true, true, true, true, true, true, true, false, false, false, false, false, false, false, false, false, false, false, false, false, false, false, false, false] rfl rfl (one_of HT_.out dq16) dq28 (fun K hK => ?_)
             refine goes_ Tryd.func122 dq16 rfl #[.int .i64 ((rd_T100 l0_2 x3_2).f1)] dq29 rfl rfl dq15 ?_
             with_reducible refine (spec_l1Char.calls ((rd_T100 l0_2 x3_2).f1) true _ A40.out).mono ?_
             rintro e w' ⟨rfl, ⟨nd, rfl⟩⟩
             refine ⟨_, rfl, ?_⟩
             refine hK.out _ _ ⟨(blk_cell BK116.out 0).trans rfl, (blk_cell BK116.out 1).trans rfl, (blk_cell BK116.out 2).trans rfl, (blk_cell BK116.out 3).trans rfl, (blk_cell BK116.out 4).trans rfl, (blk_cell BK116.out 5).trans rfl, (blk_cell BK116.out 6).trans rfl, ((HB.out.cell (World.block_lt_of_cell? w _ hw117_0)).trans hw117_0), ((HB.out.cell (World.block_lt_of_cell? w _ hw117_1)).trans hw117_1), ((HB.out.cell (World.block_lt_of_cell? w _ hw119_0)).trans hw119_0), ((HB.out.cell (World.block_lt_of_cell? w _ hw119_1)).trans hw119_1), ((HB.out.cell (World.block_lt_of_cell? w _ hw121_0)).trans hw121_0), ((HB.out.cell (World.block_lt_of_cell? w _ hw121_1)).trans hw121_1), ((HB.out.cell (World.block_lt_of_cell? w _ hw122_0)).trans hw122_0), ((HB.out.cell (World.block_lt_of_cell? w _ hw122_1)).trans hw122_1)⟩ (fun hHeld => ?_)
             clear hK K
             refine norm_ (a' := ?_) ?_ ?_
             rotate_left
             ·show Act.put _ (some 91) _ = _
              simp only [Act.put, List.setIfInBounds_toArray, List.set_cons_zero, List.set_cons_succ, i64_w, i32_w]
              rfl
             refine pureA (i := 16) (N := some 92) #[true, true, true, true, true, true, true, true, true, true, true, true, true, true, true, true, true, false, false, false, false, false, false, false, false, false, false, false, false, false, false, false, false] ?_
             refine pureA (i := 17) (N := some 93) #[true, true, true, true, true, true, true, true, true, true, true, true, true, true, true, true, true, true, false, false, false, false, false, false, false, false, false, false, false, false, false, false, false] ?_
             refine pureA (i := 18) (N := some 94) #[true, true, true, true, true, true, true, true, true, true, true, true, true, true, true, true, true, true, true, false, false, false, false, false, false, false, false, false, false, false, false, false, false] ?_
             refine pureA (i := 19) (N := some 95) #[true, true, true, true, true, true, true, true, true, true, true, true, true, true, true, true, true, true, true, true, false, false, false, false, false, false, false, false, false, false, false, false, false] ?_
             refine pureA (i := 21) (N := some 97) #[true, true, true, true, true, true, true, true, true, true, true, true, true, true, true, true, true, true, true, true, false, true, false, false, false, false, false, false, false, false, false, false, false] ?_
             refine pureA (i := 25) (N := some 101) #[true, true, true, true, true, true, true, true, true, true, true, true, true, true, true, true, true, true, true, true, false, true, false, false, false, true, false, false, false, false, false, false, false] ?_
             refine pureA (i := 27) (N := some 103) #[true, true, true, true, true, true, true, true, true, true, true, true, true, true, true, true, true, true, true, true, false, true, false, false, false, true, false, true, false, false, false, false, false] ?_
             refine takeA15 (i := 20) (N := some 96) #[true, true, true, true, true, true, true, true, true, true, true, true, true, true, true, true, true, true, true, true, true, true, false, false, false, true, false, true, false, false, false, false, false] ?_
             refine pureA (i := 22) (N := some 98) #[true, true, true, true, true, true, true, true, true, true, true, true, true, true, true, true, true, true, true, true, true, true, true, false, false, true, false, true, false, false, false, false, false] ?_
             refine pureA (i := 23) (N := some 99) #[true, true, true, true, true, true, true, true, true, true, true, true, true, true, true, true, true, true, true, true, true, true, true, true, false, true, false, true, false, false, false, false, false] ?_
             refine takeA15 (i := 24) (N := some 100) #[true, true, true, true, true, true, true, true, true, true, true, true, true, true, true, true, true, true, true, true, true, true, true, true, true, true, false, true, false, false, false, false, false] ?_
             refine takeA15 (i := 26) (N := some 102) #[true, true, true, true, true, true, true, true, true, true, true, true, true, true, true, true, true, true, true, true, true, true, true, true, true, true, true, true, false, false, false, false, false] ?_
             refine pureA (i := 28) (N := some 104) #[true, true, true, true, true, true, true, true, true, true, true, true, true, true, true, true, true, true, true, true, true, true, true, true, true, true, true, true, true, false, false, false, false] ?_
             refine pureA (i := 29) (N := some 105) #[true, true, true, true, true, true, true, true, true, true, true, true, true, true, true, true, true, true, true, true, true, true, true, true, true, true, true, true, true, true, false, false, false] ?_
             refine takeA15 (i := 30) (N := some 106) #[true, true, true, true, true, true, true, true, true, true, true, true, true, true, true, true, true, true, true, true, true, true, true, true, true, true, true, true, true, true, true, false, false] ?_
             refine pureA (i := 31) (N := some 107) #[true, true, true, true, true, true, true, true, true, true, true, true, true, true, true, true, true, true, true, true, true, true, true, true, true, true, true, true, true, true, true, true, false] ?_
             refine pureA (i := 32) (N := some 108) #[true, true, true, true, true, true, true, true, true, true, true, true, true, true, true, true, true, true, true, true, true, true, true, true, true, true, true, true, true, true, true, true, true] ?_
             refine done_ (done_of HT_.out dq16) ?_
             try go_wp2
             go_roundg k2
             case measure => have := HJ20.out; have := HK2.out; omega
             case rel => exact ⟨(wrap64 (x3_2 + 1)), dq14, H', ⟨by have := HJ20.out; have := HK2.out; omega⟩, ⟨dq31⟩, ⟨dq30⟩⟩
           ·replace c41 := Bool.eq_false_iff.mpr c41
            subst c41
            have H1 : (some false) = some r := by rw [if_neg (show ¬ (false = true) by decide)] at H; exact H
            clear H
            have H := H1
            clear H1
            obtain rfl := Option.some.inj H
            obtain ⟨⟨hcz47_0, hcz47_1, hcz47_2, hcz47_3, hcz47_4, hcz47_5, hcz47_6⟩, hfz47_0, hfz47_1, hfz47_2, hfz47_3, hfz47_4, hfz47_5, hfz47_6⟩ := blkC7 BK116.out
            try go_wp2
            have n0_ := Aside0.mk (blk_drew BK116.out)
            have n1_ := Aside0.mk (below_drew1 HB.out)
            clear BK116
            clear HB
            have BK116 := n0_
            have HB := n1_
            clear n0_ n1_
            have p117 : 0 ≤ (x3_2 : Int) := of_decide_eq_true dq21
            have q117 : x3_2 < (l0_2.length : Int) := of_decide_eq_true dq21
            obtain ⟨ad117, e117, hx117_0, hx117_1⟩ := at_T100 HR0_2.out x3_2 p117 q117
            have hw117_1 := hx117_1
            have hw117_0 := hx117_0
            cases e117
            replace hx117_0 := (HB.out.cell (World.block_lt_of_cell? w _ hx117_0)).trans hx117_0
            replace hx117_1 := (HB.out.cell (World.block_lt_of_cell? w _ hx117_1)).trans hx117_1
            replace p117 := eq_true p117
            replace q117 := eq_true q117
            have p119 : 0 ≤ (x3_2 : Int) := of_decide_eq_true dq21
            have q119 : x3_2 < (l0_2.length : Int) := of_decide_eq_true dq21
            obtain ⟨ad119, e119, hx119_0, hx119_1⟩ := at_T100 HR0_2.out x3_2 p119 q119
            have hw119_1 := hx119_1
            have hw119_0 := hx119_0
            obtain rfl : ad117 = ad119 := (by injection e119)
            replace hx119_0 := (HB.out.cell (World.block_lt_of_cell? w _ hx119_0)).trans hx119_0
            replace hx119_1 := (HB.out.cell (World.block_lt_of_cell? w _ hx119_1)).trans hx119_1
            replace p119 := eq_true p119
            replace q119 := eq_true q119
            refine start_ (n := 33) (S := fun w' => w'.cell? ⟨gb116, 0, none⟩ = some (.int .i64 a0_0) ∧ w'.cell? ⟨gb116, 1, none⟩ = some (.bool a0_1) ∧ w'.cell? ⟨gb116, 2, none⟩ = some (.slice (some ad117) l0_2.length c0_2) ∧ w'.cell? ⟨gb116, 3, none⟩ = some (.int .i64 a0_3) ∧ w'.cell? ⟨gb116, 4, none⟩ = some (.int .i64 a0_4) ∧ w'.cell? ⟨gb116, 5, none⟩ = some (.int .i64 a0_5) ∧ w'.cell? ⟨gb116, 6, none⟩ = some (.int .i64 a0_6) ∧ w'.cell? (ad117.add ((x3_2).toNat * 2)) = some (.int .i64 ((rd_T100 l0_2 x3_2).f0)) ∧ w'.cell? ⟨(ad117.add ((x3_2).toNat * 2)).block, (ad117.add ((x3_2).toNat * 2)).off + 1, none⟩ = some (.int .i64 ((rd_T100 l0_2 x3_2).f1)) ∧ w'.cell? (ad117.add ((x3_2).toNat * 2)) = some (.int .i64 ((rd_T100 l0_2 x3_2).f0)) ∧ w'.cell? ⟨(ad117.add ((x3_2).toNat * 2)).block, (ad117.add ((x3_2).toNat * 2)).off + 1, none⟩ = some (.int .i64 ((rd_T100 l0_2 x3_2).f1))) (ds := []) #[false, false, false, false, false, false, false, false, false, false, false, false, false, false, false, false, false, false, false, false, false, false, false, false, false, false, false, false, false, false, false, false, false] dq16 rfl rfl ⟨(blk_cell BK116.out 0).trans rfl, (blk_cell BK116.out 1).trans rfl, (blk_cell BK116.out 2).trans rfl, (blk_cell BK116.out 3).trans rfl, (blk_cell BK116.out 4).trans rfl, (blk_cell BK116.out 5).trans rfl, (blk_cell BK116.out 6).trans rfl, ((HB.out.cell (World.block_lt_of_cell? w _ hw117_0)).trans hw117_0), ((HB.out.cell (World.block_lt_of_cell? w _ hw117_1)).trans hw117_1), ((HB.out.cell (World.block_lt_of_cell? w _ hw119_0)).trans hw119_0), ((HB.out.cell (World.block_lt_of_cell? w _ hw119_1)).trans hw119_1)⟩ (fun hHeld => ?_); refine with_tabW spec_l6NodeOk.tab10 spec_l6NodeOk.bits10 (fun HT_ HW_ => ?_)
            generalize wr.drew = w48 at BK116 HB hx117_0 hx117_1 hx119_0 hx119_1 hHeld ⊢
            refine pureA (i := 0) (N := some 76) #[true, false, false, false, false, false, false, false, false, false, false, false, false, false, false, false, false, false, false, false, false, false, false, false, false, false, false, false, false, false, false, false, false] ?_
            refine pureA (i := 2) (N := some 78) #[true, false, true, false, false, false, false, false, false, false, false, false, false, false, false, false, false, false, false, false, false, false, false, false, false, false, false, false, false, false, false, false, false] ?_
            refine takeA11 (i := 1) (N := some 77) #[true, true, true, false, false, false, false, false, false, false, false, false, false, false, false, false, false, false, false, false, false, false, false, false, false, false, false, false, false, false, false, false, false] ?_
            refine pureA (i := 3) (N := some 79) #[true, true, true, true, false, false, false, false, false, false, false, false, false, false, false, false, false, false, false, false, false, false, false, false, false, false, false, false, false, false, false, false, false] ?_
            refine pureA (i := 4) (N := some 80) #[true, true, true, true, true, false, false, false, false, false, false, false, false, false, false, false, false, false, false, false, false, false, false, false, false, false, false, false, false, false, false, false, false] ?_
            refine takeA11 (i := 5) (N := some 81) #[true, true, true, true, true, true, false, false, false, false, false, false, false, false, false, false, false, false, false, false, false, false, false, false, false, false, false, false, false, false, false, false, false] ?_
            refine one_ (i := 6) (N := some 82) #[true, true, true, true, true, true, true, false, false, false, false, false, false, false, false, false, false, false, false, false, false, false, false, false, false, false, false, false, false, false, false, false, false] rfl rfl (one_of HT_.out dq16) dq28 (fun K hK => ?_)
            refine goes_ Tryd.func122 dq16 rfl #[.int .i64 ((rd_T100 l0_2 x3_2).f0)] dq29 rfl rfl dq15 ?_
            with_reducible refine (spec_l1Char.calls ((rd_T100 l0_2 x3_2).f0) true _ A38.out).mono ?_
            rintro e w' ⟨rfl, ⟨nd, rfl⟩⟩
            refine ⟨_, rfl, ?_⟩
            refine hK.out _ _ ⟨(blk_cell BK116.out 0).trans rfl, (blk_cell BK116.out 1).trans rfl, (blk_cell BK116.out 2).trans rfl, (blk_cell BK116.out 3).trans rfl, (blk_cell BK116.out 4).trans rfl, (blk_cell BK116.out 5).trans rfl, (blk_cell BK116.out 6).trans rfl, ((HB.out.cell (World.block_lt_of_cell? w _ hw117_0)).trans hw117_0), ((HB.out.cell (World.block_lt_of_cell? w _ hw117_1)).trans hw117_1), ((HB.out.cell (World.block_lt_of_cell? w _ hw119_0)).trans hw119_0), ((HB.out.cell (World.block_lt_of_cell? w _ hw119_1)).trans hw119_1)⟩ (fun hHeld => ?_)
            clear hK K
            refine norm_ (a' := ?_) ?_ ?_
            rotate_left
            ·show Act.put _ (some 82) _ = _
             simp only [Act.put, List.setIfInBounds_toArray, List.set_cons_zero, List.set_cons_succ, i64_w, i32_w]
             rfl
            refine pureA (i := 7) (N := some 83) #[true, true, true, true, true, true, true, true, false, false, false, false, false, false, false, false, false, false, false, false, false, false, false, false, false, false, false, false, false, false, false, false, false] ?_
            refine pureA (i := 8) (N := some 84) #[true, true, true, true, true, true, true, true, true, false, false, false, false, false, false, false, false, false, false, false, false, false, false, false, false, false, false, false, false, false, false, false, false] ?_
            refine pureA (i := 9) (N := some 85) #[true, true, true, true, true, true, true, true, true, true, false, false, false, false, false, false, false, false, false, false, false, false, false, false, false, false, false, false, false, false, false, false, false] ?_
            refine pureA (i := 11) (N := some 87) #[true, true, true, true, true, true, true, true, true, true, false, true, false, false, false, false, false, false, false, false, false, false, false, false, false, false, false, false, false, false, false, false, false] ?_
            refine takeA11 (i := 10) (N := some 86) #[true, true, true, true, true, true, true, true, true, true, true, true, false, false, false, false, false, false, false, false, false, false, false, false, false, false, false, false, false, false, false, false, false] ?_
            refine pureA (i := 12) (N := some 88) #[true, true, true, true, true, true, true, true, true, true, true, true, true, false, false, false, false, false, false, false, false, false, false, false, false, false, false, false, false, false, false, false, false] ?_
            refine pureA (i := 13) (N := some 89) #[true, true, true, true, true, true, true, true, true, true, true, true, true, true, false, false, false, false, false, false, false, false, false, false, false, false, false, false, false, false, false, false, false] ?_
            refine takeA11 (i := 14) (N := some 90) #[true, true, true, true, true, true, true, true, true, true, true, true, true, true, true, false, false, false, false, false, false, false, false, false, false, false, false, false, false, false, false, false, false] ?_
            refine one_ (i := 15) (N := some 91) #[true, true, true, true, true, true, true, true, true, true, true, true, true, true, true, true, false, false, false, false, false, false, false, false, false, false, false, false, false, false, false, false, false] rfl rfl (one_of HT_.out dq16) dq28 (fun K hK => ?_)
            refine goes_ Tryd.func122 dq16 rfl #[.int .i64 ((rd_T100 l0_2 x3_2).f1)] dq29 rfl rfl dq15 ?_
            with_reducible refine (spec_l1Char.calls ((rd_T100 l0_2 x3_2).f1) false _ A40.out).mono ?_
            rintro e w' ⟨rfl, ⟨nd, rfl⟩⟩
            refine ⟨_, rfl, ?_⟩
            refine hK.out _ _ ⟨(blk_cell BK116.out 0).trans rfl, (blk_cell BK116.out 1).trans rfl, (blk_cell BK116.out 2).trans rfl, (blk_cell BK116.out 3).trans rfl, (blk_cell BK116.out 4).trans rfl, (blk_cell BK116.out 5).trans rfl, (blk_cell BK116.out 6).trans rfl, ((HB.out.cell (World.block_lt_of_cell? w _ hw117_0)).trans hw117_0), ((HB.out.cell (World.block_lt_of_cell? w _ hw117_1)).trans hw117_1), ((HB.out.cell (World.block_lt_of_cell? w _ hw119_0)).trans hw119_0), ((HB.out.cell (World.block_lt_of_cell? w _ hw119_1)).trans hw119_1)⟩ (fun hHeld => ?_)
            clear hK K
            refine norm_ (a' := ?_) ?_ ?_
            rotate_left
            ·show Act.put _ (some 91) _ = _
             simp only [Act.put, List.setIfInBounds_toArray, List.set_cons_zero, List.set_cons_succ, i64_w, i32_w]
             rfl
            refine pureA (i := 16) (N := some 92) #[true, true, true, true, true, true, true, true, true, true, true, true, true, true, true, true, true, false, false, false, false, false, false, false, false, false, false, false, false, false, false, false, false] ?_
            refine pureA (i := 17) (N := some 93) #[true, true, true, true, true, true, true, true, true, true, true, true, true, true, true, true, true, true, false, false, false, false, false, false, false, false, false, false, false, false, false, false, false] ?_
            refine pureA (i := 18) (N := some 94) #[true, true, true, true, true, true, true, true, true, true, true, true, true, true, true, true, true, true, true, false, false, false, false, false, false, false, false, false, false, false, false, false, false] ?_
            refine pure_ (i := 19) (N := some 95) (v := undef) (a' := ?_) #[true, true, true, true, true, true, true, true, true, true, true, true, true, true, true, true, true, true, true, true, false, false, false, false, false, false, false, false, false, false, false, false, false] rfl rfl (any_of HT_.out dq16) (fun _ _ _ h => h) (Or.inr ⟨dq29, rfl⟩) ?_ ?_
            rotate_left
            ·exact dAct
            refine pure_ (i := 20) (N := some 96) (v := undef) (a' := ?_) #[true, true, true, true, true, true, true, true, true, true, true, true, true, true, true, true, true, true, true, true, true, false, false, false, false, false, false, false, false, false, false, false, false] rfl rfl (any_of HT_.out dq16) (fun _ _ _ h => h) (Or.inr ⟨dq29, rfl⟩) ?_ ?_
            rotate_left
            ·exact dAct
            refine pure_ (i := 21) (N := some 97) (v := undef) (a' := ?_) #[true, true, true, true, true, true, true, true, true, true, true, true, true, true, true, true, true, true, true, true, true, true, false, false, false, false, false, false, false, false, false, false, false] rfl rfl (any_of HT_.out dq16) (fun _ _ _ h => h) (Or.inr ⟨dq29, rfl⟩) ?_ ?_
            rotate_left
            ·exact dAct
            refine pure_ (i := 22) (N := some 98) (v := undef) (a' := ?_) #[true, true, true, true, true, true, true, true, true, true, true, true, true, true, true, true, true, true, true, true, true, true, true, false, false, false, false, false, false, false, false, false, false] rfl rfl (any_of HT_.out dq16) (fun _ _ _ h => h) (Or.inr ⟨dq29, rfl⟩) ?_ ?_
            rotate_left
            ·exact dAct
            refine pure_ (i := 23) (N := some 99) (v := undef) (a' := ?_) #[true, true, true, true, true, true, true, true, true, true, true, true, true, true, true, true, true, true, true, true, true, true, true, true, false, false, false, false, false, false, false, false, false] rfl rfl (any_of HT_.out dq16) (fun _ _ _ h => h) (Or.inr ⟨dq29, rfl⟩) ?_ ?_
            rotate_left
            ·exact dAct
            refine pure_ (i := 24) (N := some 100) (v := undef) (a' := ?_) #[true, true, true, true, true, true, true, true, true, true, true, true, true, true, true, true, true, true, true, true, true, true, true, true, true, false, false, false, false, false, false, false, false] rfl rfl (any_of HT_.out dq16) (fun _ _ _ h => h) (Or.inr ⟨dq29, rfl⟩) ?_ ?_
            rotate_left
            ·exact dAct
            refine pure_ (i := 25) (N := some 101) (v := undef) (a' := ?_) #[true, true, true, true, true, true, true, true, true, true, true, true, true, true, true, true, true, true, true, true, true, true, true, true, true, true, false, false, false, false, false, false, false] rfl rfl (any_of HT_.out dq16) (fun _ _ _ h => h) (Or.inr ⟨dq29, rfl⟩) ?_ ?_
            rotate_left
            ·exact dAct
            refine pure_ (i := 26) (N := some 102) (v := undef) (a' := ?_) #[true, true, true, true, true, true, true, true, true, true, true, true, true, true, true, true, true, true, true, true, true, true, true, true, true, true, true, false, false, false, false, false, false] rfl rfl (any_of HT_.out dq16) (fun _ _ _ h => h) (Or.inr ⟨dq29, rfl⟩) ?_ ?_
            rotate_left
            ·exact dAct
            refine pure_ (i := 27) (N := some 103) (v := undef) (a' := ?_) #[true, true, true, true, true, true, true, true, true, true, true, true, true, true, true, true, true, true, true, true, true, true, true, true, true, true, true, true, false, false, false, false, false] rfl rfl (any_of HT_.out dq16) (fun _ _ _ h => h) (Or.inr ⟨dq29, rfl⟩) ?_ ?_
            rotate_left
            ·exact dAct
            refine pure_ (i := 28) (N := some 104) (v := undef) (a' := ?_) #[true, true, true, true, true, true, true, true, true, true, true, true, true, true, true, true, true, true, true, true, true, true, true, true, true, true, true, true, true, false, false, false, false] rfl rfl (any_of HT_.out dq16) (fun _ _ _ h => h) (Or.inr ⟨dq29, rfl⟩) ?_ ?_
            rotate_left
            ·exact dAct
            refine pure_ (i := 29) (N := some 105) (v := undef) (a' := ?_) #[true, true, true, true, true, true, true, true, true, true, true, true, true, true, true, true, true, true, true, true, true, true, true, true, true, true, true, true, true, true, false, false, false] rfl rfl (any_of HT_.out dq16) (fun _ _ _ h => h) (Or.inr ⟨dq29, rfl⟩) ?_ ?_
            rotate_left
            ·exact dAct
            refine pure_ (i := 30) (N := some 106) (v := undef) (a' := ?_) #[true, true, true, true, true, true, true, true, true, true, true, true, true, true, true, true, true, true, true, true, true, true, true, true, true, true, true, true, true, true, true, false, false] rfl rfl (any_of HT_.out dq16) (fun _ _ _ h => h) (Or.inr ⟨dq29, rfl⟩) ?_ ?_
            rotate_left
            ·exact dAct
            refine pure_ (i := 31) (N := some 107) (v := undef) (a' := ?_) #[true, true, true, true, true, true, true, true, true, true, true, true, true, true, true, true, true, true, true, true, true, true, true, true, true, true, true, true, true, true, true, true, false] rfl rfl (any_of HT_.out dq16) (fun _ _ _ h => h) (Or.inr ⟨dq29, rfl⟩) ?_ ?_
            rotate_left
            ·exact dAct
            refine pureA (i := 32) (N := some 108) #[true, true, true, true, true, true, true, true, true, true, true, true, true, true, true, true, true, true, true, true, true, true, true, true, true, true, true, true, true, true, true, true, true] ?_
            refine done_ (done_of HT_.out dq16) ?_
            try go_wp2
            go_ret
            exact ⟨dq20, dq30⟩
          ·replace c39 := Bool.eq_false_iff.mpr c39
           subst c39
           have H1 : (some false) = some r := by rw [if_neg (show ¬ (false = true) by decide)] at H; exact H
           clear H
           have H := H1
           clear H1
           obtain rfl := Option.some.inj H
           obtain ⟨⟨hcz49_0, hcz49_1, hcz49_2, hcz49_3, hcz49_4, hcz49_5, hcz49_6⟩, hfz49_0, hfz49_1, hfz49_2, hfz49_3, hfz49_4, hfz49_5, hfz49_6⟩ := blkC7 BK116.out
           try go_wp2
           have n0_ := Aside0.mk (blk_drew BK116.out)
           have n1_ := Aside0.mk (below_drew1 HB.out)
           clear BK116
           clear HB
           have BK116 := n0_
           have HB := n1_
           clear n0_ n1_
           have p117 : 0 ≤ (x3_2 : Int) := of_decide_eq_true dq21
           have q117 : x3_2 < (l0_2.length : Int) := of_decide_eq_true dq21
           obtain ⟨ad117, e117, hx117_0, hx117_1⟩ := at_T100 HR0_2.out x3_2 p117 q117
           have hw117_1 := hx117_1
           have hw117_0 := hx117_0
           cases e117
           replace hx117_0 := (HB.out.cell (World.block_lt_of_cell? w _ hx117_0)).trans hx117_0
           replace hx117_1 := (HB.out.cell (World.block_lt_of_cell? w _ hx117_1)).trans hx117_1
           replace p117 := eq_true p117
           replace q117 := eq_true q117
           refine start_ (n := 33) (S := fun w' => w'.cell? ⟨gb116, 0, none⟩ = some (.int .i64 a0_0) ∧ w'.cell? ⟨gb116, 1, none⟩ = some (.bool a0_1) ∧ w'.cell? ⟨gb116, 2, none⟩ = some (.slice (some ad117) l0_2.length c0_2) ∧ w'.cell? ⟨gb116, 3, none⟩ = some (.int .i64 a0_3) ∧ w'.cell? ⟨gb116, 4, none⟩ = some (.int .i64 a0_4) ∧ w'.cell? ⟨gb116, 5, none⟩ = some (.int .i64 a0_5) ∧ w'.cell? ⟨gb116, 6, none⟩ = some (.int .i64 a0_6) ∧ w'.cell? (ad117.add ((x3_2).toNat * 2)) = some (.int .i64 ((rd_T100 l0_2 x3_2).f0)) ∧ w'.cell? ⟨(ad117.add ((x3_2).toNat * 2)).block, (ad117.add ((x3_2).toNat * 2)).off + 1, none⟩ = some (.int .i64 ((rd_T100 l0_2 x3_2).f1))) (ds := []) #[false, false, false, false, false, false, false, false, false, false, false, false, false, false, false, false, false, false, false, false, false, false, false, false, false, false, false, false, false, false, false, false, false] dq16 rfl rfl ⟨(blk_cell BK116.out 0).trans rfl, (blk_cell BK116.out 1).trans rfl, (blk_cell BK116.out 2).trans rfl, (blk_cell BK116.out 3).trans rfl, (blk_cell BK116.out 4).trans rfl, (blk_cell BK116.out 5).trans rfl, (blk_cell BK116.out 6).trans rfl, ((HB.out.cell (World.block_lt_of_cell? w _ hw117_0)).trans hw117_0), ((HB.out.cell (World.block_lt_of_cell? w _ hw117_1)).trans hw117_1)⟩ (fun hHeld => ?_); refine with_tabW spec_l6NodeOk.tab10 spec_l6NodeOk.bits10 (fun HT_ HW_ => ?_)
           generalize wr.drew = w50 at BK116 HB hx117_0 hx117_1 hHeld ⊢
           refine pureA (i := 0) (N := some 76) #[true, false, false, false, false, false, false, false, false, false, false, false, false, false, false, false, false, false, false, false, false, false, false, false, false, false, false, false, false, false, false, false, false] ?_
           refine pureA (i := 2) (N := some 78) #[true, false, true, false, false, false, false, false, false, false, false, false, false, false, false, false, false, false, false, false, false, false, false, false, false, false, false, false, false, false, false, false, false] ?_
           refine takeA9 (i := 1) (N := some 77) #[true, true, true, false, false, false, false, false, false, false, false, false, false, false, false, false, false, false, false, false, false, false, false, false, false, false, false, false, false, false, false, false, false] ?_
           refine pureA (i := 3) (N := some 79) #[true, true, true, true, false, false, false, false, false, false, false, false, false, false, false, false, false, false, false, false, false, false, false, false, false, false, false, false, false, false, false, false, false] ?_
           refine pureA (i := 4) (N := some 80) #[true, true, true, true, true, false, false, false, false, false, false, false, false, false, false, false, false, false, false, false, false, false, false, false, false, false, false, false, false, false, false, false, false] ?_
           refine takeA9 (i := 5) (N := some 81) #[true, true, true, true, true, true, false, false, false, false, false, false, false, false, false, false, false, false, false, false, false, false, false, false, false, false, false, false, false, false, false, false, false] ?_
           refine one_ (i := 6) (N := some 82) #[true, true, true, true, true, true, true, false, false, false, false, false, false, false, false, false, false, false, false, false, false, false, false, false, false, false, false, false, false, false, false, false, false] rfl rfl (one_of HT_.out dq16) dq28 (fun K hK => ?_)
           refine goes_ Tryd.func122 dq16 rfl #[.int .i64 ((rd_T100 l0_2 x3_2).f0)] dq29 rfl rfl dq15 ?_
           with_reducible refine (spec_l1Char.calls ((rd_T100 l0_2 x3_2).f0) false _ A38.out).mono ?_
           rintro e w' ⟨rfl, ⟨nd, rfl⟩⟩
           refine ⟨_, rfl, ?_⟩
           refine hK.out _ _ ⟨(blk_cell BK116.out 0).trans rfl, (blk_cell BK116.out 1).trans rfl, (blk_cell BK116.out 2).trans rfl, (blk_cell BK116.out 3).trans rfl, (blk_cell BK116.out 4).trans rfl, (blk_cell BK116.out 5).trans rfl, (blk_cell BK116.out 6).trans rfl, ((HB.out.cell (World.block_lt_of_cell? w _ hw117_0)).trans hw117_0), ((HB.out.cell (World.block_lt_of_cell? w _ hw117_1)).trans hw117_1)⟩ (fun hHeld => ?_)
           clear hK K
           refine norm_ (a' := ?_) ?_ ?_
           rotate_left
           ·show Act.put _ (some 82) _ = _
            simp only [Act.put, List.setIfInBounds_toArray, List.set_cons_zero, List.set_cons_succ, i64_w, i32_w]
            rfl
           refine pureA (i := 7) (N := some 83) #[true, true, true, true, true, true, true, true, false, false, false, false, false, false, false, false, false, false, false, false, false, false, false, false, false, false, false, false, false, false, false, false, false] ?_
           refine pureA (i := 8) (N := some 84) #[true, true, true, true, true, true, true, true, true, false, false, false, false, false, false, false, false, false, false, false, false, false, false, false, false, false, false, false, false, false, false, false, false] ?_
           refine pure_ (i := 9) (N := some 85) (v := undef) (a' := ?_) #[true, true, true, true, true, true, true, true, true, true, false, false, false, false, false, false, false, false, false, false, false, false, false, false, false, false, false, false, false, false, false, false, false] rfl rfl (any_of HT_.out dq16) (fun _ _ _ h => h) (Or.inr ⟨dq29, rfl⟩) ?_ ?_
           rotate_left
           ·exact dAct
           refine pure_ (i := 10) (N := some 86) (v := undef) (a' := ?_) #[true, true, true, true, true, true, true, true, true, true, true, false, false, false, false, false, false, false, false, false, false, false, false, false, false, false, false, false, false, false, false, false, false] rfl rfl (any_of HT_.out dq16) (fun _ _ _ h => h) (Or.inr ⟨dq29, rfl⟩) ?_ ?_
           rotate_left
           ·exact dAct
           refine pure_ (i := 11) (N := some 87) (v := undef) (a' := ?_) #[true, true, true, true, true, true, true, true, true, true, true, true, false, false, false, false, false, false, false, false, false, false, false, false, false, false, false, false, false, false, false, false, false] rfl rfl (any_of HT_.out dq16) (fun _ _ _ h => h) (Or.inr ⟨dq29, rfl⟩) ?_ ?_
           rotate_left
           ·exact dAct
           refine pure_ (i := 12) (N := some 88) (v := undef) (a' := ?_) #[true, true, true, true, true, true, true, true, true, true, true, true, true, false, false, false, false, false, false, false, false, false, false, false, false, false, false, false, false, false, false, false, false] rfl rfl (any_of HT_.out dq16) (fun _ _ _ h => h) (Or.inr ⟨dq29, rfl⟩) ?_ ?_
           rotate_left
           ·exact dAct
           refine pure_ (i := 13) (N := some 89) (v := undef) (a' := ?_) #[true, true, true, true, true, true, true, true, true, true, true, true, true, true, false, false, false, false, false, false, false, false, false, false, false, false, false, false, false, false, false, false, false] rfl rfl (any_of HT_.out dq16) (fun _ _ _ h => h) (Or.inr ⟨dq29, rfl⟩) ?_ ?_
           rotate_left
           ·exact dAct
           refine pure_ (i := 14) (N := some 90) (v := undef) (a' := ?_) #[true, true, true, true, true, true, true, true, true, true, true, true, true, true, true, false, false, false, false, false, false, false, false, false, false, false, false, false, false, false, false, false, false] rfl rfl (any_of HT_.out dq16) (fun _ _ _ h => h) (Or.inr ⟨dq29, rfl⟩) ?_ ?_
           rotate_left
           ·exact dAct
           refine pure_ (i := 15) (N := some 91) (v := undef) (a' := ?_) #[true, true, true, true, true, true, true, true, true, true, true, true, true, true, true, true, false, false, false, false, false, false, false, false, false, false, false, false, false, false, false, false, false] rfl rfl (any_of HT_.out dq16) (fun _ _ _ h => h) (Or.inr ⟨dq29, rfl⟩) ?_ ?_
           rotate_left
           ·exact dAct
           refine pure_ (i := 16) (N := some 92) (v := undef) (a' := ?_) #[true, true, true, true, true, true, true, true, true, true, true, true, true, true, true, true, true, false, false, false, false, false, false, false, false, false, false, false, false, false, false, false, false] rfl rfl (any_of HT_.out dq16) (fun _ _ _ h => h) (Or.inr ⟨dq29, rfl⟩) ?_ ?_
           rotate_left
           ·exact dAct
           refine pureA (i := 17) (N := some 93) #[true, true, true, true, true, true, true, true, true, true, true, true, true, true, true, true, true, true, false, false, false, false, false, false, false, false, false, false, false, false, false, false, false] ?_
           refine pureA (i := 18) (N := some 94) #[true, true, true, true, true, true, true, true, true, true, true, true, true, true, true, true, true, true, true, false, false, false, false, false, false, false, false, false, false, false, false, false, false] ?_
           refine pure_ (i := 19) (N := some 95) (v := undef) (a' := ?_) #[true, true, true, true, true, true, true, true, true, true, true, true, true, true, true, true, true, true, true, true, false, false, false, false, false, false, false, false, false, false, false, false, false] rfl rfl (any_of HT_.out dq16) (fun _ _ _ h => h) (Or.inr ⟨dq29, rfl⟩) ?_ ?_
           rotate_left
           ·exact dAct
           refine pure_ (i := 20) (N := some 96) (v := undef) (a' := ?_) #[true, true, true, true, true, true, true, true, true, true, true, true, true, true, true, true, true, true, true, true, true, false, false, false, false, false, false, false, false, false, false, false, false] rfl rfl (any_of HT_.out dq16) (fun _ _ _ h => h) (Or.inr ⟨dq29, rfl⟩) ?_ ?_
           rotate_left
           ·exact dAct
           refine pure_ (i := 21) (N := some 97) (v := undef) (a' := ?_) #[true, true, true, true, true, true, true, true, true, true, true, true, true, true, true, true, true, true, true, true, true, true, false, false, false, false, false, false, false, false, false, false, false] rfl rfl (any_of HT_.out dq16) (fun _ _ _ h => h) (Or.inr ⟨dq29, rfl⟩) ?_ ?_
           rotate_left
           ·exact dAct
           refine pure_ (i := 22) (N := some 98) (v := undef) (a' := ?_) #[true, true, true, true, true, true, true, true, true, true, true, true, true, true, true, true, true, true, true, true, true, true, true, false, false, false, false, false, false, false, false, false, false] rfl rfl (any_of HT_.out dq16) (fun _ _ _ h => h) (Or.inr ⟨dq29, rfl⟩) ?_ ?_
           rotate_left
           ·exact dAct
           refine pure_ (i := 23) (N := some 99) (v := undef) (a' := ?_) #[true, true, true, true, true, true, true, true, true, true, true, true, true, true, true, true, true, true, true, true, true, true, true, true, false, false, false, false, false, false, false, false, false] rfl rfl (any_of HT_.out dq16) (fun _ _ _ h => h) (Or.inr ⟨dq29, rfl⟩) ?_ ?_
           rotate_left
           ·exact dAct
           refine pure_ (i := 24) (N := some 100) (v := undef) (a' := ?_) #[true, true, true, true, true, true, true, true, true, true, true, true, true, true, true, true, true, true, true, true, true, true, true, true, true, false, false, false, false, false, false, false, false] rfl rfl (any_of HT_.out dq16) (fun _ _ _ h => h) (Or.inr ⟨dq29, rfl⟩) ?_ ?_
           rotate_left
           ·exact dAct
           refine pure_ (i := 25) (N := some 101) (v := undef) (a' := ?_) #[true, true, true, true, true, true, true, true, true, true, true, true, true, true, true, true, true, true, true, true, true, true, true, true, true, true, false, false, false, false, false, false, false] rfl rfl (any_of HT_.out dq16) (fun _ _ _ h => h) (Or.inr ⟨dq29, rfl⟩) ?_ ?_
           rotate_left
           ·exact dAct
           refine pure_ (i := 26) (N := some 102) (v := undef) (a' := ?_) #[true, true, true, true, true, true, true, true, true, true, true, true, true, true, true, true, true, true, true, true, true, true, true, true, true, true, true, false, false, false, false, false, false] rfl rfl (any_of HT_.out dq16) (fun _ _ _ h => h) (Or.inr ⟨dq29, rfl⟩) ?_ ?_
           rotate_left
           ·exact dAct
           refine pure_ (i := 27) (N := some 103) (v := undef) (a' := ?_) #[true, true, true, true, true, true, true, true, true, true, true, true, true, true, true, true, true, true, true, true, true, true, true, true, true, true, true, true, false, false, false, false, false] rfl rfl (any_of HT_.out dq16) (fun _ _ _ h => h) (Or.inr ⟨dq29, rfl⟩) ?_ ?_
           rotate_left
           ·exact dAct
           refine pure_ (i := 28) (N := some 104) (v := undef) (a' := ?_) #[true, true, true, true, true, true, true, true, true, true, true, true, true, true, true, true, true, true, true, true, true, true, true, true, true, true, true, true, true, false, false, false, false] rfl rfl (any_of HT_.out dq16) (fun _ _ _ h => h) (Or.inr ⟨dq29, rfl⟩) ?_ ?_
           rotate_left
           ·exact dAct
           refine pure_ (i := 29) (N := some 105) (v := undef) (a' := ?_) #[true, true, true, true, true, true, true, true, true, true, true, true, true, true, true, true, true, true, true, true, true, true, true, true, true, true, true, true, true, true, false, false, false] rfl rfl (any_of HT_.out dq16) (fun _ _ _ h => h) (Or.inr ⟨dq29, rfl⟩) ?_ ?_
           rotate_left
           ·exact dAct
           refine pure_ (i := 30) (N := some 106) (v := undef) (a' := ?_) #[true, true, true, true, true, true, true, true, true, true, true, true, true, true, true, true, true, true, true, true, true, true, true, true, true, true, true, true, true, true, true, false, false] rfl rfl (any_of HT_.out dq16) (fun _ _ _ h => h) (Or.inr ⟨dq29, rfl⟩) ?_ ?_
           rotate_left
           ·exact dAct
           refine pure_ (i := 31) (N := some 107) (v := undef) (a' := ?_) #[true, true, true, true, true, true, true, true, true, true, true, true, true, true, true, true, true, true, true, true, true, true, true, true, true, true, true, true, true, true, true, true, false] rfl rfl (any_of HT_.out dq16) (fun _ _ _ h => h) (Or.inr ⟨dq29, rfl⟩) ?_ ?_
           rotate_left
           ·exact dAct
           refine pureA (i := 32) (N := some 108) #[true, true, true, true, true, true, true, true, true, true, true, true, true, true, true, true, true, true, true, true, true, true, true, true, true, true, true, true, true, true, true, true, true] ?_
           refine done_ (done_of HT_.out dq16) ?_
           try go_wp2
           go_ret
           exact ⟨dq20, dq30⟩
         ·rw [if_neg c37] at H
          exact absurd H dq23
        ·rw [if_neg c36] at H
         have c36b0 := decide_eq_false c36
         clear c36
         obtain rfl := Option.some.inj H
         obtain ⟨⟨hcz51_0, hcz51_1, hcz51_2, hcz51_3, hcz51_4, hcz51_5, hcz51_6⟩, hfz51_0, hfz51_1, hfz51_2, hfz51_3, hfz51_4, hfz51_5, hfz51_6⟩ := blkC7 BK116.out
         go_wp2
         go_ret
         exact ⟨dq20, dq30⟩
  ·rw [if_neg c20] at H
   have c20b0 := beq_eq_false_iff_ne.mpr c20
   have c20b1 := bne_iff_ne.mpr c20
   have HC52 := Aside0.mk H
   clear H
   go_enter Tryd.func106, Tryd.ntmps106
   go_upto_if 109 with (first | ((with_reducible refine gate_dst (N := 1) rfl ?_); (try (refine gate_guard dq29 ?_; dsimp only)); refine box_event ?hg (N := 1) ?hd (cs := #[.int .i64 a0_0, .bool a0_1, .slice A0_2 l0_2.length c0_2, .int .i64 a0_3, .int .i64 a0_4, .int .i64 a0_5, .int .i64 a0_6]) (t := 93) ?hr ?_; (case hd => rfl); (case hg => rfl); (case hr => exact dq0); intro gb116 hg w53 hbox hb; have n0_ := Aside0.mk (below_step dq18 hb); have n1_ := Aside0.mk (hbox); have n2_ := Aside0.mk ((dq17 : w.heap.size ≤ gb116)); have n3_ := Aside0.mk ((dq17 : w.heap.size ≤ gb116)); clear HB; have HB := n0_; have BK116 := n1_; have GW116 := n2_; have GE116 := n3_; clear n0_ n1_ n2_ n3_; clear hb hbox hg; obtain ⟨⟨hcz54_0, hcz54_1, hcz54_2, hcz54_3, hcz54_4, hcz54_5, hcz54_6⟩, hfz54_0, hfz54_1, hfz54_2, hfz54_3, hfz54_4, hfz54_5, hfz54_6⟩ := blkC7 BK116.out))
   (try simp only [Act.put, List.setIfInBounds_toArray, List.set_cons_zero, List.set_cons_succ])
   go_cut [109] (fun v109 wc => ∃ (kq : Nat) (x109_51 : Bool), v109 = .bool x109_51 ∧ Aside0 (spec_l6NodeOk.j2 kq a0_0 x109_51 a0_0 a0_1 l0_2 a0_3 a0_4 a0_5 a0_6 = some r) ∧ Aside0 (kq ≤ k) ∧ Aside0 (wc.heap[gb116]? = some (.cells #[.int .i64 a0_0, .bool a0_1, (.slice A0_2 l0_2.length c0_2), .int .i64 a0_3, .int .i64 a0_4, .int .i64 a0_5, .int .i64 a0_6] 93 (0, 0))) ∧ Aside0 (Below w.heap.size w wc))
   case first =>
    have H := HC52.out
    clear HC52
    by_cases c55 : a0_0 = 3
    ·rw [if_pos c55] at H
     have c55b0 := beq_iff_eq.mpr c55
     have c55b1 := bne_eq_false_iff_eq.mpr c55
     clear c55
     (first | rw [c55b0] | (simp only [i64_w, i32_w]; rw [c55b0]) | skip)
     have H' := Aside0.mk H
     clear H
     go_wp2
     go_meet
     case rel => exact ⟨_, ((a0_0 == 3)), dq14, H', ⟨dq25⟩, ⟨dq31⟩, ⟨dq30⟩⟩
    ·rw [if_neg c55] at H
     have c55b0 := beq_eq_false_iff_ne.mpr c55
     have c55b1 := bne_iff_ne.mpr c55
     (first | rw [c55b0] | (simp only [i64_w, i32_w]; rw [c55b0]) | skip)
     have H' := Aside0.mk H
     clear H
     go_wp2
     go_meet
     case rel => exact ⟨_, ((a0_0 == 4)), dq14, H', ⟨dq25⟩, ⟨dq31⟩, ⟨dq30⟩⟩
   case rest =>
    clear HC52
    try clear c1
    try clear p1
    try clear q1
    try clear hx1
    try clear c2
    try clear p2
    try clear c3
    try clear c4
    try clear c5
    try clear p6
    try clear c10
    try clear p11
    try clear q11
    try clear hx11
    try clear c12
    try clear c20
    try clear c20b0
    try clear c20b1
    try clear c36
    try clear c36b0
    try clear c37
    try clear c39
    try clear c41
    try clear c55
    try clear c55b0
    try clear c55b1
    try clear hcz47_0
    try clear hcz47_1
    try clear hcz47_2
    try clear hcz47_3
    try clear hcz47_4
    try clear hcz47_5
    try clear hcz47_6
    try clear hcz49_0
    try clear hcz49_1
    try clear hcz49_2
    try clear hcz49_3
    try clear hcz49_4
    try clear hcz49_5
    try clear hcz49_6
    try clear hcz51_0
    try clear hcz51_1
    try clear hcz51_2
    try clear hcz51_3
    try clear hcz51_4
    try clear hcz51_5
    try clear hcz51_6
    try clear hcz54_0
    try clear hcz54_1
    try clear hcz54_2
    try clear hcz54_3
    try clear hcz54_4
    try clear hcz54_5
    try clear hcz54_6
    try clear hfz47_0
    try clear hfz47_1
    try clear hfz47_2
    try clear hfz47_3
    try clear hfz47_4
    try clear hfz47_5
    try clear hfz47_6
    try clear hfz49_0
    try clear hfz49_1
    try clear hfz49_2
    try clear hfz49_3
    try clear hfz49_4
    try clear hfz49_5
    try clear hfz49_6
    try clear hfz51_0
    try clear hfz51_1
    try clear hfz51_2
    try clear hfz51_3
    try clear hfz51_4
    try clear hfz51_5
    try clear hfz51_6
    try clear hfz54_0
    try clear hfz54_1
    try clear hfz54_2
    try clear hfz54_3
    try clear hfz54_4
    try clear hfz54_5
    try clear hfz54_6
    try clear hx117_0
    try clear hx117_1
    try clear hx119_0
    try clear hx119_1
    try clear p117
    try clear p119
    try clear q117
    try clear q119
    obtain ⟨kq, x109_51, rfl, HA, HJ51, BK116, HB⟩ := hcut
    cases kq with
    | zero => exact absurd HA.out (by simp [spec_l6NodeOk.j2])
    | succ kj51 =>
     have H := HA.out
     clear HA
     simp only [spec_l6NodeOk.j2] at H
     by_cases c56 : x109_51 = true
     ·subst c56
      have H1 : (if a0_1 = true then (some false) else (if (l0_2.length : Int) = 0 then (if a0_5 = 0 then (some (a0_6 == 0)) else (some false)) else (some false))) = some r := by rw [if_pos rfl] at H; exact H
      clear H
      have H := H1
      clear H1
      by_cases c57 : a0_1 = true
      ·subst c57
       have H1 : (some false) = some r := by rw [if_pos rfl] at H; exact H
       clear H
       have H := H1
       clear H1
       obtain rfl := Option.some.inj H
       obtain ⟨⟨hcz58_0, hcz58_1, hcz58_2, hcz58_3, hcz58_4, hcz58_5, hcz58_6⟩, hfz58_0, hfz58_1, hfz58_2, hfz58_3, hfz58_4, hfz58_5, hfz58_6⟩ := blkC7 BK116.out
       go_wp2
       go_ret
       exact ⟨dq20, dq30⟩
      ·replace c57 := Bool.eq_false_iff.mpr c57
       subst c57
       have H1 : (if (l0_2.length : Int) = 0 then (if a0_5 = 0 then (some (a0_6 == 0)) else (some false)) else (some false)) = some r := by rw [if_neg (show ¬ (false = true) by decide)] at H; exact H
       clear H
       have H := H1
       clear H1
       by_cases c59 : (l0_2.length : Int) = 0
       ·rw [if_pos c59] at H
        have c59b0 := beq_iff_eq.mpr c59
        have c59b1 := bne_eq_false_iff_eq.mpr c59
        clear c59
        by_cases c60 : a0_5 = 0
        ·rw [if_pos c60] at H
         have c60b0 := beq_iff_eq.mpr c60
         have c60b1 := bne_eq_false_iff_eq.mpr c60
         clear c60
         obtain rfl := Option.some.inj H
         obtain ⟨⟨hcz61_0, hcz61_1, hcz61_2, hcz61_3, hcz61_4, hcz61_5, hcz61_6⟩, hfz61_0, hfz61_1, hfz61_2, hfz61_3, hfz61_4, hfz61_5, hfz61_6⟩ := blkC7 BK116.out
         go_wp2
         go_ret
         exact ⟨dq20, dq30⟩
        ·rw [if_neg c60] at H
         have c60b0 := beq_eq_false_iff_ne.mpr c60
         have c60b1 := bne_iff_ne.mpr c60
         obtain rfl := Option.some.inj H
         obtain ⟨⟨hcz62_0, hcz62_1, hcz62_2, hcz62_3, hcz62_4, hcz62_5, hcz62_6⟩, hfz62_0, hfz62_1, hfz62_2, hfz62_3, hfz62_4, hfz62_5, hfz62_6⟩ := blkC7 BK116.out
         go_wp2
         go_ret
         exact ⟨dq20, dq30⟩
       ·rw [if_neg c59] at H
        have c59b0 := beq_eq_false_iff_ne.mpr c59
        have c59b1 := bne_iff_ne.mpr c59
        have c59b2 : ¬ (l0_2 = []) := fun h_ => c59 (by rw [h_]; rfl)
        obtain rfl := Option.some.inj H
        obtain ⟨⟨hcz63_0, hcz63_1, hcz63_2, hcz63_3, hcz63_4, hcz63_5, hcz63_6⟩, hfz63_0, hfz63_1, hfz63_2, hfz63_3, hfz63_4, hfz63_5, hfz63_6⟩ := blkC7 BK116.out
        go_wp2
        go_ret
        exact ⟨dq20, dq30⟩
     ·replace c56 := Bool.eq_false_iff.mpr c56
      subst c56
      have H1 : (if a0_0 = 5 then (if a0_1 = true then (some false) else (if (l0_2.length : Int) = 0 then (if a0_4 = 0 then ((spec_l1In.f a0_5 0 20).bind fun t123 => (if t123 = true then (if a0_6 = (-1) then (some true) else ((spec_l1In.f a0_6 a0_5 20).bind fun t124 => (some t124))) else (some false))) else (some false)) else (some false))) else (some false)) = some r := by rw [if_neg (show ¬ (false = true) by decide)] at H; exact H
      clear H
      have H := H1
      clear H1
      by_cases c64 : a0_0 = 5
      ·rw [if_pos c64] at H
       have c64b0 := beq_iff_eq.mpr c64
       have c64b1 := bne_eq_false_iff_eq.mpr c64
       clear c64
       by_cases c65 : a0_1 = true
       ·subst c65
        have H1 : (some false) = some r := by rw [if_pos rfl] at H; exact H
        clear H
        have H := H1
        clear H1
        obtain rfl := Option.some.inj H
        obtain ⟨⟨hcz66_0, hcz66_1, hcz66_2, hcz66_3, hcz66_4, hcz66_5, hcz66_6⟩, hfz66_0, hfz66_1, hfz66_2, hfz66_3, hfz66_4, hfz66_5, hfz66_6⟩ := blkC7 BK116.out
        go_wp2
        go_ret
        exact ⟨dq20, dq30⟩
       ·replace c65 := Bool.eq_false_iff.mpr c65
        subst c65
        have H1 : (if (l0_2.length : Int) = 0 then (if a0_4 = 0 then ((spec_l1In.f a0_5 0 20).bind fun t123 => (if t123 = true then (if a0_6 = (-1) then (some true) else ((spec_l1In.f a0_6 a0_5 20).bind fun t124 => (some t124))) else (some false))) else (some false)) else (some false)) = some r := by rw [if_neg (show ¬ (false = true) by decide)] at H; exact H
        clear H
        have H := H1
        clear H1
        by_cases c67 : (l0_2.length : Int) = 0
        ·rw [if_pos c67] at H
         have c67b0 := beq_iff_eq.mpr c67
         have c67b1 := bne_eq_false_iff_eq.mpr c67
         clear c67
         by_cases c68 : a0_4 = 0
         ·rw [if_pos c68] at H
          have c68b0 := beq_iff_eq.mpr c68
          have c68b1 := bne_eq_false_iff_eq.mpr c68
          clear c68
          replace H := Option.bind_eq_some_iff.mp H
          obtain ⟨t123, A690, H⟩ := H
          replace H : (if t123 = true then (if a0_6 = (-1) then (some true) else ((spec_l1In.f a0_6 a0_5 20).bind fun t124 => (some t124))) else (some false)) = some r := H
          have A69 := Aside0.mk A690
          clear A690
          by_cases c70 : t123 = true
          ·subst c70
           have H1 : (if a0_6 = (-1) then (some true) else ((spec_l1In.f a0_6 a0_5 20).bind fun t124 => (some t124))) = some r := by rw [if_pos rfl] at H; exact H
           clear H
           have H := H1
           clear H1
           by_cases c71 : a0_6 = (-1)
           ·rw [if_pos c71] at H
            have c71b0 := beq_iff_eq.mpr c71
            have c71b1 := bne_eq_false_iff_eq.mpr c71
            clear c71
            obtain rfl := Option.some.inj H
            obtain ⟨⟨hcz72_0, hcz72_1, hcz72_2, hcz72_3, hcz72_4, hcz72_5, hcz72_6⟩, hfz72_0, hfz72_1, hfz72_2, hfz72_3, hfz72_4, hfz72_5, hfz72_6⟩ := blkC7 BK116.out
            go_wp2_with (first | (go_at_call 90; (with_reducible refine (spec_l1In.calls a0_5 0 20 true _ A69.out).mono ?_); rintro e w' ⟨rfl, ⟨nd, rfl⟩⟩))
            go_ret
            exact ⟨dq20, dq30⟩
           ·rw [if_neg c71] at H
            have c71b0 := beq_eq_false_iff_ne.mpr c71
            have c71b1 := bne_iff_ne.mpr c71
            replace H := Option.bind_eq_some_iff.mp H
            obtain ⟨t124, A730, H⟩ := H
            replace H : (some t124) = some r := H
            have A73 := Aside0.mk A730
            clear A730
            obtain rfl := Option.some.inj H
            obtain ⟨⟨hcz74_0, hcz74_1, hcz74_2, hcz74_3, hcz74_4, hcz74_5, hcz74_6⟩, hfz74_0, hfz74_1, hfz74_2, hfz74_3, hfz74_4, hfz74_5, hfz74_6⟩ := blkC7 BK116.out
            go_wp2_with (first | (go_at_call 90; (with_reducible refine (spec_l1In.calls a0_5 0 20 true _ A69.out).mono ?_); rintro e w' ⟨rfl, ⟨nd, rfl⟩⟩) | (go_at_call 90; (with_reducible refine (spec_l1In.calls a0_6 a0_5 20 t124 _ A73.out).mono ?_); rintro e w' ⟨rfl, ⟨nd, rfl⟩⟩))
            go_ret
            exact ⟨dq20, dq30⟩
          ·replace c70 := Bool.eq_false_iff.mpr c70
           subst c70
           have H1 : (some false) = some r := by rw [if_neg (show ¬ (false = true) by decide)] at H; exact H
           clear H
           have H := H1
           clear H1
           obtain rfl := Option.some.inj H
           obtain ⟨⟨hcz75_0, hcz75_1, hcz75_2, hcz75_3, hcz75_4, hcz75_5, hcz75_6⟩, hfz75_0, hfz75_1, hfz75_2, hfz75_3, hfz75_4, hfz75_5, hfz75_6⟩ := blkC7 BK116.out
           go_wp2_with (first | (go_at_call 90; (with_reducible refine (spec_l1In.calls a0_5 0 20 false _ A69.out).mono ?_); rintro e w' ⟨rfl, ⟨nd, rfl⟩⟩))
           go_ret
           exact ⟨dq20, dq30⟩
         ·rw [if_neg c68] at H
          have c68b0 := beq_eq_false_iff_ne.mpr c68
          have c68b1 := bne_iff_ne.mpr c68
          obtain rfl := Option.some.inj H
          obtain ⟨⟨hcz76_0, hcz76_1, hcz76_2, hcz76_3, hcz76_4, hcz76_5, hcz76_6⟩, hfz76_0, hfz76_1, hfz76_2, hfz76_3, hfz76_4, hfz76_5, hfz76_6⟩ := blkC7 BK116.out
          go_wp2
          go_ret
          exact ⟨dq20, dq30⟩
        ·rw [if_neg c67] at H
         have c67b0 := beq_eq_false_iff_ne.mpr c67
         have c67b1 := bne_iff_ne.mpr c67
         have c67b2 : ¬ (l0_2 = []) := fun h_ => c67 (by rw [h_]; rfl)
         obtain rfl := Option.some.inj H
         obtain ⟨⟨hcz77_0, hcz77_1, hcz77_2, hcz77_3, hcz77_4, hcz77_5, hcz77_6⟩, hfz77_0, hfz77_1, hfz77_2, hfz77_3, hfz77_4, hfz77_5, hfz77_6⟩ := blkC7 BK116.out
         go_wp2
         go_ret
         exact ⟨dq20, dq30⟩
      ·rw [if_neg c64] at H
       have c64b0 := beq_eq_false_iff_ne.mpr c64
       have c64b1 := bne_iff_ne.mpr c64
       obtain rfl := Option.some.inj H
       go_wp2
       go_ret
       exact ⟨dq20, dq30⟩

/-! ### spec_l6Tree: function 107 -/
mutual
def spec_l6Tree.j0 : Nat → List (S93) → Int → Int → Bool → Option (Int)
 | 0, _, _, _, _ => none
 | k + 1, x0, x1, x12, x13 => if x13 = true then (if 0 ≤ x1 then (if x1 < (x0.length : Int) then (if ((rd_T93 x0 x1).f4) = (wrap64 (x1 - 1)) then ((spec_l6Tree.f k x0 (wrap64 (x1 - 1))).bind fun t127 => (if t127 < 1 then (some (-1)) else (if ((rd_T93 x0 x1).f3) = (wrap64 (t127 - 1)) then ((spec_l6Tree.f k x0 (wrap64 (t127 - 1))).bind fun t129 => (some t129)) else (some (-1))))) else (some (-1))) else (none)) else (none)) else (if x12 = 5 then (if 0 ≤ x1 then (if x1 < (x0.length : Int) then (if ((rd_T93 x0 x1).f3) = (wrap64 (x1 - 1)) then ((spec_l6Tree.f k x0 (wrap64 (x1 - 1))).bind fun t131 => (some t131)) else (some (-1))) else (none)) else (none)) else (some x1))
def spec_l6Tree.f : Nat → List (S93) → Int → Option (Int)
 | 0, _, _ => none
 | k + 1, l0, a1 => if a1 < 0 then (some (-1)) else (if 0 ≤ a1 then (if a1 < (l0.length : Int) then (if ((rd_T93 l0 a1).f0) = 3 then (spec_l6Tree.j0 k l0 a1 ((rd_T93 l0 a1).f0) (((rd_T93 l0 a1).f0) == 3)) else (spec_l6Tree.j0 k l0 a1 ((rd_T93 l0 a1).f0) (((rd_T93 l0 a1).f0) == 4))) else (none)) else (none))
end
set_option maxHeartbeats 8000000 in
set_option maxRecDepth 100000 in
theorem spec_l6Tree.calls (k : Nat) : ∀ (A0 : Option Addr) (c0 : Nat) (l0 : List (S93)) (a1 : Int) (r : Int) (w : World) (hr0 : Kd.C k93 w A0 l0.length l0) (hc0 : l0.length ≤ c0) (h : spec_l6Tree.f k l0 a1 = some r),
  Calls Tryd.prog 107 #[.slice A0 l0.length c0, .int .i64 a1] w fun e w' => e = .returned (.int .i64 r) ∧ Drawn0 w w' := by
 induction k using Nat.strongRecOn with
 | _ k ih =>
 intro A0 c0 l0 a1 r w hr0 hc0 h
 cases k with
 | zero => exact absurd h (by simp [spec_l6Tree.f])
 | succ k =>
 simp only [spec_l6Tree.f] at h
 have HR0 := Aside0.mk hr0
 have HC0 := Aside0.mk hc0
 clear hr0 hc0
 have H : (if a1 < 0 then (some (-1)) else (if 0 ≤ a1 then (if a1 < (l0.length : Int) then (if ((rd_T93 l0 a1).f0) = 3 then (spec_l6Tree.j0 k l0 a1 ((rd_T93 l0 a1).f0) (((rd_T93 l0 a1).f0) == 3)) else (spec_l6Tree.j0 k l0 a1 ((rd_T93 l0 a1).f0) (((rd_T93 l0 a1).f0) == 4))) else (none)) else (none))) = some r := h
 clear h
 by_cases c3 : a1 < 0
 ·rw [if_pos c3] at H
  have c3b0 := decide_eq_true c3
  clear c3
  obtain rfl := Option.some.inj H
  go_enter Tryd.func107, Tryd.ntmps107
  go_wp2
  go_ret
  exact ⟨dq14, dq13⟩
 ·rw [if_neg c3] at H
  have c3b0 := decide_eq_false c3
  clear c3
  by_cases c4 : 0 ≤ a1
  ·rw [if_pos c4] at H
   have c4b0 := decide_eq_true c4
   clear c4
   by_cases c5 : a1 < (l0.length : Int)
   ·rw [if_pos c5] at H
    have c5b0 := decide_eq_true c5
    clear c5
    have HC6 := Aside0.mk H
    clear H
    have p125 : 0 ≤ (a1 : Int) := of_decide_eq_true dq21
    have q125 : a1 < (l0.length : Int) := of_decide_eq_true dq21
    obtain ⟨ad125, A125_2, c125_2, e125, hx125_0, hx125_1, hx125_2, hx125_3, hx125_4, hx125_5, hx125_6, hl125_2, hi125_2⟩ := at_T93 HR0.out a1 p125 q125
    cases e125
    have HR125_2 := Aside0.mk hi125_2
    have HC125_2 := Aside0.mk hl125_2
    clear hi125_2 hl125_2
    replace p125 := eq_true p125
    replace q125 := eq_true q125
    go_enter Tryd.func107, Tryd.ntmps107
    go_upto_if 13 with (fail)
    go_cut [13] (fun v13 wc => ∃ (kq : Nat) (x13_5 : Bool), v13 = .bool x13_5 ∧ Aside0 (spec_l6Tree.j0 kq l0 a1 ((rd_T93 l0 a1).f0) x13_5 = some r) ∧ Aside0 (kq ≤ k) ∧ Drawn0 w wc)
    case first =>
     have H := HC6.out
     clear HC6
     by_cases c7 : ((rd_T93 l0 a1).f0) = 3
     ·rw [if_pos c7] at H
      have c7b0 := beq_iff_eq.mpr c7
      have c7b1 := bne_eq_false_iff_eq.mpr c7
      clear c7
      (first | rw [c7b0] | (simp only [i64_w, i32_w]; rw [c7b0]) | skip)
      have H' := Aside0.mk H
      clear H
      go_wp2
      go_meet
      case rel => exact ⟨_, ((((rd_T93 l0 a1).f0) == 3)), dq14, H', ⟨dq25⟩, dq13⟩
     ·rw [if_neg c7] at H
      have c7b0 := beq_eq_false_iff_ne.mpr c7
      have c7b1 := bne_iff_ne.mpr c7
      (first | rw [c7b0] | (simp only [i64_w, i32_w]; rw [c7b0]) | skip)
      have H' := Aside0.mk H
      clear H
      go_wp2
      go_meet
      case rel => exact ⟨_, ((((rd_T93 l0 a1).f0) == 4)), dq14, H', ⟨dq25⟩, dq13⟩
    case rest =>
     clear HC6
     try clear c1
     try clear p1
     try clear q1
     try clear hx1
     try clear p2
     try clear c3
     try clear c3b0
     try clear c4
     try clear c4b0
     try clear c5
     try clear c5b0
     try clear c7
     try clear c7b0
     try clear c7b1
     try clear hx125_0
     try clear hx125_1
     try clear hx125_2
     try clear hx125_3
     try clear hx125_4
     try clear hx125_5
     try clear hx125_6
     try clear p125
     try clear q125
     obtain ⟨kq, x13_5, rfl, HA, HJ5, ⟨mc5, rfl⟩⟩ := hcut
     cases kq with
     | zero => exact absurd HA.out (by simp [spec_l6Tree.j0])
     | succ kj5 =>
      have H := HA.out
      clear HA
      simp only [spec_l6Tree.j0] at H
      by_cases c8 : x13_5 = true
      ·subst c8
       have H1 : (if 0 ≤ a1 then (if a1 < (l0.length : Int) then (if ((rd_T93 l0 a1).f4) = (wrap64 (a1 - 1)) then ((spec_l6Tree.f kj5 l0 (wrap64 (a1 - 1))).bind fun t127 => (if t127 < 1 then (some (-1)) else (if ((rd_T93 l0 a1).f3) = (wrap64 (t127 - 1)) then ((spec_l6Tree.f kj5 l0 (wrap64 (t127 - 1))).bind fun t129 => (some t129)) else (some (-1))))) else (some (-1))) else (none)) else (none)) = some r := by rw [if_pos rfl] at H; exact H
       clear H
       have H := H1
       clear H1
       by_cases c9 : 0 ≤ a1
       ·rw [if_pos c9] at H
        have c9b0 := decide_eq_true c9
        clear c9
        by_cases c10 : a1 < (l0.length : Int)
        ·rw [if_pos c10] at H
         have c10b0 := decide_eq_true c10
         clear c10
         by_cases c11 : ((rd_T93 l0 a1).f4) = (wrap64 (a1 - 1))
         ·rw [if_pos c11] at H
          have c11b0 := beq_iff_eq.mpr c11
          have c11b1 := bne_eq_false_iff_eq.mpr c11
          clear c11
          replace H := Option.bind_eq_some_iff.mp H
          obtain ⟨t127, A120, H⟩ := H
          replace H : (if t127 < 1 then (some (-1)) else (if ((rd_T93 l0 a1).f3) = (wrap64 (t127 - 1)) then ((spec_l6Tree.f kj5 l0 (wrap64 (t127 - 1))).bind fun t129 => (some t129)) else (some (-1)))) = some r := H
          have A12 := Aside0.mk A120
          clear A120
          by_cases c13 : t127 < 1
          ·rw [if_pos c13] at H
           have c13b0 := decide_eq_true c13
           clear c13
           obtain rfl := Option.some.inj H
           have p126 : 0 ≤ (a1 : Int) := of_decide_eq_true dq21
           have q126 : a1 < (l0.length : Int) := of_decide_eq_true dq21
           obtain ⟨ad126, A126_2, c126_2, e126, hx126_0, hx126_1, hx126_2, hx126_3, hx126_4, hx126_5, hx126_6, hl126_2, hi126_2⟩ := at_T93 HR0.out a1 p126 q126
           obtain rfl : ad125 = ad126 := (by injection e126)
           have HR126_2 := Aside0.mk hi126_2
           have HC126_2 := Aside0.mk hl126_2
           clear hi126_2 hl126_2
           replace p126 := eq_true p126
           replace q126 := eq_true q126
           go_wp2_with (first | ((with_reducible refine gate_callee (f := 107) rfl ?_); refine goesL_ (some 27) rfl rfl Tryd.func107 dq16 rfl #[.slice (some ad125) l0.length c0, .int .i64 (wrap64 (a1 - 1))] rfl dq15 ?_; (with_reducible refine (ih kj5 (by have := HJ5.out; omega) _ _ l0 (wrap64 (a1 - 1)) t127 _ ?side1 ?side2 A12.out).mono ?_); (case side1 => exact dq2); (case side2 => exact dq3); rintro e w' ⟨rfl, ⟨nd, rfl⟩⟩; refine ⟨_, rfl, ?_⟩))
           go_ret
           exact ⟨dq14, dq13⟩
          ·rw [if_neg c13] at H
           have c13b0 := decide_eq_false c13
           clear c13
           by_cases c14 : ((rd_T93 l0 a1).f3) = (wrap64 (t127 - 1))
           ·rw [if_pos c14] at H
            have c14b0 := beq_iff_eq.mpr c14
            have c14b1 := bne_eq_false_iff_eq.mpr c14
            clear c14
            replace H := Option.bind_eq_some_iff.mp H
            obtain ⟨t129, A150, H⟩ := H
            replace H : (some t129) = some r := H
            have A15 := Aside0.mk A150
            clear A150
            obtain rfl := Option.some.inj H
            have p126 : 0 ≤ (a1 : Int) := of_decide_eq_true dq21
            have q126 : a1 < (l0.length : Int) := of_decide_eq_true dq21
            obtain ⟨ad126, A126_2, c126_2, e126, hx126_0, hx126_1, hx126_2, hx126_3, hx126_4, hx126_5, hx126_6, hl126_2, hi126_2⟩ := at_T93 HR0.out a1 p126 q126
            obtain rfl : ad125 = ad126 := (by injection e126)
            have HR126_2 := Aside0.mk hi126_2
            have HC126_2 := Aside0.mk hl126_2
            clear hi126_2 hl126_2
            replace p126 := eq_true p126
            replace q126 := eq_true q126
            go_wp2_with (first | ((with_reducible refine gate_callee (f := 107) rfl ?_); refine goesL_ (some 27) rfl rfl Tryd.func107 dq16 rfl #[.slice (some ad125) l0.length c0, .int .i64 (wrap64 (a1 - 1))] rfl dq15 ?_; (with_reducible refine (ih kj5 (by have := HJ5.out; omega) _ _ l0 (wrap64 (a1 - 1)) t127 _ ?side1 ?side2 A12.out).mono ?_); (case side1 => exact dq2); (case side2 => exact dq3); rintro e w' ⟨rfl, ⟨nd, rfl⟩⟩; refine ⟨_, rfl, ?_⟩; have p128 : 0 ≤ (a1 : Int) := of_decide_eq_true dq21; have q128 : a1 < (l0.length : Int) := of_decide_eq_true dq21; obtain ⟨ad128, A128_2, c128_2, e128, hx128_0, hx128_1, hx128_2, hx128_3, hx128_4, hx128_5, hx128_6, hl128_2, hi128_2⟩ := at_T93 HR0.out a1 p128 q128; obtain rfl : ad125 = ad128 := (by injection e128); have HR128_2 := Aside0.mk hi128_2; have HC128_2 := Aside0.mk hl128_2; clear hi128_2 hl128_2; replace p128 := eq_true p128; replace q128 := eq_true q128; have ea_ := Option.some.inj (hx126_2.symm.trans hx128_2); injection ea_ with ea_ en_ ec_; subst ea_; subst ec_; clear en_) | ((with_reducible refine gate_callee (f := 107) rfl ?_); refine goesL_ (some 43) rfl rfl Tryd.func107 dq16 rfl #[.slice (some ad125) l0.length c0, .int .i64 (wrap64 (t127 - 1))] rfl dq15 ?_; (with_reducible refine (ih kj5 (by have := HJ5.out; omega) _ _ l0 (wrap64 (t127 - 1)) t129 _ ?side1 ?side2 A15.out).mono ?_); (case side1 => exact dq2); (case side2 => exact dq3); rintro e w' ⟨rfl, ⟨nd, rfl⟩⟩; refine ⟨_, rfl, ?_⟩))
            go_ret
            exact ⟨dq14, dq13⟩
           ·rw [if_neg c14] at H
            have c14b0 := beq_eq_false_iff_ne.mpr c14
            have c14b1 := bne_iff_ne.mpr c14
            obtain rfl := Option.some.inj H
            have p126 : 0 ≤ (a1 : Int) := of_decide_eq_true dq21
            have q126 : a1 < (l0.length : Int) := of_decide_eq_true dq21
            obtain ⟨ad126, A126_2, c126_2, e126, hx126_0, hx126_1, hx126_2, hx126_3, hx126_4, hx126_5, hx126_6, hl126_2, hi126_2⟩ := at_T93 HR0.out a1 p126 q126
            obtain rfl : ad125 = ad126 := (by injection e126)
            have HR126_2 := Aside0.mk hi126_2
            have HC126_2 := Aside0.mk hl126_2
            clear hi126_2 hl126_2
            replace p126 := eq_true p126
            replace q126 := eq_true q126
            go_wp2_with (first | ((with_reducible refine gate_callee (f := 107) rfl ?_); refine goesL_ (some 27) rfl rfl Tryd.func107 dq16 rfl #[.slice (some ad125) l0.length c0, .int .i64 (wrap64 (a1 - 1))] rfl dq15 ?_; (with_reducible refine (ih kj5 (by have := HJ5.out; omega) _ _ l0 (wrap64 (a1 - 1)) t127 _ ?side1 ?side2 A12.out).mono ?_); (case side1 => exact dq2); (case side2 => exact dq3); rintro e w' ⟨rfl, ⟨nd, rfl⟩⟩; refine ⟨_, rfl, ?_⟩; have p128 : 0 ≤ (a1 : Int) := of_decide_eq_true dq21; have q128 : a1 < (l0.length : Int) := of_decide_eq_true dq21; obtain ⟨ad128, A128_2, c128_2, e128, hx128_0, hx128_1, hx128_2, hx128_3, hx128_4, hx128_5, hx128_6, hl128_2, hi128_2⟩ := at_T93 HR0.out a1 p128 q128; obtain rfl : ad125 = ad128 := (by injection e128); have HR128_2 := Aside0.mk hi128_2; have HC128_2 := Aside0.mk hl128_2; clear hi128_2 hl128_2; replace p128 := eq_true p128; replace q128 := eq_true q128; have ea_ := Option.some.inj (hx126_2.symm.trans hx128_2); injection ea_ with ea_ en_ ec_; subst ea_; subst ec_; clear en_))
            go_ret
            exact ⟨dq14, dq13⟩
         ·rw [if_neg c11] at H
          have c11b0 := beq_eq_false_iff_ne.mpr c11
          have c11b1 := bne_iff_ne.mpr c11
          obtain rfl := Option.some.inj H
          have p126 : 0 ≤ (a1 : Int) := of_decide_eq_true dq21
          have q126 : a1 < (l0.length : Int) := of_decide_eq_true dq21
          obtain ⟨ad126, A126_2, c126_2, e126, hx126_0, hx126_1, hx126_2, hx126_3, hx126_4, hx126_5, hx126_6, hl126_2, hi126_2⟩ := at_T93 HR0.out a1 p126 q126
          obtain rfl : ad125 = ad126 := (by injection e126)
          have HR126_2 := Aside0.mk hi126_2
          have HC126_2 := Aside0.mk hl126_2
          clear hi126_2 hl126_2
          replace p126 := eq_true p126
          replace q126 := eq_true q126
          go_wp2
          go_ret
          exact ⟨dq14, dq13⟩
        ·rw [if_neg c10] at H
         exact absurd H dq23
       ·rw [if_neg c9] at H
        exact absurd H dq23
      ·replace c8 := Bool.eq_false_iff.mpr c8
       subst c8
       have H1 : (if ((rd_T93 l0 a1).f0) = 5 then (if 0 ≤ a1 then (if a1 < (l0.length : Int) then (if ((rd_T93 l0 a1).f3) = (wrap64 (a1 - 1)) then ((spec_l6Tree.f kj5 l0 (wrap64 (a1 - 1))).bind fun t131 => (some t131)) else (some (-1))) else (none)) else (none)) else (some a1)) = some r := by rw [if_neg (show ¬ (false = true) by decide)] at H; exact H
       clear H
       have H := H1
       clear H1
       by_cases c16 : ((rd_T93 l0 a1).f0) = 5
       ·rw [if_pos c16] at H
        have c16b0 := beq_iff_eq.mpr c16
        have c16b1 := bne_eq_false_iff_eq.mpr c16
        clear c16
        by_cases c17 : 0 ≤ a1
        ·rw [if_pos c17] at H
         have c17b0 := decide_eq_true c17
         clear c17
         by_cases c18 : a1 < (l0.length : Int)
         ·rw [if_pos c18] at H
          have c18b0 := decide_eq_true c18
          clear c18
          by_cases c19 : ((rd_T93 l0 a1).f3) = (wrap64 (a1 - 1))
          ·rw [if_pos c19] at H
           have c19b0 := beq_iff_eq.mpr c19
           have c19b1 := bne_eq_false_iff_eq.mpr c19
           clear c19
           replace H := Option.bind_eq_some_iff.mp H
           obtain ⟨t131, A200, H⟩ := H
           replace H : (some t131) = some r := H
           have A20 := Aside0.mk A200
           clear A200
           obtain rfl := Option.some.inj H
           have p130 : 0 ≤ (a1 : Int) := of_decide_eq_true dq21
           have q130 : a1 < (l0.length : Int) := of_decide_eq_true dq21
           obtain ⟨ad130, A130_2, c130_2, e130, hx130_0, hx130_1, hx130_2, hx130_3, hx130_4, hx130_5, hx130_6, hl130_2, hi130_2⟩ := at_T93 HR0.out a1 p130 q130
           obtain rfl : ad125 = ad130 := (by injection e130)
           have HR130_2 := Aside0.mk hi130_2
           have HC130_2 := Aside0.mk hl130_2
           clear hi130_2 hl130_2
           replace p130 := eq_true p130
           replace q130 := eq_true q130
           go_wp2_with (first | ((with_reducible refine gate_callee (f := 107) rfl ?_); refine goesL_ (some 57) rfl rfl Tryd.func107 dq16 rfl #[.slice (some ad125) l0.length c0, .int .i64 (wrap64 (a1 - 1))] rfl dq15 ?_; (with_reducible refine (ih kj5 (by have := HJ5.out; omega) _ _ l0 (wrap64 (a1 - 1)) t131 _ ?side1 ?side2 A20.out).mono ?_); (case side1 => exact dq2); (case side2 => exact dq3); rintro e w' ⟨rfl, ⟨nd, rfl⟩⟩; refine ⟨_, rfl, ?_⟩))
           go_ret
           exact ⟨dq14, dq13⟩
          ·rw [if_neg c19] at H
           have c19b0 := beq_eq_false_iff_ne.mpr c19
           have c19b1 := bne_iff_ne.mpr c19
           obtain rfl := Option.some.inj H
           have p130 : 0 ≤ (a1 : Int) := of_decide_eq_true dq21
           have q130 : a1 < (l0.length : Int) := of_decide_eq_true dq21
           obtain ⟨ad130, A130_2, c130_2, e130, hx130_0, hx130_1, hx130_2, hx130_3, hx130_4, hx130_5, hx130_6, hl130_2, hi130_2⟩ := at_T93 HR0.out a1 p130 q130
           obtain rfl : ad125 = ad130 := (by injection e130)
           have HR130_2 := Aside0.mk hi130_2
           have HC130_2 := Aside0.mk hl130_2
           clear hi130_2 hl130_2
           replace p130 := eq_true p130
           replace q130 := eq_true q130
           go_wp2
           go_ret
           exact ⟨dq14, dq13⟩
         ·rw [if_neg c18] at H
          exact absurd H dq23
        ·rw [if_neg c17] at H
         exact absurd H dq23
       ·rw [if_neg c16] at H
        have c16b0 := beq_eq_false_iff_ne.mpr c16
        have c16b1 := bne_iff_ne.mpr c16
        obtain rfl := Option.some.inj H
        go_wp2
        go_ret
        exact ⟨dq14, dq13⟩
   ·rw [if_neg c5] at H
    exact absurd H dq23
  ·rw [if_neg c4] at H
   exact absurd H dq23

/-! ### spec_l6Weight: function 108 -/
mutual
def spec_l6Weight.j0 : Nat → List (S93) → Int → Int → Bool → Int → Bool → List (S100) → Int → Int → Int → Int → Option (Int)
 | 0, _, _, _, _, _, _, _, _, _, _, _ => none
 | k + 1, x0, x6, x12, x13, x134000, x134001, x134002, x134003, x134004, x134005, x134006 => if x13 = true then ((spec_l6Weight.f k x0 x134003).bind fun t134 => ((spec_l6Weight.f k x0 x134004).bind fun t135 => (some (mn (wrap64 (t134 + t135)) 2001)))) else (if x12 = 5 then ((spec_l6Weight.f k x0 x134003).bind fun t136 => (some (mn (wrap64 (t136 * (mx (mx 1 (wrap64 (x134005 + 1))) x134006))) 2001))) else (some (mn x6 2001)))
def spec_l6Weight.f : Nat → List (S93) → Int → Option (Int)
 | 0, _, _ => none
 | k + 1, l0, a1 => if 0 ≤ a1 then (if a1 < (l0.length : Int) then (if ((rd_T93 l0 a1).f0) = 3 then (spec_l6Weight.j0 k l0 1 ((rd_T93 l0 a1).f0) (((rd_T93 l0 a1).f0) == 3) ((rd_T93 l0 a1).f0) ((rd_T93 l0 a1).f1) ((rd_T93 l0 a1).f2) ((rd_T93 l0 a1).f3) ((rd_T93 l0 a1).f4) ((rd_T93 l0 a1).f5) ((rd_T93 l0 a1).f6)) else (spec_l6Weight.j0 k l0 1 ((rd_T93 l0 a1).f0) (((rd_T93 l0 a1).f0) == 4) ((rd_T93 l0 a1).f0) ((rd_T93 l0 a1).f1) ((rd_T93 l0 a1).f2) ((rd_T93 l0 a1).f3) ((rd_T93 l0 a1).f4) ((rd_T93 l0 a1).f5) ((rd_T93 l0 a1).f6))) else (none)) else (none)
end
def spec_l6Weight.T6 : Bool × List (List Nat × List Nat) := (true, [([], []), ([], []), ([1], [1]), ([0, 2], [0, 2]), ([], []), ([], []), ([5], [5]), ([4, 6, 3], [4, 6]), ([3, 7], [3, 7]), ([8, 7, 0, 1, 2, 3, 4, 5, 6, 7, 8], [8])])
def spec_l6Weight.B6 : List Nat := [0, 0, 2, 7, 0, 0, 32, 127, 255, 511]
theorem spec_l6Weight.tab6 : rtab .any (opsOf Tryd.f108 6) = spec_l6Weight.T6 := by kernel_rfl
theorem spec_l6Weight.bits6 : waitsOk spec_l6Weight.T6.2 spec_l6Weight.B6 = true := by kernel_rfl
def spec_l6Weight.T8 : Bool × List (List Nat × List Nat) := (true, [([], []), ([], []), ([1], [1]), ([0, 2], [0, 2]), ([], []), ([4], [4]), ([5], [5]), ([], []), ([7], [7]), ([6, 8], [6, 8]), ([3, 9], [3, 9]), ([10, 3, 0, 1, 2, 3, 4, 5, 6, 7, 8, 9, 10], [10])])
def spec_l6Weight.B8 : List Nat := [0, 0, 2, 7, 0, 16, 48, 0, 128, 496, 1023, 2047]
theorem spec_l6Weight.tab8 : rtab .any (opsOf Tryd.f108 8) = spec_l6Weight.T8 := by kernel_rfl
theorem spec_l6Weight.bits8 : waitsOk spec_l6Weight.T8.2 spec_l6Weight.B8 = true := by kernel_rfl
set_option maxHeartbeats 8000000 in
set_option maxRecDepth 100000 in
theorem spec_l6Weight.calls (k : Nat) : ∀ (A0 : Option Addr) (c0 : Nat) (l0 : List (S93)) (a1 : Int) (r : Int) (w : World) (hr0 : Kd.C k93 w A0 l0.length l0) (hc0 : l0.length ≤ c0) (h : spec_l6Weight.f k l0 a1 = some r),
  Calls Tryd.prog 108 #[.slice A0 l0.length c0, .int .i64 a1] w fun e w' => e = .returned (.int .i64 r) ∧ Below w.heap.size w w' := by
 induction k using Nat.strongRecOn with
 | _ k ih =>
 intro A0 c0 l0 a1 r w hr0 hc0 h
 cases k with
 | zero => exact absurd h (by simp [spec_l6Weight.f])
 | succ k =>
 simp only [spec_l6Weight.f] at h
 have hu93 := Tryd.underlying93
 have HR0 := Aside0.mk hr0
 have HC0 := Aside0.mk hc0
 clear hr0 hc0
 have HB := Aside0.mk (Below.refl w.heap.size w)
 have H : (if 0 ≤ a1 then (if a1 < (l0.length : Int) then (if ((rd_T93 l0 a1).f0) = 3 then (spec_l6Weight.j0 k l0 1 ((rd_T93 l0 a1).f0) (((rd_T93 l0 a1).f0) == 3) ((rd_T93 l0 a1).f0) ((rd_T93 l0 a1).f1) ((rd_T93 l0 a1).f2) ((rd_T93 l0 a1).f3) ((rd_T93 l0 a1).f4) ((rd_T93 l0 a1).f5) ((rd_T93 l0 a1).f6)) else (spec_l6Weight.j0 k l0 1 ((rd_T93 l0 a1).f0) (((rd_T93 l0 a1).f0) == 4) ((rd_T93 l0 a1).f0) ((rd_T93 l0 a1).f1) ((rd_T93 l0 a1).f2) ((rd_T93 l0 a1).f3) ((rd_T93 l0 a1).f4) ((rd_T93 l0 a1).f5) ((rd_T93 l0 a1).f6))) else (none)) else (none)) = some r := h
 clear h
 by_cases c3 : 0 ≤ a1
 ·rw [if_pos c3] at H
  have c3b0 := decide_eq_true c3
  clear c3
  by_cases c4 : a1 < (l0.length : Int)
  ·rw [if_pos c4] at H
   have c4b0 := decide_eq_true c4
   clear c4
   have HC5 := Aside0.mk H
   clear H
   have p132 : 0 ≤ (a1 : Int) := of_decide_eq_true dq21
   have q132 : a1 < (l0.length : Int) := of_decide_eq_true dq21
   obtain ⟨ad132, A132_2, c132_2, e132, hx132_0, hx132_1, hx132_2, hx132_3, hx132_4, hx132_5, hx132_6, hl132_2, hi132_2⟩ := at_T93 HR0.out a1 p132 q132
   cases e132
   have HR132_2 := Aside0.mk hi132_2
   have HC132_2 := Aside0.mk hl132_2
   clear hi132_2 hl132_2
   replace p132 := eq_true p132
   replace q132 := eq_true q132
   go_enter Tryd.func108, Tryd.ntmps108
   go_upto_if 13 with (first | ((with_reducible refine gate_dst (N := 5) rfl ?_); refine box_event ?hg (N := 5) ?hd (cs := #[.int .i64 0, .bool false, .slice none 0 0, .int .i64 0, .int .i64 0, .int .i64 0, .int .i64 0]) (t := 93) ?hr ?_; (case hd => rfl); (case hg => rfl); (case hr => exact dq0); intro gb133 hg w6 hbox hb; have n0_ := Aside0.mk (below_step dq18 hb); have n1_ := Aside0.mk (hbox); have n2_ := Aside0.mk ((dq17 : w.heap.size ≤ gb133)); have n3_ := Aside0.mk ((dq17 : w.heap.size ≤ gb133)); clear HB; have HB := n0_; have BK133 := n1_; have GW133 := n2_; have GE133 := n3_; clear n0_ n1_ n2_ n3_; clear hb hbox hg; obtain ⟨⟨hcz7_0, hcz7_1, hcz7_2, hcz7_3, hcz7_4, hcz7_5, hcz7_6⟩, hfz7_0, hfz7_1, hfz7_2, hfz7_3, hfz7_4, hfz7_5, hfz7_6⟩ := blkC7 BK133.out))
   (try simp only [Act.put, List.setIfInBounds_toArray, List.set_cons_zero, List.set_cons_succ])
   go_cut [13] (fun v13 wc => ∃ (kq : Nat) (x13_4 : Bool), v13 = .bool x13_4 ∧ Aside0 (spec_l6Weight.j0 kq l0 1 ((rd_T93 l0 a1).f0) x13_4 ((rd_T93 l0 a1).f0) ((rd_T93 l0 a1).f1) ((rd_T93 l0 a1).f2) ((rd_T93 l0 a1).f3) ((rd_T93 l0 a1).f4) ((rd_T93 l0 a1).f5) ((rd_T93 l0 a1).f6) = some r) ∧ Aside0 (kq ≤ k) ∧ Aside0 (wc.heap[gb133]? = some (.cells #[.int .i64 ((rd_T93 l0 a1).f0), .bool ((rd_T93 l0 a1).f1), (.slice A132_2 ((rd_T93 l0 a1).f2).length c132_2), .int .i64 ((rd_T93 l0 a1).f3), .int .i64 ((rd_T93 l0 a1).f4), .int .i64 ((rd_T93 l0 a1).f5), .int .i64 ((rd_T93 l0 a1).f6)] 93 (0, 0))) ∧ Aside0 (Below w.heap.size w wc))
   case first =>
    have H := HC5.out
    clear HC5
    by_cases c8 : ((rd_T93 l0 a1).f0) = 3
    ·rw [if_pos c8] at H
     have c8b0 := beq_iff_eq.mpr c8
     have c8b1 := bne_eq_false_iff_eq.mpr c8
     clear c8
     (first | rw [c8b0] | (simp only [i64_w, i32_w]; rw [c8b0]) | skip)
     have H' := Aside0.mk H
     clear H
     go_wp2
     go_meet
     case rel => exact ⟨_, ((((rd_T93 l0 a1).f0) == 3)), dq14, H', ⟨dq25⟩, ⟨dq33⟩, ⟨dq32⟩⟩
    ·rw [if_neg c8] at H
     have c8b0 := beq_eq_false_iff_ne.mpr c8
     have c8b1 := bne_iff_ne.mpr c8
     (first | rw [c8b0] | (simp only [i64_w, i32_w]; rw [c8b0]) | skip)
     have H' := Aside0.mk H
     clear H
     go_wp2
     go_meet
     case rel => exact ⟨_, ((((rd_T93 l0 a1).f0) == 4)), dq14, H', ⟨dq25⟩, ⟨dq33⟩, ⟨dq32⟩⟩
   case rest =>
    clear HC5
    try clear c1
    try clear p1
    try clear q1
    try clear hx1
    try clear p2
    try clear c3
    try clear c3b0
    try clear c4
    try clear c4b0
    try clear c8
    try clear c8b0
    try clear c8b1
    try clear hcz7_0
    try clear hcz7_1
    try clear hcz7_2
    try clear hcz7_3
    try clear hcz7_4
    try clear hcz7_5
    try clear hcz7_6
    try clear hfz7_0
    try clear hfz7_1
    try clear hfz7_2
    try clear hfz7_3
    try clear hfz7_4
    try clear hfz7_5
    try clear hfz7_6
    try clear hx132_0
    try clear hx132_1
    try clear hx132_2
    try clear hx132_3
    try clear hx132_4
    try clear hx132_5
    try clear hx132_6
    try clear p132
    try clear q132
    obtain ⟨kq, x13_4, rfl, HA, HJ4, BK133, HB⟩ := hcut
    cases kq with
    | zero => exact absurd HA.out (by simp [spec_l6Weight.j0])
    | succ kj4 =>
     have H := HA.out
     clear HA
     simp only [spec_l6Weight.j0] at H
     by_cases c9 : x13_4 = true
     ·subst c9
      have H1 : ((spec_l6Weight.f kj4 l0 ((rd_T93 l0 a1).f3)).bind fun t134 => ((spec_l6Weight.f kj4 l0 ((rd_T93 l0 a1).f4)).bind fun t135 => (some (mn (wrap64 (t134 + t135)) 2001)))) = some r := by rw [if_pos rfl] at H; exact H
      clear H
      have H := H1
      clear H1
      replace H := Option.bind_eq_some_iff.mp H
      obtain ⟨t134, A100, H⟩ := H
      replace H : ((spec_l6Weight.f kj4 l0 ((rd_T93 l0 a1).f4)).bind fun t135 => (some (mn (wrap64 (t134 + t135)) 2001))) = some r := H
      have A10 := Aside0.mk A100
      clear A100
      replace H := Option.bind_eq_some_iff.mp H
      obtain ⟨t135, A110, H⟩ := H
      replace H : (some (mn (wrap64 (t134 + t135)) 2001)) = some r := H
      have A11 := Aside0.mk A110
      clear A110
      obtain ⟨ji12, hji12⟩ : ∃ j_ : Int, (mn (wrap64 (t134 + t135)) 2001) = j_ := ⟨_, rfl⟩
      replace H : (some ji12) = some r := by first | (rw [hji12] at H; exact H) | (simp only [hji12] at H ⊢; exact H)
      (try rw [hji12] at A10)
      (try rw [hji12] at A11)
      (try (have hji12h : ji12 ≤ 2001 := by (rw [← hji12]; unfold mn; (repeat' split) <;> omega)))
      (try (have hji12g : ji12 ≤ 64 := by omega))
      have hji12_ : (if 2001 < (wrap64 (t134 + t135)) then 2001 else (wrap64 (t134 + t135))) = ji12 := hji12
      obtain rfl := Option.some.inj H
      try go_wp2
      have n0_ := Aside0.mk (blk_drew BK133.out)
      have n1_ := Aside0.mk (below_drew1 HB.out)
      clear BK133
      clear HB
      have BK133 := n0_
      have HB := n1_
      clear n0_ n1_
      refine start_ (n := 10) (S := fun w' => w'.cell? ⟨gb133, 0, none⟩ = some (.int .i64 ((rd_T93 l0 a1).f0)) ∧ w'.cell? ⟨gb133, 1, none⟩ = some (.bool ((rd_T93 l0 a1).f1)) ∧ w'.cell? ⟨gb133, 2, none⟩ = some (.slice A132_2 ((rd_T93 l0 a1).f2).length c132_2) ∧ w'.cell? ⟨gb133, 3, none⟩ = some (.int .i64 ((rd_T93 l0 a1).f3)) ∧ w'.cell? ⟨gb133, 4, none⟩ = some (.int .i64 ((rd_T93 l0 a1).f4)) ∧ w'.cell? ⟨gb133, 5, none⟩ = some (.int .i64 ((rd_T93 l0 a1).f5)) ∧ w'.cell? ⟨gb133, 6, none⟩ = some (.int .i64 ((rd_T93 l0 a1).f6))) (ds := []) #[false, false, false, false, false, false, false, false, false, false] dq16 rfl rfl ⟨(blk_cell BK133.out 0).trans rfl, (blk_cell BK133.out 1).trans rfl, (blk_cell BK133.out 2).trans rfl, (blk_cell BK133.out 3).trans rfl, (blk_cell BK133.out 4).trans rfl, (blk_cell BK133.out 5).trans rfl, (blk_cell BK133.out 6).trans rfl⟩ (fun hHeld => ?_); refine with_tabW spec_l6Weight.tab6 spec_l6Weight.bits6 (fun HT_ HW_ => ?_)
      generalize wc.drew = w13 at BK133 HB hHeld ⊢
      refine pureA (i := 0) (N := some 16) #[true, false, false, false, false, false, false, false, false, false] ?_
      refine pureA (i := 1) (N := some 17) #[true, true, false, false, false, false, false, false, false, false] ?_
      refine pureA (i := 4) (N := some 20) #[true, true, false, false, true, false, false, false, false, false] ?_
      refine pureA (i := 5) (N := some 21) #[true, true, false, false, true, true, false, false, false, false] ?_
      refine takeA7 (i := 2) (N := some 18) #[true, true, true, false, true, true, false, false, false, false] ?_
      refine takeA7 (i := 6) (N := some 22) #[true, true, true, false, true, true, true, false, false, false] ?_
      refine one_ (i := 3) (N := some 19) #[true, true, true, true, true, true, true, false, false, false] rfl rfl (one_of HT_.out dq16) dq28 (fun K hK => ?_)
      refine goes_ Tryd.func108 dq16 rfl #[.slice (some ad132) l0.length c0, .int .i64 ((rd_T93 l0 a1).f3)] dq29 rfl rfl dq15 ?_
      with_reducible refine (ih kj4 (by have := HJ4.out; omega) _ _ l0 ((rd_T93 l0 a1).f3) t134 _ ?side1 ?side2 A10.out).mono ?_
      (case side1 => exact dq4)
      (case side2 => exact dq3)
      rintro e w14 ⟨rfl, hb⟩
      refine ⟨_, rfl, ?_⟩
      have n0_ := Aside0.mk (blk_below (g := gb133) (o := .cells #[.int .i64 ((rd_T93 l0 a1).f0), .bool ((rd_T93 l0 a1).f1), .slice A132_2 ((rd_T93 l0 a1).f2).length c132_2, .int .i64 ((rd_T93 l0 a1).f3), .int .i64 ((rd_T93 l0 a1).f4), .int .i64 ((rd_T93 l0 a1).f5), .int .i64 ((rd_T93 l0 a1).f6)] 93 (0, 0)) (by refine blk_up ?_; exact BK133.out) hb)
      have n1_ := Aside0.mk (below_step dq32 hb)
      clear BK133
      clear HB
      have BK133 := n0_
      have HB := n1_
      clear n0_ n1_
      (try clear hb)
      (try clear hb2)
      (try clear hk)
      (try clear hi)
      refine hK.out _ _ ⟨(blk_cell BK133.out 0).trans rfl, (blk_cell BK133.out 1).trans rfl, (blk_cell BK133.out 2).trans rfl, (blk_cell BK133.out 3).trans rfl, (blk_cell BK133.out 4).trans rfl, (blk_cell BK133.out 5).trans rfl, (blk_cell BK133.out 6).trans rfl⟩ (fun hHeld => ?_)
      clear hK K
      refine norm_ (a' := ?_) ?_ ?_
      rotate_left
      ·show Act.put _ (some 19) _ = _
       simp only [Act.put, List.setIfInBounds_toArray, List.set_cons_zero, List.set_cons_succ, i64_w, i32_w]
       rfl
      refine one_ (i := 7) (N := some 23) #[true, true, true, true, true, true, true, true, false, false] rfl rfl (one_of HT_.out dq16) dq28 (fun K hK => ?_)
      refine goes_ Tryd.func108 dq16 rfl #[.slice (some ad132) l0.length c0, .int .i64 ((rd_T93 l0 a1).f4)] dq29 rfl rfl dq15 ?_
      with_reducible refine (ih kj4 (by have := HJ4.out; omega) _ _ l0 ((rd_T93 l0 a1).f4) t135 _ ?side1 ?side2 A11.out).mono ?_
      (case side1 => exact dq4)
      (case side2 => exact dq3)
      rintro e w15 ⟨rfl, hb⟩
      refine ⟨_, rfl, ?_⟩
      have n0_ := Aside0.mk (blk_below (g := gb133) (o := .cells #[.int .i64 ((rd_T93 l0 a1).f0), .bool ((rd_T93 l0 a1).f1), .slice A132_2 ((rd_T93 l0 a1).f2).length c132_2, .int .i64 ((rd_T93 l0 a1).f3), .int .i64 ((rd_T93 l0 a1).f4), .int .i64 ((rd_T93 l0 a1).f5), .int .i64 ((rd_T93 l0 a1).f6)] 93 (0, 0)) (by refine blk_up ?_; exact BK133.out) hb)
      have n1_ := Aside0.mk (below_step dq32 hb)
      clear BK133
      clear HB
      have BK133 := n0_
      have HB := n1_
      clear n0_ n1_
      (try clear hb)
      (try clear hb2)
      (try clear hk)
      (try clear hi)
      refine hK.out _ _ ⟨(blk_cell BK133.out 0).trans rfl, (blk_cell BK133.out 1).trans rfl, (blk_cell BK133.out 2).trans rfl, (blk_cell BK133.out 3).trans rfl, (blk_cell BK133.out 4).trans rfl, (blk_cell BK133.out 5).trans rfl, (blk_cell BK133.out 6).trans rfl⟩ (fun hHeld => ?_)
      clear hK K
      refine norm_ (a' := ?_) ?_ ?_
      rotate_left
      ·show Act.put _ (some 23) _ = _
       simp only [Act.put, List.setIfInBounds_toArray, List.set_cons_zero, List.set_cons_succ, i64_w, i32_w]
       rfl
      refine pureA (i := 8) (N := some 24) #[true, true, true, true, true, true, true, true, true, false] ?_
      refine pureA (i := 9) (N := some 6) #[true, true, true, true, true, true, true, true, true, true] ?_
      refine done_ (done_of HT_.out dq16) ?_
      try go_wp2
      go_ret
      exact ⟨by first | rfl | (simp [errW_none, errW_some] <;> rfl) | (simp only [← hji12]; first | rfl | (simp [errW_none, errW_some] <;> rfl)) | (simp [*, errW_none, errW_some] <;> rfl), dq32⟩
     ·replace c9 := Bool.eq_false_iff.mpr c9
      subst c9
      have H1 : (if ((rd_T93 l0 a1).f0) = 5 then ((spec_l6Weight.f kj4 l0 ((rd_T93 l0 a1).f3)).bind fun t136 => (some (mn (wrap64 (t136 * (mx (mx 1 (wrap64 (((rd_T93 l0 a1).f5) + 1))) ((rd_T93 l0 a1).f6)))) 2001))) else (some (mn 1 2001))) = some r := by rw [if_neg (show ¬ (false = true) by decide)] at H; exact H
      clear H
      have H := H1
      clear H1
      by_cases c16 : ((rd_T93 l0 a1).f0) = 5
      ·rw [if_pos c16] at H
       have c16b0 := beq_iff_eq.mpr c16
       have c16b1 := bne_eq_false_iff_eq.mpr c16
       clear c16
       replace H := Option.bind_eq_some_iff.mp H
       obtain ⟨t136, A170, H⟩ := H
       replace H : (some (mn (wrap64 (t136 * (mx (mx 1 (wrap64 (((rd_T93 l0 a1).f5) + 1))) ((rd_T93 l0 a1).f6)))) 2001)) = some r := H
       have A17 := Aside0.mk A170
       clear A170
       obtain ⟨ji18, hji18⟩ : ∃ j_ : Int, (mx 1 (wrap64 (((rd_T93 l0 a1).f5) + 1))) = j_ := ⟨_, rfl⟩
       replace H : (some (mn (wrap64 (t136 * (mx (ji18) ((rd_T93 l0 a1).f6)))) 2001)) = some r := by first | (rw [hji18] at H; exact H) | (simp only [hji18] at H ⊢; exact H)
       (try rw [hji18] at A17)
       have hji18_ : (if 1 < (wrap64 (((rd_T93 l0 a1).f5) + 1)) then (wrap64 (((rd_T93 l0 a1).f5) + 1)) else 1) = ji18 := hji18
       obtain ⟨ji19, hji19⟩ : ∃ j_ : Int, (mx (ji18) ((rd_T93 l0 a1).f6)) = j_ := ⟨_, rfl⟩
       replace H : (some (mn (wrap64 (t136 * (ji19))) 2001)) = some r := by first | (rw [hji19] at H; exact H) | (simp only [hji19] at H ⊢; exact H)
       (try rw [hji19] at A17)
       have hji19_ : (if (ji18) < ((rd_T93 l0 a1).f6) then ((rd_T93 l0 a1).f6) else (ji18)) = ji19 := hji19
       obtain ⟨ji20, hji20⟩ : ∃ j_ : Int, (mn (wrap64 (t136 * (ji19))) 2001) = j_ := ⟨_, rfl⟩
       replace H : (some ji20) = some r := by first | (rw [hji20] at H; exact H) | (simp only [hji20] at H ⊢; exact H)
       (try rw [hji20] at A17)
       have hji20_ : (if 2001 < (wrap64 (t136 * (ji19))) then 2001 else (wrap64 (t136 * (ji19)))) = ji20 := hji20
       obtain rfl := Option.some.inj H
       try go_wp2
       have n0_ := Aside0.mk (blk_drew BK133.out)
       have n1_ := Aside0.mk (below_drew1 HB.out)
       clear BK133
       clear HB
       have BK133 := n0_
       have HB := n1_
       clear n0_ n1_
       refine start_ (n := 12) (S := fun w' => w'.cell? ⟨gb133, 0, none⟩ = some (.int .i64 ((rd_T93 l0 a1).f0)) ∧ w'.cell? ⟨gb133, 1, none⟩ = some (.bool ((rd_T93 l0 a1).f1)) ∧ w'.cell? ⟨gb133, 2, none⟩ = some (.slice A132_2 ((rd_T93 l0 a1).f2).length c132_2) ∧ w'.cell? ⟨gb133, 3, none⟩ = some (.int .i64 ((rd_T93 l0 a1).f3)) ∧ w'.cell? ⟨gb133, 4, none⟩ = some (.int .i64 ((rd_T93 l0 a1).f4)) ∧ w'.cell? ⟨gb133, 5, none⟩ = some (.int .i64 ((rd_T93 l0 a1).f5)) ∧ w'.cell? ⟨gb133, 6, none⟩ = some (.int .i64 ((rd_T93 l0 a1).f6))) (ds := []) #[false, false, false, false, false, false, false, false, false, false, false, false] dq16 rfl rfl ⟨(blk_cell BK133.out 0).trans rfl, (blk_cell BK133.out 1).trans rfl, (blk_cell BK133.out 2).trans rfl, (blk_cell BK133.out 3).trans rfl, (blk_cell BK133.out 4).trans rfl, (blk_cell BK133.out 5).trans rfl, (blk_cell BK133.out 6).trans rfl⟩ (fun hHeld => ?_); refine with_tabW spec_l6Weight.tab8 spec_l6Weight.bits8 (fun HT_ HW_ => ?_)
       generalize wc.drew = w21 at BK133 HB hHeld ⊢
       refine pureA (i := 0) (N := some 27) #[true, false, false, false, false, false, false, false, false, false, false, false] ?_
       refine pureA (i := 1) (N := some 28) #[true, true, false, false, false, false, false, false, false, false, false, false] ?_
       refine pureA (i := 4) (N := some 31) #[true, true, false, false, true, false, false, false, false, false, false, false] ?_
       refine pureA (i := 7) (N := some 34) #[true, true, false, false, true, false, false, true, false, false, false, false] ?_
       refine takeA7 (i := 2) (N := some 29) #[true, true, true, false, true, false, false, true, false, false, false, false] ?_
       refine takeA7 (i := 5) (N := some 32) #[true, true, true, false, true, true, false, true, false, false, false, false] ?_
       refine pureA (i := 6) (N := some 33) #[true, true, true, false, true, true, true, true, false, false, false, false] ?_
       refine takeA7 (i := 8) (N := some 35) #[true, true, true, false, true, true, true, true, true, false, false, false] ?_
       refine pureA (i := 9) (N := some 36) #[true, true, true, false, true, true, true, true, true, true, false, false] ?_
       refine one_ (i := 3) (N := some 30) #[true, true, true, true, true, true, true, true, true, true, false, false] rfl rfl (one_of HT_.out dq16) dq28 (fun K hK => ?_)
       refine goes_ Tryd.func108 dq16 rfl #[.slice (some ad132) l0.length c0, .int .i64 ((rd_T93 l0 a1).f3)] dq29 rfl rfl dq15 ?_
       with_reducible refine (ih kj4 (by have := HJ4.out; omega) _ _ l0 ((rd_T93 l0 a1).f3) t136 _ ?side1 ?side2 A17.out).mono ?_
       (case side1 => exact dq4)
       (case side2 => exact dq3)
       rintro e w22 ⟨rfl, hb⟩
       refine ⟨_, rfl, ?_⟩
       have n0_ := Aside0.mk (blk_below (g := gb133) (o := .cells #[.int .i64 ((rd_T93 l0 a1).f0), .bool ((rd_T93 l0 a1).f1), .slice A132_2 ((rd_T93 l0 a1).f2).length c132_2, .int .i64 ((rd_T93 l0 a1).f3), .int .i64 ((rd_T93 l0 a1).f4), .int .i64 ((rd_T93 l0 a1).f5), .int .i64 ((rd_T93 l0 a1).f6)] 93 (0, 0)) (by refine blk_up ?_; exact BK133.out) hb)
       have n1_ := Aside0.mk (below_step dq32 hb)
       clear BK133
       clear HB
       have BK133 := n0_
       have HB := n1_
       clear n0_ n1_
       (try clear hb)
       (try clear hb2)
       (try clear hk)
       (try clear hi)
       refine hK.out _ _ ⟨(blk_cell BK133.out 0).trans rfl, (blk_cell BK133.out 1).trans rfl, (blk_cell BK133.out 2).trans rfl, (blk_cell BK133.out 3).trans rfl, (blk_cell BK133.out 4).trans rfl, (blk_cell BK133.out 5).trans rfl, (blk_cell BK133.out 6).trans rfl⟩ (fun hHeld => ?_)
       clear hK K
       refine norm_ (a' := ?_) ?_ ?_
       rotate_left
       ·show Act.put _ (some 30) _ = _
        simp only [Act.put, List.setIfInBounds_toArray, List.set_cons_zero, List.set_cons_succ, i64_w, i32_w]
        rfl
       refine pureA (i := 10) (N := some 37) #[true, true, true, true, true, true, true, true, true, true, true, false] ?_
       refine pureA (i := 11) (N := some 6) #[true, true, true, true, true, true, true, true, true, true, true, true] ?_
       refine done_ (done_of HT_.out dq16) ?_
       try go_wp2
       go_ret
       exact ⟨by first | rfl | (simp [errW_none, errW_some] <;> rfl) | (simp only [← hji18, ← hji19, ← hji20]; first | rfl | (simp [errW_none, errW_some] <;> rfl)) | (simp [*, errW_none, errW_some] <;> rfl), dq32⟩
      ·rw [if_neg c16] at H
       have c16b0 := beq_eq_false_iff_ne.mpr c16
       have c16b1 := bne_iff_ne.mpr c16
       obtain ⟨ji23, hji23⟩ : ∃ j_ : Int, (mn 1 2001) = j_ := ⟨_, rfl⟩
       replace H : (some ji23) = some r := by first | (rw [hji23] at H; exact H) | (simp only [hji23] at H ⊢; exact H)
       have hji23_ : (if 2001 < 1 then 2001 else 1) = ji23 := hji23
       obtain rfl := Option.some.inj H
       go_wp2
       go_ret
       exact ⟨by first | rfl | (simp [errW_none, errW_some] <;> rfl) | (simp only [← hji23]; first | rfl | (simp [errW_none, errW_some] <;> rfl)) | (simp [*, errW_none, errW_some] <;> rfl), dq32⟩
  ·rw [if_neg c4] at H
   exact absurd H dq23
 ·rw [if_neg c3] at H
  exact absurd H dq23

/-! ### spec_RegexOk: function 73 -/
mutual
def spec_RegexOk.j0 : Nat → List (S93) → Bool → Option (Bool)
 | 0, _, _ => none
 | k + 1, x0, x12 => if x12 = true then (some false) else (spec_RegexOk.l0 k x0 0)
def spec_RegexOk.l0 : Nat → List (S93) → Int → Option (Bool)
 | 0, _, _ => none
 | k + 1, x0, x3 => if x3 < (x0.length : Int) then (if 0 ≤ x3 then ((spec_l6NodeOk.f k ((rd_T93 x0 x3).f0) ((rd_T93 x0 x3).f1) ((rd_T93 x0 x3).f2) ((rd_T93 x0 x3).f3) ((rd_T93 x0 x3).f4) ((rd_T93 x0 x3).f5) ((rd_T93 x0 x3).f6)).bind fun t138 => (if t138 = true then (spec_RegexOk.l0 k x0 (wrap64 (x3 + 1))) else (some false))) else (none)) else ((spec_l6Tree.f k x0 (wrap64 ((x0.length : Int) - 1))).bind fun t139 => (if t139 = 0 then ((spec_l6Weight.f k x0 (wrap64 ((x0.length : Int) - 1))).bind fun t140 => (some (decide (t140 ≤ 2000)))) else (some false)))
end
def spec_RegexOk.f (k : Nat) (l0 : List (S93)) : Option (Bool) := if (l0.length : Int) < 1 then (spec_RegexOk.j0 k l0 true) else (spec_RegexOk.j0 k l0 (decide ((l0.length : Int) > 120)))
set_option maxHeartbeats 8000000 in
set_option maxRecDepth 100000 in
theorem spec_RegexOk.calls (k : Nat) (A0 : Option Addr) (c0 : Nat) (l0 : List (S93)) (r : Bool) (w : World) (hr0 : Kd.C k93 w A0 l0.length l0) (hc0 : l0.length ≤ c0) (h : spec_RegexOk.f k l0 = some r) :
  Calls Tryd.prog 73 #[.slice A0 l0.length c0] w fun e w' => e = .returned (.bool r) ∧ Below w.heap.size w w' := by
 have hu93 := Tryd.underlying93
 have HR0 := Aside0.mk hr0
 have HC0 := Aside0.mk hc0
 clear hr0 hc0
 have HB := Aside0.mk (Below.refl w.heap.size w)
 have H : (if (l0.length : Int) < 1 then (spec_RegexOk.j0 k l0 true) else (spec_RegexOk.j0 k l0 (decide ((l0.length : Int) > 120)))) = some r := h
 clear h
 have HC2 := Aside0.mk H
 clear H
 go_enter Tryd.func73, Tryd.ntmps73
 go_upto_region 1 with (fail)
 go_cut [12] (fun v12 wc => ∃ (kq : Nat) (x12_1 : Bool), v12 = .bool x12_1 ∧ Aside0 (spec_RegexOk.j0 kq l0 x12_1 = some r) ∧ Aside0 (kq ≤ k) ∧ Aside0 (Below w.heap.size w wc))
 case first =>
  have H := HC2.out
  clear HC2
  by_cases c3 : (l0.length : Int) < 1
  ·rw [if_pos c3] at H
   have c3b0 := decide_eq_true c3
   have c3b1 : decide (l0.length < 1) = true := decide_eq_true dq24
   clear c3
   (first | rw [c3b0] | (simp only [i64_w, i32_w]; rw [c3b0]) | skip)
   have H' := Aside0.mk H
   clear H
   go_wp2
   go_meet
   case rel => exact ⟨_, (true), dq14, H', ⟨dq25⟩, ⟨dq18⟩⟩
  ·rw [if_neg c3] at H
   have c3b0 := decide_eq_false c3
   have c3b1 : decide (l0.length < 1) = false := decide_eq_false dq24
   clear c3
   (first | rw [c3b0] | (simp only [i64_w, i32_w]; rw [c3b0]) | skip)
   have H' := Aside0.mk H
   clear H
   go_wp2
   go_meet
   case rel => exact ⟨_, (decide ((l0.length : Int) > 120)), dq14, H', ⟨dq25⟩, ⟨dq18⟩⟩
 case rest =>
  clear HC2
  try clear p2
  try clear c3
  try clear c3b0
  try clear c3b1
  obtain ⟨kq, x12_1, rfl, HA, HJ1, HB⟩ := hcut
  cases kq with
  | zero => exact absurd HA.out (by simp [spec_RegexOk.j0])
  | succ kj1 =>
   have H := HA.out
   clear HA
   simp only [spec_RegexOk.j0] at H
   by_cases c4 : x12_1 = true
   ·subst c4
    have H1 : (some false) = some r := by rw [if_pos rfl] at H; exact H
    clear H
    have H := H1
    clear H1
    obtain rfl := Option.some.inj H
    go_wp2
    go_ret
    exact ⟨dq20, dq18⟩
   ·replace c4 := Bool.eq_false_iff.mpr c4
    subst c4
    have H1 : (spec_RegexOk.l0 kj1 l0 0) = some r := by rw [if_neg (show ¬ (false = true) by decide)] at H; exact H
    clear H
    have H := H1
    clear H1
    have H' := Aside0.mk H
    clear H
    go_wp2
    go_loopg [3] kj1 (fun kq v3 w' => ∃ (x3_2 : Int), v3 = .int .i64 x3_2 ∧ Aside0 (spec_RegexOk.l0 kq l0 x3_2 = some r) ∧ Aside0 (kq ≤ kj1) ∧ Aside0 (Below w.heap.size w w'))
    case atStart => exact ⟨(0), dq14, H', ⟨Nat.le_refl _⟩, ⟨dq18⟩⟩
    case round =>
     clear H'
     try clear p2
     try clear c3
     try clear c3b0
     try clear c3b1
     try clear c4
     try clear p2
     obtain ⟨x3_2, rfl, HA, HK2, HB⟩ := hrel
     cases gk with
     | zero => exact absurd HA.out (by simp [spec_RegexOk.l0])
     | succ k2 =>
      have H := HA.out
      clear HA
      simp only [spec_RegexOk.l0] at H
      by_cases c5 : x3_2 < (l0.length : Int)
      ·rw [if_pos c5] at H
       have c5b0 := decide_eq_true c5
       clear c5
       by_cases c6 : 0 ≤ x3_2
       ·rw [if_pos c6] at H
        have c6b0 := decide_eq_true c6
        clear c6
        replace H := Option.bind_eq_some_iff.mp H
        obtain ⟨t138, A70, H⟩ := H
        replace H : (if t138 = true then (spec_RegexOk.l0 k2 l0 (wrap64 (x3_2 + 1))) else (some false)) = some r := H
        have A7 := Aside0.mk A70
        clear A70
        by_cases c8 : t138 = true
        ·subst c8
         have H1 : (spec_RegexOk.l0 k2 l0 (wrap64 (x3_2 + 1))) = some r := by rw [if_pos rfl] at H; exact H
         clear H
         have H := H1
         clear H1
         have H' := Aside0.mk H
         clear H
         have p137 : 0 ≤ (x3_2 : Int) := of_decide_eq_true dq21
         have q137 : x3_2 < (l0.length : Int) := of_decide_eq_true dq21
         obtain ⟨ad137, A137_2, c137_2, e137, hx137_0, hx137_1, hx137_2, hx137_3, hx137_4, hx137_5, hx137_6, hl137_2, hi137_2⟩ := at_T93 HR0.out x3_2 p137 q137
         cases e137
         replace hx137_0 := (HB.out.cell (World.block_lt_of_cell? w _ hx137_0)).trans hx137_0
         replace hx137_1 := (HB.out.cell (World.block_lt_of_cell? w _ hx137_1)).trans hx137_1
         replace hx137_2 := (HB.out.cell (World.block_lt_of_cell? w _ hx137_2)).trans hx137_2
         replace hx137_3 := (HB.out.cell (World.block_lt_of_cell? w _ hx137_3)).trans hx137_3
         replace hx137_4 := (HB.out.cell (World.block_lt_of_cell? w _ hx137_4)).trans hx137_4
         replace hx137_5 := (HB.out.cell (World.block_lt_of_cell? w _ hx137_5)).trans hx137_5
         replace hx137_6 := (HB.out.cell (World.block_lt_of_cell? w _ hx137_6)).trans hx137_6
         have HR137_2 := Aside0.mk hi137_2
         have HC137_2 := Aside0.mk hl137_2
         clear hi137_2 hl137_2
         replace p137 := eq_true p137
         replace q137 := eq_true q137
         go_wp2_with (first | ((with_reducible refine gate_callee (f := 106) rfl ?_); refine goesL_ (some 23) rfl rfl Tryd.func106 dq16 rfl #[.agg #[.int .i64 ((rd_T93 l0 x3_2).f0), .bool ((rd_T93 l0 x3_2).f1), .slice A137_2 ((rd_T93 l0 x3_2).f2).length c137_2, .int .i64 ((rd_T93 l0 x3_2).f3), .int .i64 ((rd_T93 l0 x3_2).f4), .int .i64 ((rd_T93 l0 x3_2).f5), .int .i64 ((rd_T93 l0 x3_2).f6)]] rfl dq15 ?_; (with_reducible refine (spec_l6NodeOk.calls k2 ((rd_T93 l0 x3_2).f0) ((rd_T93 l0 x3_2).f1) _ _ ((rd_T93 l0 x3_2).f2) ((rd_T93 l0 x3_2).f3) ((rd_T93 l0 x3_2).f4) ((rd_T93 l0 x3_2).f5) ((rd_T93 l0 x3_2).f6) true _ ?side1 ?side2 A7.out).mono ?_); (case side1 => repeat (first | exact (Kd.C_below HR137_2.out HB.out) | (with_reducible refine Kd.C_alloc ?_ _) | (with_reducible refine Kd.C_drewN ?_ _) | (with_reducible refine Kd.C_drew ?_))); (case side2 => exact HC137_2.out); rintro e w9 ⟨rfl, hb⟩; refine ⟨_, rfl, ?_⟩; have n0_ := Aside0.mk (below_step dq18 hb); clear HB; have HB := n0_; clear n0_; (try clear hb); (try clear hb2); (try clear hk); (try clear hi)))
         go_roundg k2
         case measure => have := HJ1.out; have := HK2.out; omega
         case rel => exact ⟨(wrap64 (x3_2 + 1)), dq14, H', ⟨by have := HJ1.out; have := HK2.out; omega⟩, ⟨dq18⟩⟩
        ·replace c8 := Bool.eq_false_iff.mpr c8
         subst c8
         have H1 : (some false) = some r := by rw [if_neg (show ¬ (false = true) by decide)] at H; exact H
         clear H
         have H := H1
         clear H1
         obtain rfl := Option.some.inj H
         have p137 : 0 ≤ (x3_2 : Int) := of_decide_eq_true dq21
         have q137 : x3_2 < (l0.length : Int) := of_decide_eq_true dq21
         obtain ⟨ad137, A137_2, c137_2, e137, hx137_0, hx137_1, hx137_2, hx137_3, hx137_4, hx137_5, hx137_6, hl137_2, hi137_2⟩ := at_T93 HR0.out x3_2 p137 q137
         cases e137
         replace hx137_0 := (HB.out.cell (World.block_lt_of_cell? w _ hx137_0)).trans hx137_0
         replace hx137_1 := (HB.out.cell (World.block_lt_of_cell? w _ hx137_1)).trans hx137_1
         replace hx137_2 := (HB.out.cell (World.block_lt_of_cell? w _ hx137_2)).trans hx137_2
         replace hx137_3 := (HB.out.cell (World.block_lt_of_cell? w _ hx137_3)).trans hx137_3
         replace hx137_4 := (HB.out.cell (World.block_lt_of_cell? w _ hx137_4)).trans hx137_4
         replace hx137_5 := (HB.out.cell (World.block_lt_of_cell? w _ hx137_5)).trans hx137_5
         replace hx137_6 := (HB.out.cell (World.block_lt_of_cell? w _ hx137_6)).trans hx137_6
         have HR137_2 := Aside0.mk hi137_2
         have HC137_2 := Aside0.mk hl137_2
         clear hi137_2 hl137_2
         replace p137 := eq_true p137
         replace q137 := eq_true q137
         go_wp2_with (first | ((with_reducible refine gate_callee (f := 106) rfl ?_); refine goesL_ (some 23) rfl rfl Tryd.func106 dq16 rfl #[.agg #[.int .i64 ((rd_T93 l0 x3_2).f0), .bool ((rd_T93 l0 x3_2).f1), .slice A137_2 ((rd_T93 l0 x3_2).f2).length c137_2, .int .i64 ((rd_T93 l0 x3_2).f3), .int .i64 ((rd_T93 l0 x3_2).f4), .int .i64 ((rd_T93 l0 x3_2).f5), .int .i64 ((rd_T93 l0 x3_2).f6)]] rfl dq15 ?_; (with_reducible refine (spec_l6NodeOk.calls k2 ((rd_T93 l0 x3_2).f0) ((rd_T93 l0 x3_2).f1) _ _ ((rd_T93 l0 x3_2).f2) ((rd_T93 l0 x3_2).f3) ((rd_T93 l0 x3_2).f4) ((rd_T93 l0 x3_2).f5) ((rd_T93 l0 x3_2).f6) false _ ?side1 ?side2 A7.out).mono ?_); (case side1 => repeat (first | exact (Kd.C_below HR137_2.out HB.out) | (with_reducible refine Kd.C_alloc ?_ _) | (with_reducible refine Kd.C_drewN ?_ _) | (with_reducible refine Kd.C_drew ?_))); (case side2 => exact HC137_2.out); rintro e w10 ⟨rfl, hb⟩; refine ⟨_, rfl, ?_⟩; have n0_ := Aside0.mk (below_step dq18 hb); clear HB; have HB := n0_; clear n0_; (try clear hb); (try clear hb2); (try clear hk); (try clear hi)))
         go_ret
         exact ⟨dq20, dq18⟩
       ·rw [if_neg c6] at H
        exact absurd H dq23
      ·rw [if_neg c5] at H
       have c5b0 := decide_eq_false c5
       clear c5
       replace H := Option.bind_eq_some_iff.mp H
       obtain ⟨t139, A110, H⟩ := H
       replace H : (if t139 = 0 then ((spec_l6Weight.f k2 l0 (wrap64 ((l0.length : Int) - 1))).bind fun t140 => (some (decide (t140 ≤ 2000)))) else (some false)) = some r := H
       have A11 := Aside0.mk A110
       clear A110
       by_cases c12 : t139 = 0
       ·rw [if_pos c12] at H
        have c12b0 := beq_iff_eq.mpr c12
        have c12b1 := bne_eq_false_iff_eq.mpr c12
        clear c12
        replace H := Option.bind_eq_some_iff.mp H
        obtain ⟨t140, A130, H⟩ := H
        replace H : (some (decide (t140 ≤ 2000))) = some r := H
        have A13 := Aside0.mk A130
        clear A130
        obtain rfl := Option.some.inj H
        go_wp2_with (first | ((with_reducible refine gate_callee (f := 107) rfl ?_); refine goesL_ (some 30) rfl rfl Tryd.func107 dq16 rfl #[.slice A0 l0.length c0, .int .i64 (wrap64 ((l0.length : Int) - 1))] rfl dq15 ?_; (with_reducible refine (spec_l6Tree.calls k2 _ _ l0 (wrap64 ((l0.length : Int) - 1)) t139 _ ?side1 ?side2 A11.out).mono ?_); (case side1 => exact dq4); (case side2 => exact dq3); rintro e w' ⟨rfl, ⟨nd, rfl⟩⟩; refine ⟨_, rfl, ?_⟩) | (go_at_call 108; (with_reducible refine (spec_l6Weight.calls k2 _ _ l0 (wrap64 ((l0.length : Int) - 1)) t140 _ ?side1 ?side2 A13.out).mono ?_); (case side1 => repeat (first | exact (Kd.C_below HR0.out dq18) | (with_reducible refine Kd.C_alloc ?_ _) | (with_reducible refine Kd.C_drewN ?_ _) | (with_reducible refine Kd.C_drew ?_))); (case side2 => exact dq3); rintro e w14 ⟨rfl, hb⟩; have n0_ := Aside0.mk (below_step dq18 hb); clear HB; have HB := n0_; clear n0_; (try clear hb); (try clear hb2); (try clear hk); (try clear hi)))
        go_ret
        exact ⟨dq20, dq18⟩
       ·rw [if_neg c12] at H
        have c12b0 := beq_eq_false_iff_ne.mpr c12
        have c12b1 := bne_iff_ne.mpr c12
        obtain rfl := Option.some.inj H
        go_wp2_with (first | ((with_reducible refine gate_callee (f := 107) rfl ?_); refine goesL_ (some 30) rfl rfl Tryd.func107 dq16 rfl #[.slice A0 l0.length c0, .int .i64 (wrap64 ((l0.length : Int) - 1))] rfl dq15 ?_; (with_reducible refine (spec_l6Tree.calls k2 _ _ l0 (wrap64 ((l0.length : Int) - 1)) t139 _ ?side1 ?side2 A11.out).mono ?_); (case side1 => exact dq4); (case side2 => exact dq3); rintro e w' ⟨rfl, ⟨nd, rfl⟩⟩; refine ⟨_, rfl, ?_⟩))
        go_ret
        exact ⟨dq20, dq18⟩

end Go.Proofs.YtilmhfkbpnejeaaDoor.L
