/- Words and contracts for the row RowFnSample; printed, and merged. -/
import Derived.Test.YtajdfbgbkgabjaaQa1
import Derived.Test.YtajdfbgbkgabjaaProg
import Derived.Below
import Derived.Deep.Draws
import Derived.Deep.AppendLies
import Derived.Maps.AppendAt
import Derived.OwnWalk
import Derived.Laws.BytesArg
import Derived.Laws.MakeOwn
import Derived.Laws.OwnMore
import Derived.Deep.OwnRows
import Derived.Tactics
import Derived.Lib.ConvBytes
import Derived.Laws.Slices
import Derived.WalkKit
import Derived.KernelRfl
import Derived.RowKit3
import Derived.Deep.LoopGhost
import Derived.Deep.QuietTactic
import Derived.BigQuiet
import Derived.WideLaws
import Derived.Deep.DeepCutAuto
import Derived.Deep.CutBlock
import Derived.Deep.RegionHeld3
import Derived.Laws.Rows
import Derived.Lib.AppendStr
import Derived.ArgAppend
import Derived.Laws.IdiomCopy
import Derived.OrdersHeld
import Derived.Laws.BitsLemmas
import Derived.RowKit
set_option linter.unusedVariables false
set_option linter.unusedSimpArgs false
set_option maxHeartbeats 16000000
set_option maxRecDepth 100000
namespace Go.Proofs.Ytajdfbgbkgabjaa.L
open Go.RowKit YtajdfbgbkgabjaaW.PrintWords YtajdfbgbkgabjaaW.PrintLast YtajdfbgbkgabjaaW.PrintMore
attribute [local go_sem] max2_int min2_int max_two min_two max_three min_three max_four min_four



def errW : Option Int → Value
 | none => .nilIface
 | some c => .iface 0 (.int .i64 c)
theorem errW_none : errW none = .nilIface := rfl
theorem errW_some (c : Int) : errW (some c) = .iface 0 (.int .i64 c) := rfl

theorem info2 : (Try.prog.info? 2).map (fun i => (i.zero, i.size, i.bytes)) = some (some (.int .i64 0), 1, 8) := by kernel_rfl
theorem info4 : (Try.prog.info? 4).map (fun i => (i.zero, i.size, i.bytes)) = some (some (.bool false), 1, 1) := by kernel_rfl
theorem info9 : (Try.prog.info? 9).map (fun i => (i.zero, i.size, i.bytes)) = some (some (.string ⟨#[]⟩), 1, 16) := by kernel_rfl
-- the values' own types
/-! #### struct type 42 -/
structure S42 where
 f0 : Int
 f1 : ByteArray
 f2 : (List Int)
 f3 : Int
def z42 : S42 := ⟨(0 : Int), (⟨#[]⟩ : ByteArray), ([] : List Int), (0 : Int)⟩
def k42 : Kd S42 := Kd.iso (Kd.pair (Kd.int .i64) (Kd.pair Kd.string (Kd.pair (Kd.slice 2 (Kd.int .i64)) (Kd.int .i64)))) (fun x : S42 => (x.f0, x.f1, x.f2, x.f3))
theorem k42_open {w : World} {x : S42} {cs : List Value} (h : k42.K w x cs) : ∃ A2 c2, cs = [.int .i64 x.f0, .string x.f1, .slice A2 x.f2.length c2, .int .i64 x.f3] ∧ x.f2.length ≤ c2 ∧ (Kd.int .i64).C w A2 x.f2.length x.f2 := by
 obtain ⟨_, _, rfl, rfl, ⟨_, _, rfl, rfl, ⟨_, _, rfl, ⟨A2, c2, rfl, l2, g2⟩, rfl⟩⟩⟩ := h
 exact ⟨A2, c2, rfl, l2, g2⟩
theorem k42_openM {w : World} {base : Nat} {ok : Nat → Prop} {x : S42} {cs : List Value} (h : k42.M w base ok x cs) : ∃ v2, cs = [.int .i64 x.f0, .string x.f1, v2, .int .i64 x.f3] ∧ (Kd.int .i64).R 2 w base ok v2 x.f2 := by
 obtain ⟨_, _, rfl, rfl, ⟨_, _, rfl, rfl, ⟨_, _, rfl, ⟨v2, rfl, g2⟩, rfl⟩⟩⟩ := h
 exact ⟨v2, rfl, g2⟩
theorem k42_mkM (w : World) (base : Nat) (ok : Nat → Prop) (x : S42) {v2 : Value} (g2 : (Kd.int .i64).R 2 w base ok v2 x.f2) : k42.M w base ok x [.int .i64 x.f0, .string x.f1, v2, .int .i64 x.f3] := ⟨[.int .i64 x.f0], [.string x.f1, v2, .int .i64 x.f3], rfl, rfl, ⟨[.string x.f1], [v2, .int .i64 x.f3], rfl, rfl, ⟨[v2], [.int .i64 x.f3], rfl, ⟨v2, rfl, g2⟩, rfl⟩⟩⟩
def rd_T42 (xs : List S42) (i : Int) : S42 := xs.getD i.toNat z42
theorem at_T42 {w : World} {A : Option Addr} {n : Nat} {xs : List S42} (h : Kd.C k42 w A n xs) (i : Int) (h0 : 0 ≤ i) (h1 : i < n) : ∃ ad A2 c2, A = some ad ∧ w.cell? (ad.add (i.toNat * 4)) = some (.int .i64 (rd_T42 xs i).f0) ∧ w.cell? ⟨(ad.add (i.toNat * 4)).block, (ad.add (i.toNat * 4)).off + 1, none⟩ = some (.string (rd_T42 xs i).f1) ∧ w.cell? ⟨(ad.add (i.toNat * 4)).block, (ad.add (i.toNat * 4)).off + 2, none⟩ = some (.slice A2 (rd_T42 xs i).f2.length c2) ∧ w.cell? ⟨(ad.add (i.toNat * 4)).block, (ad.add (i.toNat * 4)).off + 3, none⟩ = some (.int .i64 (rd_T42 xs i).f3) ∧ (rd_T42 xs i).f2.length ≤ c2 ∧ (Kd.int .i64).C w A2 (rd_T42 xs i).f2.length (rd_T42 xs i).f2 := by
 obtain ⟨ad, c, e, _, hK, hc0⟩ := Kd.C_get h z42 i h0 h1
 have hc : ∀ j u, c[j]? = some u → w.cell? (ad.add (i.toNat * 4 + j)) = some u := hc0
 obtain ⟨A2, c2, rfl, l2, g2⟩ := k42_open hK
 exact ⟨ad, A2, c2, e, hc 0 _ rfl, by rw [← add_field _ _ 1 (by omega)]; exact hc 1 _ rfl, by rw [← add_field _ _ 2 (by omega)]; exact hc 2 _ rfl, by rw [← add_field _ _ 3 (by omega)]; exact hc 3 _ rfl, l2, g2⟩

end Go.Proofs.Ytajdfbgbkgabjaa.L

namespace Go.Proofs.YtajdfbgbkgabjaaW.PrintWords
/-- W' is W but for what was drawn, and for new blocks. -/
class Up (W : outParam World) (W' : World) : Prop where
  up : ∀ (g : Nat) (o : Obj), W.heap[g]? = some o → W'.heap[g]? = some o
instance (priority := 10) (W : World) : Up W W := ⟨fun _ _ h => h⟩
instance (W V : World) [Up W V] : Up W V.drew := ⟨fun g o h => blk_drew (Up.up g o h)⟩
instance (W V : World) (n : Nat) [Up W V] : Up W (V.drewN n) := ⟨fun g o h => blk_drewN (Up.up g o h) n⟩
instance (W V : World) (x : Obj) [Up W V] : Up W (V.alloc x) := ⟨fun g o h => blk_alloc (Up.up g o h) x⟩
theorem blk_up {W W' : World} {g : Nat} {o : Obj} [Up W W'] (h : W.heap[g]? = some o) : W'.heap[g]? = some o := Up.up g o h
end Go.Proofs.YtajdfbgbkgabjaaW.PrintWords
namespace Go.Proofs.YtajdfbgbkgabjaaW.PrintWords
def bitsA (n m : Nat) : Array Bool := ((List.range n).map fun i => m.testBit i).toArray
theorem oS {α β : Type} {a : α} {f : α → Option β} {r : Option β} (h : (some a).bind f = r) : f a = r := h
theorem oP {α β : Type} {a c : α} {b d : β} (h : some (a, b) = some (c, d)) : a = c ∧ b = d := by cases h; exact ⟨rfl, rfl⟩
theorem iN {α : Sort _} {_ : Decidable (false = true)} {a b : α} : (if false = true then a else b) = b := if_neg Bool.false_ne_true
theorem oT {p : Prop} [Decidable p] (h : decide p = true) : p := of_decide_eq_true h
theorem dT {p : Prop} [Decidable p] (h : p) : decide p = true := decide_eq_true h
theorem dF {p : Prop} [Decidable p] (h : ¬ p) : decide p = false := decide_eq_false h
theorem bM {α β : Type} {o : Option α} {f : α → Option β} {b : β} (h : o.bind f = some b) : ∃ a, o = some a ∧ f a = some b := Option.bind_eq_some_iff.mp h
theorem bN {α : Type} [BEq α] [LawfulBEq α] {a b : α} (h : a ≠ b) : (a == b) = false := beq_eq_false_iff_ne.mpr h
theorem bO {α : Type} [BEq α] [LawfulBEq α] {a b : α} (h : a ≠ b) : (a != b) = true := bne_iff_ne.mpr h
theorem bE {α : Type} [BEq α] [LawfulBEq α] {a b : α} (h : a = b) : (a == b) = true := beq_iff_eq.mpr h
theorem bQ {α : Type} [BEq α] [LawfulBEq α] {a b : α} (h : a = b) : (a != b) = false := bne_eq_false_iff_eq.mpr h
theorem oI {α : Type} {a b : α} (h : some a = some b) : a = b := Option.some.inj h
theorem bC (w : World) (a : Addr) {u : Value} (h : w.cell? a = some u) : a.block < w.heap.size := World.block_lt_of_cell? w a h
theorem blkC4 {w : World} {g : Nat} {t : TypeId} {a0 a1 a2 a3 : Value} (h : w.heap[g]? = some (.cells #[a0, a1, a2, a3] t (0, 0))) : (w.cell? ⟨g, 0, none⟩ = some a0 ∧ w.cell? ⟨g, 1, none⟩ = some a1 ∧ w.cell? ⟨g, 2, none⟩ = some a2 ∧ w.cell? ⟨g, 3, none⟩ = some a3) ∧ w.frozen? ⟨g, 0, none⟩ = false ∧ w.frozen? ⟨g, 1, none⟩ = false ∧ w.frozen? ⟨g, 2, none⟩ = false ∧ w.frozen? ⟨g, 3, none⟩ = false :=
  ⟨⟨(blk_cell h 0).trans rfl, (blk_cell h 1).trans rfl, (blk_cell h 2).trans rfl, (blk_cell h 3).trans rfl⟩, blk_frozen h 0, blk_frozen h 1, blk_frozen h 2, blk_frozen h 3⟩
theorem dAct {p : Prop} (h : p := by simp only [Act.put, List.setIfInBounds_toArray, List.set_cons_zero, List.set_cons_succ, i64_w, i32_w]; rfl) : p := h
theorem dq0 {p : Prop} (h : p := by first | (go_simp; done) | (go_simp; rfl)) : p := h
theorem dq1 {p : Prop} (h : p := by repeat (first | (with_reducible first | exact HI0.out | apply IsS101.alloc | apply IsS101.drewN | apply IsS101.drew | apply IsS101.set_1) | exact HI0.out)) : p := h
theorem dq2 {p : Prop} (h : p := by repeat (first | (with_reducible first | exact HB.out | apply below_alloc | apply pw_below_drewN | apply below_drew1 | refine below_set ?_ (IsS101.ge HI0.out)) | exact HB.out)) : p := h
theorem dq3 {p : Prop} (h : p := by repeat (first | exact HR0.out | (with_reducible refine Kd.C_alloc ?_ _) | (with_reducible refine Kd.C_drewN ?_ _) | (with_reducible refine Kd.C_drew ?_))) : p := h
theorem dq4 {p : Prop} (h : p := by exact HC0.out) : p := h
theorem dq5 {p : Prop} (h : p := by repeat (first | exact (Kd.C_below HR0.out HB.out) | (with_reducible refine Kd.C_alloc ?_ _) | (with_reducible refine Kd.C_drewN ?_ _) | (with_reducible refine Kd.C_drew ?_))) : p := h
theorem dq6 {p : Prop} (h : p := by repeat (first | (with_reducible first | exact HI0.out | apply IsR54.alloc | apply IsR54.drewN | apply IsR54.drew | apply IsR54.set_0 | apply IsR54.set_1 | apply IsR54.set_2) | exact HI0.out)) : p := h
theorem dq7 {p : Prop} (h : p := by repeat (first | (with_reducible first | exact HB.out | apply below_alloc | apply pw_below_drewN | apply below_drew1 | refine below_set ?_ (IsR54.ge HI0.out)) | exact HB.out)) : p := h
theorem dq8 {p : Prop} (h : p := by exact Kd.C_foot_now HR1.out (by repeat (first | (with_reducible first | exact HK.out | apply KeepBut.set_ | apply keep_drewN | apply keep_drew | apply keep_alloc) | exact HK.out))) : p := h
theorem dq9 {p : Prop} (h : p := by exact Kd.C_below HR432_2.out (by repeat (first | (with_reducible first | exact HB.out | apply below_alloc | apply pw_below_drewN | apply below_drew1 | refine below_set ?_ GE433.out) | exact HB.out))) : p := h
theorem dq10 {p : Prop} (h : p := by exact Kd.C_below HR622_2.out (by repeat (first | (with_reducible first | exact HB.out | apply below_alloc | apply pw_below_drewN | apply below_drew1 | refine below_set ?_ GE626.out) | exact HB.out))) : p := h
theorem dq11 {p : Prop} (h : p := by repeat (first | exact (Kd.R_reads' HO_4.out).2.2 | (with_reducible refine Kd.C_alloc ?_ _) | (with_reducible refine Kd.C_drewN ?_ _) | (with_reducible refine Kd.C_drew ?_))) : p := h
theorem dq12 {p : Prop} (h : p := by repeat (first | exact (Kd.S_reads' HO_3.out).2.2 | (with_reducible refine Kd.C_alloc ?_ _) | (with_reducible refine Kd.C_drewN ?_ _) | (with_reducible refine Kd.C_drew ?_))) : p := h
theorem dq13 {p : Prop} (h : p := by repeat (first | exact Drawn0.refl _ | apply Drawn0.step)) : p := h
theorem dq14 {p : Prop} (h : p := by first | rfl | (simp; done) | (simp [*]; done)) : p := h
theorem dq15 {p : Prop} (h : p := by simp) : p := h
theorem dq16 {p : Prop} (h : p := by rw [hg]; exact (below_size (by repeat (first | (with_reducible first | exact HBW.out | apply below_alloc | apply pw_below_drewN | apply below_drew1) | exact HBW.out)))) : p := h
theorem dq17 {p : Prop} (h : p := by repeat (first | (with_reducible first | exact HB.out | apply below_alloc | apply pw_below_drewN | apply below_drew1) | exact HB.out)) : p := h
theorem dq18 {p : Prop} (h : p := by repeat (first | (with_reducible first | exact HK.out | apply KeepBut.set_ | apply keep_drewN | apply keep_drew | apply keep_alloc) | exact HK.out)) : p := h
theorem dq19 {p : Prop} (h : p := by repeat (first | (with_reducible first | exact HB.out | apply below_alloc | apply pw_below_drewN | apply below_drew1 | refine below_set ?_ (IsS101.ge HI0.out)) | exact HB.out)) : p := h
theorem dq20 {p : Prop} (h : p := by repeat (first | (with_reducible first | exact HI0.out | apply IsS101.alloc | apply IsS101.drewN | apply IsS101.drew | apply IsS101.set_1) | exact HI0.out)) : p := h
theorem dq21 {p : Prop} (h : p := by first | rfl | (simp [errW_none, errW_some] <;> rfl) | (simp [*, errW_none, errW_some] <;> rfl)) : p := h
theorem dq22 {p : Prop} (h : p := by first | (with_reducible assumption) | assumption) : p := h
theorem dq23 {p : Prop} (h : p := by (try simp only [List.map_toArray, List.map_cons, List.map_nil]); first | done | rfl | (simp only [List.length_drop, List.length_take]; rfl)) : p := h
theorem dq24 {p : Prop} (h : p := by kernel_rfl) : p := h
theorem dq25 {p : Prop} (h : p := by decide) : p := h
theorem dq26 {p : Prop} (h : p := by first | omega | exact Nat.le_refl _) : p := h
theorem dq27 {p : Prop} (h : p := by have := HK1.out; omega) : p := h
theorem dq28 {p : Prop} (h : p := by omega) : p := h
theorem dq29 {p : Prop} (h : p := by have := HK1.out; first | omega | exact Nat.le_refl _) : p := h
theorem dq30 {p : Prop} (h : p := by rw [hg]; exact (below_size (by repeat (first | (with_reducible first | exact HB.out | apply below_alloc | apply pw_below_drewN | apply below_drew1) | exact HB.out)))) : p := h
theorem dq31 {p : Prop} (h : p := by rfl) : p := h
theorem dq32 {p : Prop} (h : p := by repeat (first | (with_reducible first | exact HB.out | apply below_alloc | apply pw_below_drewN | apply below_drew1 | refine below_set ?_ GE119.out) | exact HB.out)) : p := h
theorem dq33 {p : Prop} (h : p := by refine blk_up ?_; refine blk_put (cs := #[.int .i64 ((rd_T42 l0 x3_2).f0), .string ((rd_T42 l0 x3_2).f1), .slice A118_2 ((rd_T42 l0 x3_2).f2).length c118_2, .int .i64 0]) ?_ 3 _ rfl; refine blk_up ?_; refine blk_put (cs := #[.int .i64 ((rd_T42 l0 x3_2).f0), .string ((rd_T42 l0 x3_2).f1), .slice none 0 0, .int .i64 0]) ?_ 2 _ rfl; refine blk_up ?_; refine blk_put (cs := #[.int .i64 ((rd_T42 l0 x3_2).f0), .string (⟨#[]⟩ : ByteArray), .slice none 0 0, .int .i64 0]) ?_ 1 _ rfl; refine blk_up ?_; refine blk_put (cs := #[.int .i64 0, .string (⟨#[]⟩ : ByteArray), .slice none 0 0, .int .i64 0]) ?_ 0 _ rfl; refine blk_up ?_; exact BK119.out) : p := h
theorem dq34 {p : Prop} (h : p := by have := HJ1.out; have := HK2.out; first | omega | exact Nat.le_refl _) : p := h
theorem dq35 {p : Prop} (h : p := by (try simp only [List.map_toArray, List.map_cons, List.map_nil]); first | done | (simp only [hji46]; rfl) | rfl | (simp only [List.length_drop, List.length_take]; rfl)) : p := h
theorem dq36 {p : Prop} (h : p := by first | rfl | (simp [errW_none, errW_some] <;> rfl) | (simp only [← hji46]; first | rfl | (simp [errW_none, errW_some] <;> rfl)) | (simp [*, errW_none, errW_some] <;> rfl)) : p := h
theorem dq37 {p : Prop} (h : p := by repeat (first | (with_reducible first | exact HB.out | apply below_alloc | apply pw_below_drewN | apply below_drew1 | refine below_set ?_ (IsR54.ge HI0.out)) | exact HB.out)) : p := h
theorem dq38 {p : Prop} (h : p := by repeat (first | (with_reducible first | exact HI0.out | apply IsR54.alloc | apply IsR54.drewN | apply IsR54.drew | apply IsR54.set_0 | apply IsR54.set_1 | apply IsR54.set_2) | exact HI0.out)) : p := h
theorem dq39 {p : Prop} (h : p := by repeat (first | (with_reducible first | exact HB.out | apply below_alloc | apply pw_below_drewN | apply below_drew1 | refine below_set ?_ GE417.out) | exact HB.out)) : p := h
theorem dq40 {p : Prop} (h : p := by repeat (first | (with_reducible first | exact HB.out | apply below_alloc | apply pw_below_drewN | apply below_drew1 | refine below_set ?_ GE508.out) | exact HB.out)) : p := h
theorem dq41 {p : Prop} (h : p := by repeat (first | (with_reducible first | exact HB.out | apply below_alloc | apply pw_below_drewN | apply below_drew1 | refine below_set ?_ GE509.out) | exact HB.out)) : p := h
theorem dq42 {p : Prop} (h : p := by (try simp only [List.map_toArray, List.map_cons, List.map_nil]); first | done | rfl) : p := h
theorem dq43 {p : Prop} (h : p := by (have e_ : ((nO : Nat) : Int) - 1 = ((out2.length : Nat) : Int) := by (have := HNO.out; omega)); first | (rw [hres]; first | done | rfl) | (rw [e_]; first | done | rfl)) : p := h
theorem dq44 {p : Prop} (h : p := by (with_reducible repeat (first | apply Kd.R_alloc | apply Kd.R_drewN | apply Kd.R_drew)); exact (Q_HO191 h0_)) : p := h
theorem dq45 {p : Prop} (h : p := by (with_reducible repeat (first | apply Kd.R_alloc | apply Kd.R_drewN | apply Kd.R_drew)); exact (Q_HO199 h0_)) : p := h
theorem dq46 {p : Prop} (h : p := by repeat (first | (with_reducible first | exact (Q_HI0 h0_) | apply IsS101.alloc | apply IsS101.drewN | apply IsS101.drew | apply IsS101.set_1) | exact (Q_HI0 h0_))) : p := h
theorem dq47 {p : Prop} (h : p := by repeat (first | (with_reducible first | exact (Q_HI0_e1 h0_ h1_) | apply IsS101.alloc | apply IsS101.drewN | apply IsS101.drew | apply IsS101.set_1) | exact (Q_HI0_e1 h0_ h1_))) : p := h
theorem dq48 {p : Prop} (h : p := by repeat (first | (with_reducible first | exact (Q_HI0_e5 h0_ h1_) | apply IsS101.alloc | apply IsS101.drewN | apply IsS101.drew | apply IsS101.set_1) | exact (Q_HI0_e5 h0_ h1_))) : p := h
theorem dq49 {p : Prop} (h : p := by repeat (first | (with_reducible first | exact (Q_HI0_e10 h0_ h1_) | apply IsS101.alloc | apply IsS101.drewN | apply IsS101.drew | apply IsS101.set_1) | exact (Q_HI0_e10 h0_ h1_))) : p := h
theorem dq50 {p : Prop} (h : p := by repeat (first | (with_reducible first | exact (Q_HI0_e15 h0_) | apply IsS101.alloc | apply IsS101.drewN | apply IsS101.drew | apply IsS101.set_1) | exact (Q_HI0_e15 h0_))) : p := h
theorem dq51 {p : Prop} (h : p := by (with_reducible repeat (first | apply Kd.R_alloc | apply Kd.R_drewN | apply Kd.R_drew)); exact HO191.out) : p := h
theorem dq52 {p : Prop} (h : p := by (with_reducible repeat (first | apply Kd.R_alloc | apply Kd.R_drewN | apply Kd.R_drew)); exact HO199.out) : p := h
theorem dq53 {p : Prop} (h : p := by (with_reducible repeat (first | apply Kd.S_alloc | apply Kd.S_drewN | apply Kd.S_drew)); exact HO206.out) : p := h
theorem dq54 {p : Prop} (h : p := by (with_reducible repeat (first | apply Kd.S_alloc | apply Kd.S_drewN | apply Kd.S_drew)); exact HO_3.out) : p := h
theorem dq55 {p : Prop} (h : p := by (with_reducible repeat (first | apply Kd.S_alloc | apply Kd.S_drewN | apply Kd.S_drew)); exact Kd.S_mono HO_3.out (fun k_ hk => ⟨trivial, fun e_ => e_⟩)) : p := h
theorem dq56 {p : Prop} (h : p := by first | (rw [add_block]; exact Kd.own_blk (IsS101.own_neS HI0.out HO_3.out (by decide))) | (show (Addr.add _ _).block ≠ _; rw [add_block]; exact Kd.own_blk (IsS101.own_neS HI0.out HO_3.out (by decide))) | exact Kd.own_blk (IsS101.own_neS HI0.out HO_3.out (by decide))) : p := h
theorem dq57 {p : Prop} (h : p := by first | (rw [add_block]; exact (fun e_ => ((HL231_2.out.1 _ e_.symm).2) rfl)) | (show some (Addr.add _ _).block ≠ _; rw [add_block]; exact (fun e_ => ((HL231_2.out.1 _ e_.symm).2) rfl)) | exact (fun e_ => ((HL231_2.out.1 _ e_.symm).2) rfl)) : p := h
theorem dq58 {p : Prop} (h : p := by first | (rw [add_block]; exact Kd.S_lt HO_3.out _ rfl) | (show (Addr.add _ _).block < _; rw [add_block]; exact Kd.S_lt HO_3.out _ rfl) | exact Kd.S_lt HO_3.out _ rfl) : p := h
theorem dq59 {p : Prop} (h : p := by (with_reducible repeat (first | apply Kd.R_alloc | apply Kd.R_drewN | apply Kd.R_drew)); exact HO_3.out) : p := h
theorem dq60 {p : Prop} (h : p := by repeat (first | (with_reducible first | exact HB.out | apply below_alloc | apply pw_below_drewN | apply below_drew1 | refine below_set ?_ GE288.out) | exact HB.out)) : p := h
theorem dq61 {p : Prop} (h : p := by refine blk_up ?_; refine blk_put (cs := #[.int .i64 ((rd_T42 l0 a1).f0), .string ((rd_T42 l0 a1).f1), .slice A287_2 ((rd_T42 l0 a1).f2).length c287_2, .int .i64 0]) ?_ 3 _ rfl; refine blk_up ?_; refine blk_put (cs := #[.int .i64 ((rd_T42 l0 a1).f0), .string ((rd_T42 l0 a1).f1), .slice none 0 0, .int .i64 0]) ?_ 2 _ rfl; refine blk_up ?_; refine blk_put (cs := #[.int .i64 ((rd_T42 l0 a1).f0), .string (⟨#[]⟩ : ByteArray), .slice none 0 0, .int .i64 0]) ?_ 1 _ rfl; refine blk_up ?_; refine blk_put (cs := #[.int .i64 0, .string (⟨#[]⟩ : ByteArray), .slice none 0 0, .int .i64 0]) ?_ 0 _ rfl; refine blk_up ?_; exact BK288.out) : p := h
theorem dq62 {p : Prop} (h : p := by refine blk_up ?_; exact BK288.out) : p := h
theorem dq63 {p : Prop} (h : p := by have := HJ4.out; have := HK2.out; omega) : p := h
theorem dq64 {p : Prop} (h : p := by repeat (first | (with_reducible first | exact HB.out | apply below_alloc | apply pw_below_drewN | apply below_drew1 | refine below_set ?_ GE294.out) | exact HB.out)) : p := h
theorem dq65 {p : Prop} (h : p := by refine blk_up ?_; refine blk_put (cs := #[.int .i64 ((rd_T42 l0 a1).f0), .string ((rd_T42 l0 a1).f1), .slice A293_2 ((rd_T42 l0 a1).f2).length c293_2, .int .i64 0]) ?_ 3 _ rfl; refine blk_up ?_; refine blk_put (cs := #[.int .i64 ((rd_T42 l0 a1).f0), .string ((rd_T42 l0 a1).f1), .slice none 0 0, .int .i64 0]) ?_ 2 _ rfl; refine blk_up ?_; refine blk_put (cs := #[.int .i64 ((rd_T42 l0 a1).f0), .string (⟨#[]⟩ : ByteArray), .slice none 0 0, .int .i64 0]) ?_ 1 _ rfl; refine blk_up ?_; refine blk_put (cs := #[.int .i64 0, .string (⟨#[]⟩ : ByteArray), .slice none 0 0, .int .i64 0]) ?_ 0 _ rfl; refine blk_up ?_; exact BK294.out) : p := h
theorem dq66 {p : Prop} (h : p := by refine blk_up ?_; exact BK294.out) : p := h
theorem dq67 {p : Prop} (h : p := by (with_reducible repeat (first | apply Kd.R_alloc | apply Kd.R_drewN | apply Kd.R_drew)); exact HO_8.out) : p := h
theorem dq68 {p : Prop} (h : p := by (with_reducible repeat (first | apply Kd.R_alloc | apply Kd.R_drewN | apply Kd.R_drew)); exact HO304.out) : p := h
theorem dq69 {p : Prop} (h : p := by (with_reducible repeat (first | apply Kd.R_alloc | apply Kd.R_drewN | apply Kd.R_drew)); exact Kd.R_mono HO_8.out (fun _ hk => hk.2)) : p := h
theorem dq70 {p : Prop} (h : p := by have := HJ5.out; have := HK2.out; have := HJ17.out; omega) : p := h
theorem dq71 {p : Prop} (h : p := by (with_reducible repeat (first | apply Kd.R_alloc | apply Kd.R_drewN | apply Kd.R_drew)); exact Kd.R_mono HO307.out (fun _ hk => trivial)) : p := h
theorem dq72 {p : Prop} (h : p := by (with_reducible repeat (first | apply Kd.R_alloc | apply Kd.R_drewN | apply Kd.R_drew)); exact HO_5.out) : p := h
theorem dq73 {p : Prop} (h : p := by repeat (first | (with_reducible first | exact HB.out | apply below_alloc | apply pw_below_drewN | apply below_drew1 | refine below_set ?_ GE328.out) | exact HB.out)) : p := h
theorem dq74 {p : Prop} (h : p := by refine blk_up ?_; refine blk_put (cs := #[.int .i64 ((rd_T42 l0 x6_1).f0), .string ((rd_T42 l0 x6_1).f1), .slice A327_2 ((rd_T42 l0 x6_1).f2).length c327_2, .int .i64 0]) ?_ 3 _ rfl; refine blk_up ?_; refine blk_put (cs := #[.int .i64 ((rd_T42 l0 x6_1).f0), .string ((rd_T42 l0 x6_1).f1), .slice none 0 0, .int .i64 0]) ?_ 2 _ rfl; refine blk_up ?_; refine blk_put (cs := #[.int .i64 ((rd_T42 l0 x6_1).f0), .string (⟨#[]⟩ : ByteArray), .slice none 0 0, .int .i64 0]) ?_ 1 _ rfl; refine blk_up ?_; refine blk_put (cs := #[.int .i64 0, .string (⟨#[]⟩ : ByteArray), .slice none 0 0, .int .i64 0]) ?_ 0 _ rfl; refine blk_up ?_; exact BK328.out) : p := h
theorem dq75 {p : Prop} (h : p := by (with_reducible repeat (first | apply Kd.R_alloc | apply Kd.R_drewN | apply Kd.R_drew)); exact (Kd.R_mono (Kd.R_far (p := ⟨gb328, 3, none⟩) (Kd.R_far (p := ⟨gb328, 2, none⟩) (Kd.R_far (p := ⟨gb328, 1, none⟩) (Kd.R_far (p := ⟨gb328, 0, none⟩) (Kd.R_types HO_5.out BK328.out (by decide)) (fun _ hk => hk.2) (.int .i64 ((rd_T42 l0 x6_1).f0))) (fun _ hk => hk.2) (.string ((rd_T42 l0 x6_1).f1))) (fun _ hk => hk.2) (.slice A327_2 ((rd_T42 l0 x6_1).f2).length c327_2)) (fun _ hk => hk.2) (.int .i64 ((rd_T42 l0 x6_1).f3))) (fun _ h_ => h_.1))) : p := h
theorem dq76 {p : Prop} (h : p := by refine blk_up ?_; exact BK328.out) : p := h
theorem dq77 {p : Prop} (h : p := by (with_reducible repeat (first | apply Kd.R_alloc | apply Kd.R_drewN | apply Kd.R_drew)); exact Kd.R_mono HO_5.out (fun _ hk => trivial)) : p := h
theorem dq78 {p : Prop} (h : p := by (with_reducible repeat (first | apply Kd.R_alloc | apply Kd.R_drewN | apply Kd.R_drew)); exact Kd.R_mono HO_5.out (fun _ hk => hk.2)) : p := h
theorem dq79 {p : Prop} (h : p := by (with_reducible repeat (first | apply Kd.R_alloc | apply Kd.R_drewN | apply Kd.R_drew)); exact HO347.out) : p := h
theorem dq80 {p : Prop} (h : p := by (with_reducible repeat (first | apply Kd.R_alloc | apply Kd.R_drewN | apply Kd.R_drew)); exact Kd.R_mono HO350.out (fun _ hk => trivial)) : p := h
theorem dq81 {p : Prop} (h : p := by have := HK1.out; have := HJ6.out; have := HJ16.out; have := HK4.out; have := HK5.out; omega) : p := h
theorem dq82 {p : Prop} (h : p := by (with_reducible repeat (first | apply Kd.R_alloc | apply Kd.R_drewN | apply Kd.R_drew)); exact HO361.out) : p := h
theorem dq83 {p : Prop} (h : p := by (with_reducible repeat (first | apply Kd.R_alloc | apply Kd.R_drewN | apply Kd.R_drew)); exact HO_6.out) : p := h
theorem dq84 {p : Prop} (h : p := by (with_reducible repeat (first | apply Kd.R_alloc | apply Kd.R_drewN | apply Kd.R_drew)); exact HO393.out) : p := h
theorem dq85 {p : Prop} (h : p := by repeat (first | (with_reducible first | exact HB.out | apply below_alloc | apply pw_below_drewN | apply below_drew1 | refine below_set ?_ (IsS101.ge HI402.out)) | exact HB.out)) : p := h
theorem dq86 {p : Prop} (h : p := by (with_reducible repeat (first | apply Kd.S_alloc | apply Kd.S_drewN | apply Kd.S_drew)); exact HO405.out) : p := h
theorem dq87 {p : Prop} (h : p := by repeat (first | (with_reducible first | exact HB.out | apply below_alloc | apply pw_below_drewN | apply below_drew1 | refine below_set ?_ (IsS101.ge HI617.out)) | exact HB.out)) : p := h
theorem dq88 {p : Prop} (h : p := by repeat (first | (with_reducible first | exact HB.out | apply below_alloc | apply pw_below_drewN | apply below_drew1 | refine below_set ?_ GE419.out) | exact HB.out)) : p := h
theorem dq89 {p : Prop} (h : p := by (with_reducible repeat (first | apply Kd.R_alloc | apply Kd.R_drewN | apply Kd.R_drew)); exact HO424.out) : p := h
theorem dq90 {p : Prop} (h : p := by (with_reducible repeat (first | apply Kd.R_alloc | apply Kd.R_drewN | apply Kd.R_drew)); exact Kd.R_mono HO427.out (fun _ hk => hk.2)) : p := h
theorem dq91 {p : Prop} (h : p := by (with_reducible repeat (first | apply Kd.R_alloc | apply Kd.R_drewN | apply Kd.R_drew)); exact Kd.R_mono HO424.out (fun _ hk => hk.2)) : p := h
theorem dq92 {p : Prop} (h : p := by (with_reducible repeat (first | apply Kd.R_alloc | apply Kd.R_drewN | apply Kd.R_drew)); exact HO427.out) : p := h
theorem dq93 {p : Prop} (h : p := by (with_reducible repeat (first | apply Kd.R_alloc | apply Kd.R_drewN | apply Kd.R_drew)); exact HO_4.out) : p := h
theorem dq94 {p : Prop} (h : p := by repeat (first | (with_reducible first | exact HB.out | apply below_alloc | apply pw_below_drewN | apply below_drew1 | refine below_set ?_ GE433.out) | exact HB.out)) : p := h
theorem dq95 {p : Prop} (h : p := by refine blk_up ?_; refine blk_put (cs := #[.int .i64 ((rd_T42 l0 x22_1).f0), .string ((rd_T42 l0 x22_1).f1), .slice A432_2 ((rd_T42 l0 x22_1).f2).length c432_2, .int .i64 0]) ?_ 3 _ rfl; refine blk_up ?_; refine blk_put (cs := #[.int .i64 ((rd_T42 l0 x22_1).f0), .string ((rd_T42 l0 x22_1).f1), .slice none 0 0, .int .i64 0]) ?_ 2 _ rfl; refine blk_up ?_; refine blk_put (cs := #[.int .i64 ((rd_T42 l0 x22_1).f0), .string (⟨#[]⟩ : ByteArray), .slice none 0 0, .int .i64 0]) ?_ 1 _ rfl; refine blk_up ?_; refine blk_put (cs := #[.int .i64 0, .string (⟨#[]⟩ : ByteArray), .slice none 0 0, .int .i64 0]) ?_ 0 _ rfl; refine blk_up ?_; exact BK433.out) : p := h
theorem dq96 {p : Prop} (h : p := by (with_reducible repeat (first | apply Kd.R_alloc | apply Kd.R_drewN | apply Kd.R_drew)); exact (Kd.R_mono (Kd.R_far (p := ⟨gb433, 3, none⟩) (Kd.R_far (p := ⟨gb433, 2, none⟩) (Kd.R_far (p := ⟨gb433, 1, none⟩) (Kd.R_far (p := ⟨gb433, 0, none⟩) (Kd.R_types HO_4.out BK433.out (by decide)) (fun _ hk => hk.2) (.int .i64 ((rd_T42 l0 x22_1).f0))) (fun _ hk => hk.2) (.string ((rd_T42 l0 x22_1).f1))) (fun _ hk => hk.2) (.slice A432_2 ((rd_T42 l0 x22_1).f2).length c432_2)) (fun _ hk => hk.2) (.int .i64 ((rd_T42 l0 x22_1).f3))) (fun _ h_ => h_.1))) : p := h
theorem dq97 {p : Prop} (h : p := by (with_reducible repeat (first | apply Kd.R_alloc | apply Kd.R_drewN | apply Kd.R_drew)); exact (Kd.R_mono (Kd.R_far (p := ⟨gb433, 3, none⟩) (Kd.R_far (p := ⟨gb433, 2, none⟩) (Kd.R_far (p := ⟨gb433, 1, none⟩) (Kd.R_far (p := ⟨gb433, 0, none⟩) (Kd.R_types HO_3.out BK433.out (by decide)) (fun _ hk => hk.2) (.int .i64 ((rd_T42 l0 x22_1).f0))) (fun _ hk => hk.2) (.string ((rd_T42 l0 x22_1).f1))) (fun _ hk => hk.2) (.slice A432_2 ((rd_T42 l0 x22_1).f2).length c432_2)) (fun _ hk => hk.2) (.int .i64 ((rd_T42 l0 x22_1).f3))) (fun _ h_ => h_.1))) : p := h
theorem dq98 {p : Prop} (h : p := by first | rfl | (simp [errW_none, errW_some] <;> rfl) | (simp only [← hji54]; first | rfl | (simp [errW_none, errW_some] <;> rfl)) | (simp [*, errW_none, errW_some] <;> rfl)) : p := h
theorem dq99 {p : Prop} (h : p := by repeat (first | (with_reducible first | exact HB.out | apply below_alloc | apply pw_below_drewN | apply below_drew1 | refine below_set ?_ GE626.out) | exact HB.out)) : p := h
theorem dq100 {p : Prop} (h : p := by refine blk_up ?_; refine blk_put (cs := #[.int .i64 ((rd_T42 l0 a1).f0), .string ((rd_T42 l0 a1).f1), .slice A622_2 ((rd_T42 l0 a1).f2).length c622_2, .int .i64 0]) ?_ 3 _ rfl; refine blk_up ?_; refine blk_put (cs := #[.int .i64 ((rd_T42 l0 a1).f0), .string ((rd_T42 l0 a1).f1), .slice none 0 0, .int .i64 0]) ?_ 2 _ rfl; refine blk_up ?_; refine blk_put (cs := #[.int .i64 ((rd_T42 l0 a1).f0), .string (⟨#[]⟩ : ByteArray), .slice none 0 0, .int .i64 0]) ?_ 1 _ rfl; refine blk_up ?_; refine blk_put (cs := #[.int .i64 0, .string (⟨#[]⟩ : ByteArray), .slice none 0 0, .int .i64 0]) ?_ 0 _ rfl; refine blk_up ?_; exact BK626.out) : p := h
theorem dq101 {p : Prop} (h : p := by (with_reducible repeat (first | apply Kd.R_alloc | apply Kd.R_drewN | apply Kd.R_drew)); exact (Kd.R_mono (Kd.R_far (p := ⟨gb626, 3, none⟩) (Kd.R_far (p := ⟨gb626, 2, none⟩) (Kd.R_far (p := ⟨gb626, 1, none⟩) (Kd.R_far (p := ⟨gb626, 0, none⟩) (Kd.R_types HO625.out BK626.out (by decide)) (fun _ hk => hk.2) (.int .i64 ((rd_T42 l0 a1).f0))) (fun _ hk => hk.2) (.string ((rd_T42 l0 a1).f1))) (fun _ hk => hk.2) (.slice A622_2 ((rd_T42 l0 a1).f2).length c622_2)) (fun _ hk => hk.2) (.int .i64 ((rd_T42 l0 a1).f3))) (fun _ h_ => h_.1))) : p := h
theorem dq102 {p : Prop} (h : p := by (with_reducible repeat (first | apply Kd.R_alloc | apply Kd.R_drewN | apply Kd.R_drew)); exact HO625.out) : p := h
theorem dq103 {p : Prop} (h : p := by refine blk_up ?_; exact BK626.out) : p := h
theorem dq104 {p : Prop} (h : p := by (with_reducible repeat (first | apply Kd.R_alloc | apply Kd.R_drewN | apply Kd.R_drew)); exact Kd.R_mono HO_6.out (fun _ hk => hk.2)) : p := h
theorem dq105 {p : Prop} (h : p := by (with_reducible repeat (first | apply Kd.R_alloc | apply Kd.R_drewN | apply Kd.R_drew)); exact Kd.R_mono HO_6.out (fun _ hk => trivial)) : p := h
theorem dq106 {p : Prop} (h : p := by first | exact Kd.R_nil _ _ _ _ _ | exact Kd.N_nil _ _ _ _ _ | exact Kd.V_nil _ _ _ _ _ | exact Kd.Q_nil _ _ _ _ _ | exact Kd.S_nil _ _ _ _ _) : p := h
theorem dq107 {p : Prop} (h : p := by repeat (first | (with_reducible first | exact HB.out | apply below_alloc | apply pw_below_drewN | apply below_drew1 | refine below_set ?_ GE655.out) | exact HB.out)) : p := h
theorem dq108 {p : Prop} (h : p := by refine blk_up ?_; refine blk_put (cs := #[.int .i64 ((rd_T42 l0 a1).f0), .string ((rd_T42 l0 a1).f1), .slice A654_2 ((rd_T42 l0 a1).f2).length c654_2, .int .i64 0]) ?_ 3 _ rfl; refine blk_up ?_; refine blk_put (cs := #[.int .i64 ((rd_T42 l0 a1).f0), .string ((rd_T42 l0 a1).f1), .slice none 0 0, .int .i64 0]) ?_ 2 _ rfl; refine blk_up ?_; refine blk_put (cs := #[.int .i64 ((rd_T42 l0 a1).f0), .string (⟨#[]⟩ : ByteArray), .slice none 0 0, .int .i64 0]) ?_ 1 _ rfl; refine blk_up ?_; refine blk_put (cs := #[.int .i64 0, .string (⟨#[]⟩ : ByteArray), .slice none 0 0, .int .i64 0]) ?_ 0 _ rfl; refine blk_up ?_; exact BK655.out) : p := h
theorem dq109 {p : Prop} (h : p := by refine blk_up ?_; exact BK655.out) : p := h
theorem dq110 {p : Prop} (h : p := by (with_reducible repeat (first | apply Kd.R_alloc | apply Kd.R_drewN | apply Kd.R_drew)); exact Kd.R_mono HO671.out (fun _ hk => trivial)) : p := h
theorem dq111 {p : Prop} (h : p := by rw [O3.out]; decide) : p := h
theorem dq112 {p : Prop} (h : p := by rw [OL.out]; decide) : p := h
theorem dq113 {p : Prop} (h : p := by rw [OF.out]; decide) : p := h
theorem dq114 {p : Prop} (h : p := by rw [ON.out]; decide) : p := h
theorem dq115 {p : Prop} (h : p := by rw [XO.out]; decide) : p := h
theorem dq116 {p : Prop} (h : p := by have := HL6.out; unfold LIMK at this; (try simp only [List.length_nil]); omega) : p := h
theorem dq117 {p : Prop} (h : p := by rw [ha.out]; exact (putSel_same rfl).symm) : p := h
theorem dq118 {p : Prop} (h : p := by (with_reducible repeat (first | apply Kd.S_alloc | apply Kd.S_drewN | apply Kd.S_drew)); exact HO684.out) : p := h
theorem dq119 {p : Prop} (h : p := by (with_reducible repeat (first | apply Kd.R_alloc | apply Kd.R_drewN | apply Kd.R_drew)); exact Kd.R_mono HO692.out (fun _ hk => hk.2)) : p := h
theorem dq120 {p : Prop} (h : p := by (with_reducible repeat (first | apply Kd.R_alloc | apply Kd.R_drewN | apply Kd.R_drew)); exact Kd.R_mono HO688.out (fun _ hk => hk.2)) : p := h
theorem dq121 {p : Prop} (h : p := by (with_reducible repeat (first | apply Kd.R_alloc | apply Kd.R_drewN | apply Kd.R_drew)); exact HO700.out) : p := h
theorem dq122 {p : Prop} (h : p := by (with_reducible repeat (first | apply Kd.S_alloc | apply Kd.S_drewN | apply Kd.S_drew)); exact HO698.out) : p := h
end Go.Proofs.YtajdfbgbkgabjaaW.PrintWords
namespace Go.Proofs.YtajdfbgbkgabjaaW.PrintLast
open Go.RowKit YtajdfbgbkgabjaaW.PrintWords YtajdfbgbkgabjaaW.PrintMore
section
variable {P : Program} {md : Region.Mode} {ops : Array Oper} {Q : Exit → Act → World → Prop} {S : World → Prop} {ds : List Nat}
theorem pureN {i : Nat} {N : Option Tmp} {oi : Oper} {fuel : Nat} {l : Array Bool} {a : Act} {w : World} (l' : Array Bool) {a' : Act}
    (h : wpAnyLast P md ops Q S ds fuel l' a' w) (hi : ops[i]? = some oi := by exact rfl) (hN : oi.dst = N := by exact rfl) (hc : anyB md ops l l' i = true := by exact any_of HT_.out (by kernel_rfl))
    (hQ : ∀ c a w, Q (.panic c) (a.put oi.dst undef) w → Q (.panic c) a w := by exact fun _ _ _ h => h) (hy : Yields P ops oi undef a := by exact Or.inr ⟨by rfl, rfl⟩)
    (ha : a.put N undef = a' := by simp only [Act.put, List.setIfInBounds_toArray, List.set_cons_zero, List.set_cons_succ, i64_w, i32_w]; rfl) : wpAnyLast P md ops Q S ds (fuel + 1) l a w := pure_ l' hi hN hc hQ hy ha h
theorem pureA {i : Nat} {N : Option Tmp} {oi : Oper} {v : Value} {fuel : Nat} {l : Array Bool} {a : Act} {w : World} (l' : Array Bool) {a' : Act}
    (h : wpAnyLast P md ops Q S ds fuel l' a' w) (hi : ops[i]? = some oi := by exact rfl) (hN : oi.dst = N := by exact rfl) (hc : anyB md ops l l' i = true := by exact any_of HT_.out (by kernel_rfl))
    (hQ : ∀ c a w, Q (.panic c) (a.put oi.dst v) w → Q (.panic c) a w := by exact fun _ _ _ h => h) (hy : Yields P ops oi v a := by refine Or.inl ⟨by rfl, ?_⟩; intro w'; go_simp; with_reducible rfl)
    (ha : a.put N v = a' := by simp only [Act.put, List.setIfInBounds_toArray, List.set_cons_zero, List.set_cons_succ, i64_w, i32_w]; rfl) : wpAnyLast P md ops Q S ds (fuel + 1) l a w := pure_ l' hi hN hc hQ hy ha h
theorem takeA2 {i : Nat} {N : Option Tmp} {oi : Oper} {v : Value} {fuel : Nat} {l : Array Bool} {a : Act} {w : World} (l' : Array Bool) {a' : Act}
    (h : wpAnyLast P md ops Q S ds fuel l' a' w) (hi : ops[i]? = some oi := by exact rfl) (hN : oi.dst = N := by exact rfl) (hc : takeB md ops ds l l' i = true := by exact take_ofW HT_.out HW_.out (by kernel_rfl))
    (hQ : ∀ c a w, Q (.panic c) (a.put oi.dst v) w → Q (.panic c) a w := by exact fun _ _ _ h => h) (hy : YieldsIf P ops S oi v a := by refine Or.inl ⟨by rfl, ?_⟩; rintro w' ⟨s0, s1⟩; go_simp; with_reducible rfl) (hS : S w := by exact hHeld)
    (ha : a.put N v = a' := by simp only [Act.put, List.setIfInBounds_toArray, List.set_cons_zero, List.set_cons_succ, i64_w, i32_w]; rfl) : wpAnyLast P md ops Q S ds (fuel + 1) l a w := take_ l' hi hN hc hQ hy hS ha h
theorem takeA3 {i : Nat} {N : Option Tmp} {oi : Oper} {v : Value} {fuel : Nat} {l : Array Bool} {a : Act} {w : World} (l' : Array Bool) {a' : Act}
    (h : wpAnyLast P md ops Q S ds fuel l' a' w) (hi : ops[i]? = some oi := by exact rfl) (hN : oi.dst = N := by exact rfl) (hc : takeB md ops ds l l' i = true := by exact take_ofW HT_.out HW_.out (by kernel_rfl))
    (hQ : ∀ c a w, Q (.panic c) (a.put oi.dst v) w → Q (.panic c) a w := by exact fun _ _ _ h => h) (hy : YieldsIf P ops S oi v a := by refine Or.inl ⟨by rfl, ?_⟩; rintro w' ⟨s0, s1, s2⟩; go_simp; with_reducible rfl) (hS : S w := by exact hHeld)
    (ha : a.put N v = a' := by simp only [Act.put, List.setIfInBounds_toArray, List.set_cons_zero, List.set_cons_succ, i64_w, i32_w]; rfl) : wpAnyLast P md ops Q S ds (fuel + 1) l a w := take_ l' hi hN hc hQ hy hS ha h
theorem takeA4 {i : Nat} {N : Option Tmp} {oi : Oper} {v : Value} {fuel : Nat} {l : Array Bool} {a : Act} {w : World} (l' : Array Bool) {a' : Act}
    (h : wpAnyLast P md ops Q S ds fuel l' a' w) (hi : ops[i]? = some oi := by exact rfl) (hN : oi.dst = N := by exact rfl) (hc : takeB md ops ds l l' i = true := by exact take_ofW HT_.out HW_.out (by kernel_rfl))
    (hQ : ∀ c a w, Q (.panic c) (a.put oi.dst v) w → Q (.panic c) a w := by exact fun _ _ _ h => h) (hy : YieldsIf P ops S oi v a := by refine Or.inl ⟨by rfl, ?_⟩; rintro w' ⟨s0, s1, s2, s3⟩; go_simp; with_reducible rfl) (hS : S w := by exact hHeld)
    (ha : a.put N v = a' := by simp only [Act.put, List.setIfInBounds_toArray, List.set_cons_zero, List.set_cons_succ, i64_w, i32_w]; rfl) : wpAnyLast P md ops Q S ds (fuel + 1) l a w := take_ l' hi hN hc hQ hy hS ha h
theorem takeA5 {i : Nat} {N : Option Tmp} {oi : Oper} {v : Value} {fuel : Nat} {l : Array Bool} {a : Act} {w : World} (l' : Array Bool) {a' : Act}
    (h : wpAnyLast P md ops Q S ds fuel l' a' w) (hi : ops[i]? = some oi := by exact rfl) (hN : oi.dst = N := by exact rfl) (hc : takeB md ops ds l l' i = true := by exact take_ofW HT_.out HW_.out (by kernel_rfl))
    (hQ : ∀ c a w, Q (.panic c) (a.put oi.dst v) w → Q (.panic c) a w := by exact fun _ _ _ h => h) (hy : YieldsIf P ops S oi v a := by refine Or.inl ⟨by rfl, ?_⟩; rintro w' ⟨s0, s1, s2, s3, s4⟩; go_simp; with_reducible rfl) (hS : S w := by exact hHeld)
    (ha : a.put N v = a' := by simp only [Act.put, List.setIfInBounds_toArray, List.set_cons_zero, List.set_cons_succ, i64_w, i32_w]; rfl) : wpAnyLast P md ops Q S ds (fuel + 1) l a w := take_ l' hi hN hc hQ hy hS ha h
theorem takeA6 {i : Nat} {N : Option Tmp} {oi : Oper} {v : Value} {fuel : Nat} {l : Array Bool} {a : Act} {w : World} (l' : Array Bool) {a' : Act}
    (h : wpAnyLast P md ops Q S ds fuel l' a' w) (hi : ops[i]? = some oi := by exact rfl) (hN : oi.dst = N := by exact rfl) (hc : takeB md ops ds l l' i = true := by exact take_ofW HT_.out HW_.out (by kernel_rfl))
    (hQ : ∀ c a w, Q (.panic c) (a.put oi.dst v) w → Q (.panic c) a w := by exact fun _ _ _ h => h) (hy : YieldsIf P ops S oi v a := by refine Or.inl ⟨by rfl, ?_⟩; rintro w' ⟨s0, s1, s2, s3, s4, s5⟩; go_simp; with_reducible rfl) (hS : S w := by exact hHeld)
    (ha : a.put N v = a' := by simp only [Act.put, List.setIfInBounds_toArray, List.set_cons_zero, List.set_cons_succ, i64_w, i32_w]; rfl) : wpAnyLast P md ops Q S ds (fuel + 1) l a w := take_ l' hi hN hc hQ hy hS ha h
end
end Go.Proofs.YtajdfbgbkgabjaaW.PrintLast
namespace Go.Proofs.Ytajdfbgbkgabjaa.L
open Go.RowKit YtajdfbgbkgabjaaW.PrintWords YtajdfbgbkgabjaaW.PrintLast YtajdfbgbkgabjaaW.PrintMore
attribute [local go_sem] max2_int min2_int max_two min_two max_three min_three max_four min_four

/-! ### laws_big: function 14 -/
def laws_big.f (l0 : List Int) : Option (Bool) := some (decide ((l0.length : Int) > 1048576))
theorem laws_big.calls (A0 : Option Addr) (c0 : Nat) (l0 : List Int) (r : Bool) (w : World) (hr0 : Kd.C (Kd.int .u8) w A0 l0.length l0) (hc0 : l0.length ≤ c0) (h : laws_big.f l0 = some r) :
  Calls Try.prog 14 #[.slice A0 l0.length c0] w fun e w' => e = .returned (.bool r) ∧ Drawn0 w w' := by
 have HR0 := Zq.i hr0
 have HC0 := Zq.i hc0
 clear hr0 hc0
 have H : (some (decide ((l0.length : Int) > 1048576))) = some r := h
 clear h
 obtain rfl := oI H
 go_enter Try.func14, Try.ntmps14
 go_wp2
 go_ret
 exact ⟨dq14, dq13⟩

end Go.Proofs.Ytajdfbgbkgabjaa.L

namespace Go.Proofs.Ytajdfbgbkgabjaa.L
open Go.RowKit YtajdfbgbkgabjaaW.PrintWords YtajdfbgbkgabjaaW.PrintLast YtajdfbgbkgabjaaW.PrintMore
attribute [local go_sem] max2_int min2_int max_two min_two max_three min_three max_four min_four

def IsS101 (w0 W : World) (g : Nat) (f0 : List Int) (f1 : Int) : Prop := ∃ A0 c0, W.heap[g]? = some (.cells #[.slice A0 f0.length c0, .int .i64 f1] 101 (0, 0)) ∧ w0.heap.size ≤ g ∧ Kd.C (Kd.int .u8) w0 A0 f0.length f0
theorem IsS101.grown {w0 W : World} {g : Nat} {f0 : List Int} {f1 : Int} {W1 : World} {row : Option Nat} (h : IsS101 w0 W g f0 f1) (hw : W.grownBy W1 row) (hne : some g ≠ row) : IsS101 w0 W1 g f0 f1 := by
 obtain ⟨A0, c0, hb, hg, hr0⟩ := h
 exact ⟨A0, c0, blk_grown hb hw hne, hg, hr0⟩
theorem IsS101.fresh {w0 W : World} {g : Nat} {f0 : List Int} {f1 : Int} (h : IsS101 w0 W g f0 f1) : ∀ k, W.heap.size ≤ k → k ≠ g := by
 obtain ⟨A0, c0, hb, hg, hr0⟩ := h
 exact Kd.freshB hb
theorem IsS101.below {w0 W : World} {g : Nat} {f0 : List Int} {f1 : Int} {W1 : World} (h : IsS101 w0 W g f0 f1) (hw : Below W.heap.size W W1) : IsS101 w0 W1 g f0 f1 := h.grown (grown_of_below hw none) dq15
theorem IsS101.alloc {w0 W : World} {g : Nat} {f0 : List Int} {f1 : Int} (h : IsS101 w0 W g f0 f1) (o : Obj) : IsS101 w0 (W.alloc o) g f0 f1 := h.below (below_alloc (Below.refl _ _) o)
theorem IsS101.drewN {w0 W : World} {g : Nat} {f0 : List Int} {f1 : Int} (h : IsS101 w0 W g f0 f1) (m : Nat) : IsS101 w0 (W.drewN m) g f0 f1 := h
theorem IsS101.drew {w0 W : World} {g : Nat} {f0 : List Int} {f1 : Int} (h : IsS101 w0 W g f0 f1) : IsS101 w0 W.drew g f0 f1 := h
theorem IsS101.at_ {w0 W : World} {g : Nat} {f0 : List Int} {f1 : Int} {w' : World} {m : Nat} (hq : W.drewN m = w') (h : IsS101 w0 W g f0 f1) : IsS101 w0 w' g f0 f1 := by subst hq; exact IsS101.drewN h m
theorem IsS101.apart {w0 W : World} {g : Nat} {f0 : List Int} {f1 : Int} {α : Type} {d : Kd α} {e : Nat} {base : Nat} {ok : Nat → Prop} {v : Value} {xs : List α} (h : IsS101 w0 W g f0 f1) (ho : d.R e W base ok v xs) (ht : ∀ q, q ∈ e :: d.E → q ≠ 101) : d.R e W base (fun k => ok k ∧ k ≠ g) v xs := by
 obtain ⟨A0, c0, hb, hg, hr0⟩ := h
 exact Kd.R_types ho hb ht
theorem IsS101.own_ne {w0 W : World} {g : Nat} {f0 : List Int} {f1 : Int} {α : Type} {d : Kd α} {e : Nat} {base : Nat} {ok : Nat → Prop} {v : Value} {xs : List α} (h : IsS101 w0 W g f0 f1) (ho : d.R e W base ok v xs) (ht : e ≠ 101) : some g ≠ v.ownBlock := by
 obtain ⟨A0, c0, hb, hg, hr0⟩ := h
 exact Kd.R_ne ho hb ht
theorem IsS101.apartS {w0 W : World} {g : Nat} {f0 : List Int} {f1 : Int} {α : Type} {d : Kd α} {e : Nat} {base : Nat} {ok : Nat → Prop} {v : Value} {xs : List α} (h : IsS101 w0 W g f0 f1) (ho : d.S e W base ok v xs) (ht : ∀ q, q ∈ e :: d.E → q ≠ 101) : d.S e W base (fun k => ok k ∧ k ≠ g) v xs := by
 obtain ⟨A0, c0, hb, hg, hr0⟩ := h
 exact Kd.S_types ho hb ht
theorem IsS101.own_neS {w0 W : World} {g : Nat} {f0 : List Int} {f1 : Int} {α : Type} {d : Kd α} {e : Nat} {base : Nat} {ok : Nat → Prop} {v : Value} {xs : List α} (h : IsS101 w0 W g f0 f1) (ho : d.S e W base ok v xs) (ht : e ≠ 101) : some g ≠ v.ownBlock := by
 obtain ⟨A0, c0, hb, hg, hr0⟩ := h
 exact Kd.S_ne ho hb ht
theorem IsS101.lt {w0 W : World} {g : Nat} {f0 : List Int} {f1 : Int} (h : IsS101 w0 W g f0 f1) : g < W.heap.size := by
 obtain ⟨A0, c0, hb, hg, hr0⟩ := h
 exact blk_lt hb
theorem IsS101.ge {w0 W : World} {g : Nat} {f0 : List Int} {f1 : Int} (h : IsS101 w0 W g f0 f1) : w0.heap.size ≤ g := by
 obtain ⟨A0, c0, hb, hg, hr0⟩ := h
 exact hg
theorem IsS101.far {w0 W : World} {g : Nat} {f0 : List Int} {f1 : Int} {p : Addr} (h : IsS101 w0 W g f0 f1) (hne : g ≠ p.block) (u : Value) : IsS101 w0 (W.setCell p u) g f0 f1 := by
 obtain ⟨A0, c0, hb, hg, hr0⟩ := h
 exact ⟨A0, c0, blk_far hb hne u, hg, hr0⟩
theorem cellS101_0 {W : World} {g : Nat} {A0 : Option Addr} {c0 : Nat} {f0 : List Int} {f1 : Int} (h : W.heap[g]? = some (.cells #[.slice A0 f0.length c0, .int .i64 f1] 101 (0, 0))) : W.cell? ⟨g, 0, none⟩ = some (.slice A0 f0.length c0) := (blk_cell h 0).trans rfl
theorem cellS101_1 {W : World} {g : Nat} {A0 : Option Addr} {c0 : Nat} {f0 : List Int} {f1 : Int} (h : W.heap[g]? = some (.cells #[.slice A0 f0.length c0, .int .i64 f1] 101 (0, 0))) : W.cell? ⟨g, 1, none⟩ = some (.int .i64 f1) := (blk_cell h 1).trans rfl
theorem IsS101.set_1 {w0 W : World} {g : Nat} {f0 : List Int} {f1 : Int} (h : IsS101 w0 W g f0 f1) (x : Int) : IsS101 w0 (W.setCell ⟨g, 1, none⟩ (.int .i64 x)) g f0 x := by
 obtain ⟨A0, c0, hb, hg, hr0⟩ := h
 exact ⟨A0, c0, by simpa using blk_set hb 1 (.int .i64 x), hg, hr0⟩
theorem IsS101.new (w0 W : World) (A0 : Option Addr) (c0 : Nat) (f0 : List Int) (f1 : Int) (hB : Below w0.heap.size w0 W) (hr0 : Kd.C (Kd.int .u8) w0 A0 f0.length f0) : IsS101 w0 (W.alloc (.cells #[.slice A0 f0.length c0, .int .i64 f1] 101)) W.heap.size f0 f1 := ⟨A0, c0, by simpa using heap_alloc_new W _, hB.size, hr0⟩

/-! ### spec_l1Open: function 64 -/
def spec_l1Open.f (l0 : List Int) : Option (List Int × Int) := some (l0, 0)
theorem spec_l1Open.calls (A0 : Option Addr) (c0 : Nat) (l0 : List Int) (r1 : List Int) (r2 : Int) (w0 w : World) (hB : Below w0.heap.size w0 w) (hr0 : Kd.C (Kd.int .u8) w0 A0 l0.length l0) (hc0 : l0.length ≤ c0) (h : spec_l1Open.f l0 = some (r1, r2)) :
  Calls Try.prog 64 #[.slice A0 l0.length c0] w fun e w' => ∃ g_ : Nat, e = .returned (.pointer (some ⟨g_, 0, none⟩)) ∧ IsS101 w0 w' g_ r1 r2 ∧ Below w0.heap.size w0 w' ∧ Below w.heap.size w w' := by
 have hu101 := Try.underlying101
 have HR0 := Zq.i hr0
 have HC0 := Zq.i hc0
 clear hr0 hc0
 have HBW := Zq.i (Below.refl w.heap.size w)
 have HW0 := Zq.i hB.size
 have HB := Zq.i hB
 clear hB
 have H : (some (l0, 0)) = some (r1, r2) := h
 clear h
 obtain ⟨rfl, rfl⟩ := oP H
 go_enter Try.func64, Try.ntmps64
 go_wp2_with (first | ((with_reducible refine gate_dst (N := 5) rfl ?_); refine box_event ?hg (N := 5) ?hd (cs := #[.slice A0 l0.length c0, .int .i64 0]) (t := 101) ?hr ?_; (case hd => rfl); (case hg => rfl); (case hr => exact dq0); intro gb101 hg w2 hbox hb; replace HB := Zq.i (below_step dq17 hb); have BK101 := Zq.i (hbox); have GW101 := Zq.i ((dq16 : w.heap.size ≤ gb101)); have GE101 := Zq.i ((Nat.le_trans HW0.out (dq16 : w.heap.size ≤ gb101) : w0.heap.size ≤ gb101)); replace HBW := Zq.i (below_step HBW.out hb); clear hb hbox hg))
 go_ret
 exact ⟨_, rfl, (show IsS101 w0 _ gb101 l0 0 from ⟨_, _, by refine blk_up ?_; exact BK101.out, GE101.out, HR0.out⟩), by repeat (first | (with_reducible first | exact HB.out | apply below_alloc | apply pw_below_drewN | apply below_drew1 | refine below_set ?_ GE101.out) | exact HB.out), by repeat (first | (with_reducible first | exact HBW.out | apply below_alloc | apply pw_below_drewN | apply below_drew1 | refine below_set ?_ GW101.out) | exact HBW.out)⟩

/-! ### spec_l1Rd_next: function 105 -/
def spec_l1Rd_next.f (s0_0 : List Int) (s0_1 : Int) : Option (Int × Int) := if s0_1 ≥ (s0_0.length : Int) then (some (0, s0_1)) else (if 0 ≤ (wrap64 ((wrap64 (s0_1 + 1)) - 1)) then (if (wrap64 ((wrap64 (s0_1 + 1)) - 1)) < (s0_0.length : Int) then (some (wrap64 (rd s0_0 (wrap64 ((wrap64 (s0_1 + 1)) - 1))), wrap64 (s0_1 + 1))) else (none)) else (none))
theorem spec_l1Rd_next.calls (g : Nat) (s0_0 : List Int) (s0_1 : Int) (r1 : Int) (r2 : Int) (w0 w : World) (hI : IsS101 w0 w g s0_0 s0_1) (hB : Below w0.heap.size w0 w) (h : spec_l1Rd_next.f s0_0 s0_1 = some (r1, r2)) :
  Calls Try.prog 105 #[.pointer (some ⟨g, 0, none⟩)] w fun e w' => e = .returned (.int .i64 r1) ∧ IsS101 w0 w' g s0_0 r2 ∧ Below w0.heap.size w0 w' ∧ KeepBut w w' g none := by
 have HI0 := Zq.i hI
 have HK := Zq.i (KeepBut.refl w g none)
 have HL := Zq.i hB.size
 clear hI
 have HW0 := Zq.i hB.size
 have HB := Zq.i hB
 clear hB
 have H : (if s0_1 ≥ (s0_0.length : Int) then (some (0, s0_1)) else (if 0 ≤ (wrap64 ((wrap64 (s0_1 + 1)) - 1)) then (if (wrap64 ((wrap64 (s0_1 + 1)) - 1)) < (s0_0.length : Int) then (some (wrap64 (rd s0_0 (wrap64 ((wrap64 (s0_1 + 1)) - 1))), wrap64 (s0_1 + 1))) else (none)) else (none))) = some (r1, r2) := h
 clear h
 by_cases c2 : s0_1 ≥ (s0_0.length : Int)
 ·rw [if_pos c2] at H
  have c2b0 : decide ((s0_0.length : Int) ≤ s0_1) = true := dT c2
  clear c2
  obtain ⟨rfl, rfl⟩ := oP H
  obtain ⟨ASz3_0, cSz3_0, HGz3, hgz3, HSz3_0⟩ := HI0.out
  have hcz3_0 := cellS101_0 HGz3
  have hcz3_1 := cellS101_1 HGz3
  have hfz3_1 := blk_frozen HGz3 1
  clear HGz3 hgz3
  go_enter Try.func105, Try.ntmps105
  go_wp2
  repeat (go_quiet (fail); try go_wp2)
  go_ret
  exact ⟨dq21, dq20, dq19, dq18⟩
 rw [if_neg c2] at H
 have c2b0 : decide ((s0_0.length : Int) ≤ s0_1) = false := dF c2
 clear c2
 obtain ⟨ji4, hji4⟩ : ∃ j_ : Int, (wrap64 ((wrap64 (s0_1 + 1)) - 1)) = j_ := ⟨_, rfl⟩
 replace H : (if 0 ≤ (ji4) then (if (ji4) < (s0_0.length : Int) then (some (wrap64 (rd s0_0 (ji4)), wrap64 (s0_1 + 1))) else (none)) else (none)) = some (r1, r2) := by first | (rw [hji4] at H; exact H) | (simp only [hji4] at H ⊢; exact H)
 have hji4w : (IntKind.i64.wrap ((wrap64 (s0_1 + 1)) - 1)) = ji4 := (i64_w _).trans hji4
 by_cases c5 : 0 ≤ (ji4)
 rotate_left
 ·rw [if_neg c5] at H
  exact absurd H dq15
 rw [if_pos c5] at H
 have c5b0 := dT c5
 clear c5
 by_cases c6 : (ji4) < (s0_0.length : Int)
 rotate_left
 ·rw [if_neg c6] at H
  exact absurd H dq15
 rw [if_pos c6] at H
 have c6b0 := dT c6
 clear c6
 obtain ⟨rfl, rfl⟩ := oP H
 obtain ⟨ASz7_0, cSz7_0, HGz7, hgz7, HSz7_0⟩ := HI0.out
 have hcz7_0 := cellS101_0 HGz7
 have hcz7_1 := cellS101_1 HGz7
 have hfz7_1 := blk_frozen HGz7 1
 clear HGz7 hgz7
 have p136 : 0 ≤ ((ji4) : Int) := oT dq22
 have q136 : (ji4) < (s0_0.length : Int) := oT dq22
 obtain ⟨ad136, e136, hx136_0⟩ := Kd.at_int HSz7_0 (ji4) p136 q136
 cases e136
 have hn136_0 : ad136.block ≠ g := Nat.ne_of_lt (Nat.lt_of_lt_of_le (by have := bC _ _ hx136_0; first | rwa [add_block] at this | exact this) (IsS101.ge HI0.out))
 replace hx136_0 := pw_cell_below HB.out hx136_0
 replace hx136_0 := (cell_far (p := ⟨g, 1, none⟩) (by first | (rw [add_block]; exact hn136_0) | (show (Addr.add _ _).block ≠ _; rw [add_block]; exact hn136_0) | exact hn136_0) (.int .i64 (wrap64 (s0_1 + 1)))).trans hx136_0
 (try have hy136_0 := fun (n_ : Nat) => (show (((w.drewN n_).setCell ⟨g, 1, none⟩ (.int .i64 (wrap64 (s0_1 + 1))))).cell? _ = some _ from hx136_0))
 clear hn136_0
 replace p136 := eq_true p136
 replace q136 := eq_true q136
 go_enter Try.func105, Try.ntmps105
 go_wp2
 repeat (go_quiet (fail); try go_wp2)
 go_ret
 exact ⟨by first | rfl | (simp [errW_none, errW_some] <;> rfl) | (simp only [← hji4]; first | rfl | (simp [errW_none, errW_some] <;> rfl)) | (simp [*, errW_none, errW_some] <;> rfl), dq20, dq19, dq18⟩

/-! ### spec_l1Rd_below: function 69 -/
def spec_l1Rd_below.f (s0_0 : List Int) (s0_1 : Int) (a1 : Int) : Option (Int × Int) := if a1 ≤ 1 then (some (0, s0_1)) else (if a1 ≤ 256 then ((spec_l1Rd_next.f s0_0 s0_1).bind fun bt137 => (if a1 = 0 then (none) else (some (Int.tmod bt137.1 a1, bt137.2)))) else ((spec_l1Rd_next.f s0_0 s0_1).bind fun bt139 => ((spec_l1Rd_next.f s0_0 bt139.2).bind fun bt141 => (if a1 = 0 then (none) else (some (Int.tmod (wrap64 ((wrap64 (bt139.1 * 256)) + bt141.1)) a1, bt141.2))))))
theorem spec_l1Rd_below.calls (g : Nat) (s0_0 : List Int) (s0_1 : Int) (a1 : Int) (r1 : Int) (r2 : Int) (w0 w : World) (hI : IsS101 w0 w g s0_0 s0_1) (hB : Below w0.heap.size w0 w) (h : spec_l1Rd_below.f s0_0 s0_1 a1 = some (r1, r2)) :
  Calls Try.prog 69 #[.pointer (some ⟨g, 0, none⟩), .int .i64 a1] w fun e w' => e = .returned (.int .i64 r1) ∧ IsS101 w0 w' g s0_0 r2 ∧ Below w0.heap.size w0 w' ∧ KeepBut w w' g none := by
 have HI0 := Zq.i hI
 have HK := Zq.i (KeepBut.refl w g none)
 have HL := Zq.i hB.size
 clear hI
 have HW0 := Zq.i hB.size
 have HB := Zq.i hB
 clear hB
 have H : (if a1 ≤ 1 then (some (0, s0_1)) else (if a1 ≤ 256 then ((spec_l1Rd_next.f s0_0 s0_1).bind fun bt137 => (if a1 = 0 then (none) else (some (Int.tmod bt137.1 a1, bt137.2)))) else ((spec_l1Rd_next.f s0_0 s0_1).bind fun bt139 => ((spec_l1Rd_next.f s0_0 bt139.2).bind fun bt141 => (if a1 = 0 then (none) else (some (Int.tmod (wrap64 ((wrap64 (bt139.1 * 256)) + bt141.1)) a1, bt141.2))))))) = some (r1, r2) := h
 clear h
 by_cases c3 : a1 ≤ 1
 ·rw [if_pos c3] at H
  have c3b0 := dT c3
  clear c3
  obtain ⟨rfl, rfl⟩ := oP H
  go_enter Try.func69, Try.ntmps69
  go_wp2
  go_ret
  exact ⟨dq21, dq20, dq19, dq18⟩
 rw [if_neg c3] at H
 have c3b0 := dF c3
 clear c3
 by_cases c4 : a1 ≤ 256
 ·rw [if_pos c4] at H
  have c4b0 := dT c4
  clear c4
  replace H := bM H
  obtain ⟨⟨t137, t138⟩, A50, H⟩ := H
  try dsimp only at H
  have A5 := Zq.i A50
  clear A50
  by_cases c6 : a1 = 0
  ·rw [if_pos c6] at H
   exact absurd H dq15
  rw [if_neg c6] at H
  have c6b0 := bN c6
  have c6b1 := bO c6
  obtain ⟨rfl, rfl⟩ := oP H
  go_enter Try.func69, Try.ntmps69
  go_wp2_with (first | ((with_reducible refine gate_callee (f := 105) rfl ?_); refine goesL_ (some 11) rfl rfl Try.func105 dq24 rfl #[.pointer (some ⟨g, 0, none⟩)] rfl dq23 ?_; (with_reducible refine (spec_l1Rd_next.calls g s0_0 s0_1 t137 t138 w0 _ ?side1 ?side2 A5.out).mono ?_); (case side1 => exact dq1); (case side2 => exact dq2); rintro e w7 ⟨rfl, hi, hb, hk⟩; refine ⟨_, rfl, ?_⟩; replace HK := Zq.i (KeepBut.trans dq18 hk (.inl rfl)); replace HB := Zq.i (hb); replace HI0 := Zq.i (hi); (try clear hb hk hi)))
  go_ret
  exact ⟨dq21, dq20, dq19, dq18⟩
 rw [if_neg c4] at H
 have c4b0 := dF c4
 clear c4
 replace H := bM H
 obtain ⟨⟨t139, t140⟩, A80, H⟩ := H
 try dsimp only at H
 have A8 := Zq.i A80
 clear A80
 replace H := bM H
 obtain ⟨⟨t141, t142⟩, A90, H⟩ := H
 try dsimp only at H
 have A9 := Zq.i A90
 clear A90
 by_cases c10 : a1 = 0
 ·rw [if_pos c10] at H
  exact absurd H dq15
 rw [if_neg c10] at H
 have c10b0 := bN c10
 have c10b1 := bO c10
 obtain ⟨rfl, rfl⟩ := oP H
 go_enter Try.func69, Try.ntmps69
 go_wp2_with (first | ((with_reducible refine gate_callee (f := 105) rfl ?_); refine goesL_ (some 15) rfl rfl Try.func105 dq24 rfl #[.pointer (some ⟨g, 0, none⟩)] rfl dq23 ?_; (with_reducible refine (spec_l1Rd_next.calls g s0_0 s0_1 t139 t140 w0 _ ?side1 ?side2 A8.out).mono ?_); (case side1 => exact dq1); (case side2 => exact dq2); rintro e w11 ⟨rfl, hi, hb, hk⟩; refine ⟨_, rfl, ?_⟩; replace HK := Zq.i (KeepBut.trans dq18 hk (.inl rfl)); replace HB := Zq.i (hb); replace HI0 := Zq.i (hi); (try clear hb hk hi)) | ((with_reducible refine gate_callee (f := 105) rfl ?_); refine goesL_ (some 19) rfl rfl Try.func105 dq24 rfl #[.pointer (some ⟨g, 0, none⟩)] rfl dq23 ?_; (with_reducible refine (spec_l1Rd_next.calls g s0_0 t140 t141 t142 w0 _ ?side1 ?side2 A9.out).mono ?_); (case side1 => exact dq1); (case side2 => exact dq2); rintro e w12 ⟨rfl, hi, hb, hk⟩; refine ⟨_, rfl, ?_⟩; replace HK := Zq.i (KeepBut.trans dq18 hk (.inl rfl)); replace HB := Zq.i (hb); replace HI0 := Zq.i (hi); (try clear hb hk hi)))
 go_ret
 exact ⟨dq21, dq20, dq19, dq18⟩

/-! ### spec_l1Rd_once: function 100 -/
def spec_l1Rd_once.f (s0_0 : List Int) (s0_1 : Int) (a1 : Int) : Option (Bool × Int) := (spec_l1Rd_below.f s0_0 s0_1 a1).bind fun bt143 => (some ((bt143.1 == (wrap64 (a1 - 1))), bt143.2))
theorem spec_l1Rd_once.calls (g : Nat) (s0_0 : List Int) (s0_1 : Int) (a1 : Int) (r1 : Bool) (r2 : Int) (w0 w : World) (hI : IsS101 w0 w g s0_0 s0_1) (hB : Below w0.heap.size w0 w) (h : spec_l1Rd_once.f s0_0 s0_1 a1 = some (r1, r2)) :
  Calls Try.prog 100 #[.pointer (some ⟨g, 0, none⟩), .int .i64 a1] w fun e w' => e = .returned (.bool r1) ∧ IsS101 w0 w' g s0_0 r2 ∧ Below w0.heap.size w0 w' ∧ KeepBut w w' g none := by
 have HI0 := Zq.i hI
 have HK := Zq.i (KeepBut.refl w g none)
 have HL := Zq.i hB.size
 clear hI
 have HW0 := Zq.i hB.size
 have HB := Zq.i hB
 clear hB
 have H : ((spec_l1Rd_below.f s0_0 s0_1 a1).bind fun bt143 => (some ((bt143.1 == (wrap64 (a1 - 1))), bt143.2))) = some (r1, r2) := h
 clear h
 replace H := bM H
 obtain ⟨⟨t143, t144⟩, A30, H⟩ := H
 try dsimp only at H
 have A3 := Zq.i A30
 clear A30
 obtain ⟨rfl, rfl⟩ := oP H
 go_enter Try.func100, Try.ntmps100
 go_wp2_with (first | ((with_reducible refine gate_callee (f := 69) rfl ?_); refine goesL_ (some 7) rfl rfl Try.func69 dq24 rfl #[.pointer (some ⟨g, 0, none⟩), .int .i64 a1] rfl dq23 ?_; (with_reducible refine (spec_l1Rd_below.calls g s0_0 s0_1 a1 t143 t144 w0 _ ?side1 ?side2 A3.out).mono ?_); (case side1 => exact dq1); (case side2 => exact dq2); rintro e w4 ⟨rfl, hi, hb, hk⟩; refine ⟨_, rfl, ?_⟩; replace HK := Zq.i (KeepBut.trans dq18 hk (.inl rfl)); replace HB := Zq.i (hb); replace HI0 := Zq.i (hi); (try clear hb hk hi)))
 go_ret
 exact ⟨dq21, dq20, dq19, dq18⟩

/-! ### spec_l1Rd_mtext: function 99 -/
mutual
def spec_l1Rd_mtext.j0 : Nat → Int → ByteArray → Bool → List Int → Int → Option (ByteArray × Int)
 | 0, _, _, _, _, _ => none
 | k + 1, x1, x5, x19, x1000, x1001 => if x19 = true then ((some (([(⟨#[97]⟩ : ByteArray), (⟨#[98]⟩ : ByteArray), (⟨#[99]⟩ : ByteArray), (⟨#[100]⟩ : ByteArray), (⟨#[97]⟩ : ByteArray), (⟨#[98]⟩ : ByteArray), (⟨#[35]⟩ : ByteArray)] : List ByteArray) : List ByteArray)).bind fun y153 => ((spec_l1Rd_below.f x1000 x1001 7).bind fun bt156 => (if 0 ≤ bt156.1 then (if bt156.1 < (y153.length : Int) then (if (rdOf ByteArray.empty y153 bt156.1).size + x5.size ≤ 9223372036854775807 then (some ((rdOf ByteArray.empty y153 bt156.1) ++ x5, bt156.2)) else (none)) else (none)) else (none)))) else ((spec_l1Rd_mtext.f k x1000 x1001 (wrap64 (x1 - 1))).bind fun bt159 => ((some (([(⟨#[44]⟩ : ByteArray), (⟨#[124]⟩ : ByteArray)] : List ByteArray) : List ByteArray)).bind fun y161 => ((spec_l1Rd_below.f x1000 bt159.2 2).bind fun bt164 => (if 0 ≤ bt164.1 then (if bt164.1 < (y161.length : Int) then ((spec_l1Rd_below.f x1000 bt164.2 3).bind fun bt167 => (spec_l1Rd_mtext.l0 k x1 x5 bt159.1 (rdOf ByteArray.empty y161 bt164.1) bt167.1 x1000 bt167.2)) else (none)) else (none)))))
def spec_l1Rd_mtext.l0 : Nat → Int → ByteArray → ByteArray → ByteArray → Int → List Int → Int → Option (ByteArray × Int)
 | 0, _, _, _, _, _, _, _ => none
 | k + 1, x1, x5, x6, x7, x8, x1000, x1001 => if x8 > 0 then (if x6.size + x7.size ≤ 9223372036854775807 then ((spec_l1Rd_mtext.f k x1000 x1001 (wrap64 (x1 - 1))).bind fun bt169 => (if (x6 ++ x7).size + bt169.1.size ≤ 9223372036854775807 then (spec_l1Rd_mtext.l0 k x1 x5 ((x6 ++ x7) ++ bt169.1) x7 (wrap64 (x8 - 1)) x1000 bt169.2) else (none))) else (none)) else (if 1 + x6.size ≤ 9223372036854775807 then (if ((⟨#[40]⟩ : ByteArray) ++ x6).size + 1 ≤ 9223372036854775807 then (if (((⟨#[40]⟩ : ByteArray) ++ x6) ++ (⟨#[41]⟩ : ByteArray)).size + x5.size ≤ 9223372036854775807 then (some ((((⟨#[40]⟩ : ByteArray) ++ x6) ++ (⟨#[41]⟩ : ByteArray)) ++ x5, x1001)) else (none)) else (none)) else (none))
def spec_l1Rd_mtext.f : Nat → List Int → Int → Int → Option (ByteArray × Int)
 | 0, _, _, _ => none
 | k + 1, s0_0, s0_1, a1 => (some (([(⟨#[]⟩ : ByteArray), (⟨#[]⟩ : ByteArray), (⟨#[63]⟩ : ByteArray), (⟨#[42]⟩ : ByteArray), (⟨#[43]⟩ : ByteArray)] : List ByteArray) : List ByteArray)).bind fun y145 => ((spec_l1Rd_below.f s0_0 s0_1 5).bind fun bt148 => (if 0 ≤ bt148.1 then (if bt148.1 < (y145.length : Int) then (if a1 = 0 then (spec_l1Rd_mtext.j0 k a1 (rdOf ByteArray.empty y145 bt148.1) true s0_0 bt148.2) else ((spec_l1Rd_once.f s0_0 bt148.2 2).bind fun bt151 => (spec_l1Rd_mtext.j0 k a1 (rdOf ByteArray.empty y145 bt148.1) bt151.1 s0_0 bt151.2))) else (none)) else (none)))
end
theorem spec_l1Rd_mtext.calls (k : Nat) : ∀ (g : Nat) (s0_0 : List Int) (s0_1 : Int) (a1 : Int) (r1 : ByteArray) (r2 : Int) (w0 w : World) (hI : IsS101 w0 w g s0_0 s0_1) (hB : Below w0.heap.size w0 w) (h : spec_l1Rd_mtext.f k s0_0 s0_1 a1 = some (r1, r2)),
  Calls Try.prog 99 #[.pointer (some ⟨g, 0, none⟩), .int .i64 a1] w fun e w' => e = .returned (.string r1) ∧ IsS101 w0 w' g s0_0 r2 ∧ Below w0.heap.size w0 w' ∧ KeepBut w w' g none := by
 induction k using Nat.strongRecOn with
 | _ k ih =>
 intro g s0_0 s0_1 a1 r1 r2 w0 w hI hB h
 cases k with
 | zero => exact absurd h (by simp [spec_l1Rd_mtext.f])
 | succ k =>
 simp only [spec_l1Rd_mtext.f] at h
 have HI0 := Zq.i hI
 have HK := Zq.i (KeepBut.refl w g none)
 have HL := Zq.i hB.size
 clear hI
 have HW0 := Zq.i hB.size
 have HB := Zq.i hB
 clear hB
 have H : ((some (([(⟨#[]⟩ : ByteArray), (⟨#[]⟩ : ByteArray), (⟨#[63]⟩ : ByteArray), (⟨#[42]⟩ : ByteArray), (⟨#[43]⟩ : ByteArray)] : List ByteArray) : List ByteArray)).bind fun y145 => ((spec_l1Rd_below.f s0_0 s0_1 5).bind fun bt148 => (if 0 ≤ bt148.1 then (if bt148.1 < (y145.length : Int) then (if a1 = 0 then (spec_l1Rd_mtext.j0 k a1 (rdOf ByteArray.empty y145 bt148.1) true s0_0 bt148.2) else ((spec_l1Rd_once.f s0_0 bt148.2 2).bind fun bt151 => (spec_l1Rd_mtext.j0 k a1 (rdOf ByteArray.empty y145 bt148.1) bt151.1 s0_0 bt151.2))) else (none)) else (none)))) = some (r1, r2) := h
 clear h
 obtain ⟨y145, hy145⟩ : ∃ y_ : List ByteArray, y_ = (([(⟨#[]⟩ : ByteArray), (⟨#[]⟩ : ByteArray), (⟨#[63]⟩ : ByteArray), (⟨#[42]⟩ : ByteArray), (⟨#[43]⟩ : ByteArray)] : List ByteArray)) := ⟨_, rfl⟩
 replace H : ((spec_l1Rd_below.f s0_0 s0_1 5).bind fun bt148 => (if 0 ≤ bt148.1 then (if bt148.1 < (y145.length : Int) then (if a1 = 0 then (spec_l1Rd_mtext.j0 k a1 (rdOf ByteArray.empty y145 bt148.1) true s0_0 bt148.2) else ((spec_l1Rd_once.f s0_0 bt148.2 2).bind fun bt151 => (spec_l1Rd_mtext.j0 k a1 (rdOf ByteArray.empty y145 bt148.1) bt151.1 s0_0 bt151.2))) else (none)) else (none))) = some (r1, r2) := by first | (rw [hy145]; with_reducible exact H) | (have H2_ := oS H; rw [hy145]; with_reducible exact H2_) | (have H2_ := oS H; with_reducible exact H2_) | with_reducible exact H | (rw [hy145]; exact H) | exact H
 have Ny145 := Zq.i hy145
 clear hy145
 replace H := bM H
 obtain ⟨⟨t148, t149⟩, A30, H⟩ := H
 try dsimp only at H
 have A3 := Zq.i A30
 clear A30
 by_cases c4 : 0 ≤ t148
 rotate_left
 ·rw [if_neg c4] at H
  exact absurd H dq15
 rw [if_pos c4] at H
 have c4b0 := dT c4
 clear c4
 by_cases c5 : t148 < (y145.length : Int)
 rotate_left
 ·rw [if_neg c5] at H
  exact absurd H dq15
 rw [if_pos c5] at H
 have c5b0 := dT c5
 clear c5
 have HC6 := Zq.i H
 clear H
 go_enter Try.func99, Try.ntmps99
 go_upto_region 2 with (first | ((with_reducible refine gate_dst (N := 9) rfl ?_); refine Kd.R_lit Kd.string _ 9 ?hg (N := 9) ?hd (xs := ([(⟨#[]⟩ : ByteArray), (⟨#[]⟩ : ByteArray), (⟨#[63]⟩ : ByteArray), (⟨#[42]⟩ : ByteArray), (⟨#[43]⟩ : ByteArray)] : List ByteArray)) (inner := [.string (⟨#[]⟩ : ByteArray), .string (⟨#[]⟩ : ByteArray), .string (⟨#[63]⟩ : ByteArray), .string (⟨#[42]⟩ : ByteArray), .string (⟨#[43]⟩ : ByteArray)]) (ok := fun _ => True) (okp := fun _ => True) ?hr ?hp (fun _ hk => hk) trivial (Below.refl _ _) (Nat.le_refl _) dq15 ?_; (case hd => rfl); (case hg => rfl); (case hr => exact dq0); (case hp => exact (Reps.one (show Kd.M Kd.string _ _ _ (⟨#[]⟩ : ByteArray) [.string (⟨#[]⟩ : ByteArray)] from rfl) (Reps.one (show Kd.M Kd.string _ _ _ (⟨#[]⟩ : ByteArray) [.string (⟨#[]⟩ : ByteArray)] from rfl) (Reps.one (show Kd.M Kd.string _ _ _ (⟨#[63]⟩ : ByteArray) [.string (⟨#[63]⟩ : ByteArray)] from rfl) (Reps.one (show Kd.M Kd.string _ _ _ (⟨#[42]⟩ : ByteArray) [.string (⟨#[42]⟩ : ByteArray)] from rfl) (Reps.one (show Kd.M Kd.string _ _ _ (⟨#[43]⟩ : ByteArray) [.string (⟨#[43]⟩ : ByteArray)] from rfl) (Reps.none _ _))))))); intro v146 w7 ho8 hb hg_ hnew_; clear hg_ hnew_; (first | rw [← Ny145.out] at ho8 | (simp only [Int.reduceToNat] at ho8; rw [← Ny145.out] at ho8)); have HO147 := Zq.i (Kd.R_lower ho8 (keep_size (w := w) (g := g) (row := none) dq18)); replace HK := Zq.i (KeepBut.trans dq18 (KeepBut.of_below hb g none) (.inl rfl)); replace HB := Zq.i (below_step dq19 hb); replace HI0 := Zq.i (IsS101.below dq20 hb); clear hb ho8) | ((with_reducible refine gate_callee (f := 69) rfl ?_); refine goesL_ (some 11) rfl rfl Try.func69 dq24 rfl #[.pointer (some ⟨g, 0, none⟩), .int .i64 5] rfl dq23 ?_; (with_reducible refine (spec_l1Rd_below.calls g s0_0 s0_1 5 t148 t149 w0 _ ?side1 ?side2 A3.out).mono ?_); (case side1 => exact dq1); (case side2 => exact dq2); rintro e w9 ⟨rfl, hi, hb, hk⟩; refine ⟨_, rfl, ?_⟩; replace HO147 := Zq.i (Kd.R_mono (Kd.R_keep (IsS101.apart (show IsS101 w0 _ g s0_0 s0_1 from by repeat (first | (with_reducible first | exact HI0.out | apply IsS101.alloc | apply IsS101.drewN | apply IsS101.drew | apply IsS101.set_1) | exact HI0.out)) (by (with_reducible repeat (first | apply Kd.R_alloc | apply Kd.R_drewN | apply Kd.R_drew)); exact HO147.out) dq25) hk (fun _ h => h.2)) (fun _ h => h.1)); replace HK := Zq.i (KeepBut.trans dq18 hk (.inl rfl)); replace HB := Zq.i (hb); replace HI0 := Zq.i (hi); (try clear hb hk hi); obtain ⟨Ao10, co10, eo10⟩ := Kd.R_slice HO147.out; subst eo10; have p150 : 0 ≤ (t148 : Int) := oT dq22; have q150 : t148 < (y145.length : Int) := oT dq22; obtain ⟨ad150, e150, hx150_0⟩ := Kd.at_string (Kd.R_reads' HO147.out).2.2 t148 p150 q150; cases e150; replace p150 := eq_true p150; replace q150 := eq_true q150))
 (try simp only [Act.put, List.setIfInBounds_toArray, List.set_cons_zero, List.set_cons_succ])
 go_cut [19] (fun v19 wc => ∃ (kq : Nat) (x19_5 : Bool) (x1001_5 : Int), v19 = .bool x19_5 ∧ Zq (spec_l1Rd_mtext.j0 kq a1 (rdOf ByteArray.empty y145 t148) x19_5 s0_0 x1001_5 = some (r1, r2)) ∧ Zq (kq ≤ k) ∧ Zq (IsS101 w0 wc g s0_0 x1001_5) ∧ Zq (KeepBut w wc g none) ∧ Zq (Below w0.heap.size w0 wc))
 case first =>
  have H := HC6.out
  clear HC6
  by_cases c11 : a1 = 0
  ·rw [if_pos c11] at H
   have c11b0 := bE c11
   have c11b1 := bQ c11
   clear c11
   (first | rw [c11b0] | (simp only [i64_w, i32_w]; rw [c11b0]) | skip)
   have H' := Zq.i H
   clear H
   go_wp2
   go_meet
   case rel => exact ⟨_, (true), (t149), dq14, H', ⟨dq26⟩, ⟨dq20⟩, ⟨dq18⟩, ⟨dq19⟩⟩
  rw [if_neg c11] at H
  have c11b0 := bN c11
  have c11b1 := bO c11
  (first | rw [c11b0] | (simp only [i64_w, i32_w]; rw [c11b0]) | skip)
  replace H := bM H
  obtain ⟨⟨t151, t152⟩, A120, H⟩ := H
  try dsimp only at H
  have A12 := Zq.i A120
  clear A120
  have H' := Zq.i H
  clear H
  go_wp2_with (first | (go_at_call 100; (with_reducible refine (spec_l1Rd_once.calls g s0_0 t149 2 t151 t152 w0 _ ?side1 ?side2 A12.out).mono ?_); (case side1 => exact dq1); (case side2 => exact dq2); rintro e w13 ⟨rfl, hi, hb, hk⟩; replace HO147 := Zq.i (Kd.R_mono (Kd.R_keep (IsS101.apart (show IsS101 w0 _ g s0_0 t149 from by repeat (first | (with_reducible first | exact HI0.out | apply IsS101.alloc | apply IsS101.drewN | apply IsS101.drew | apply IsS101.set_1) | exact HI0.out)) (by (with_reducible repeat (first | apply Kd.R_alloc | apply Kd.R_drewN | apply Kd.R_drew)); exact HO147.out) dq25) hk (fun _ h => h.2)) (fun _ h => h.1)); replace HK := Zq.i (KeepBut.trans dq18 hk (.inl rfl)); replace HB := Zq.i (hb); replace HI0 := Zq.i (hi); (try clear hb hk hi)))
  go_meet
  case rel => exact ⟨_, (t151), (t152), dq14, H', ⟨dq26⟩, ⟨dq20⟩, ⟨dq18⟩, ⟨dq19⟩⟩
 clear HC6
 try clear c4b0
 try clear c5b0
 try clear hx150_0
 try clear p150
 try clear q150
 obtain ⟨kq, x19_5, x1001_5, rfl, HA, HJ5, HI0, HK, HB⟩ := hcut
 cases kq with
 | zero => exact absurd HA.out (by simp [spec_l1Rd_mtext.j0])
 | succ kj5 =>
  have H := HA.out
  clear HA
  simp only [spec_l1Rd_mtext.j0] at H
  by_cases c14 : x19_5 = true
  ·subst c14
   rw [if_pos rfl] at H
   obtain ⟨y153, hy153⟩ : ∃ y_ : List ByteArray, y_ = (([(⟨#[97]⟩ : ByteArray), (⟨#[98]⟩ : ByteArray), (⟨#[99]⟩ : ByteArray), (⟨#[100]⟩ : ByteArray), (⟨#[97]⟩ : ByteArray), (⟨#[98]⟩ : ByteArray), (⟨#[35]⟩ : ByteArray)] : List ByteArray)) := ⟨_, rfl⟩
   replace H : ((spec_l1Rd_below.f s0_0 x1001_5 7).bind fun bt156 => (if 0 ≤ bt156.1 then (if bt156.1 < (y153.length : Int) then (if (rdOf ByteArray.empty y153 bt156.1).size + (rdOf ByteArray.empty y145 t148).size ≤ 9223372036854775807 then (some ((rdOf ByteArray.empty y153 bt156.1) ++ (rdOf ByteArray.empty y145 t148), bt156.2)) else (none)) else (none)) else (none))) = some (r1, r2) := by first | (rw [hy153]; with_reducible exact H) | (have H2_ := oS H; rw [hy153]; with_reducible exact H2_) | (have H2_ := oS H; with_reducible exact H2_) | with_reducible exact H | (rw [hy153]; exact H) | exact H
   have Ny153 := Zq.i hy153
   clear hy153
   replace H := bM H
   obtain ⟨⟨t156, t157⟩, A150, H⟩ := H
   try dsimp only at H
   have A15 := Zq.i A150
   clear A150
   by_cases c16 : 0 ≤ t156
   rotate_left
   ·rw [if_neg c16] at H
    exact absurd H dq15
   rw [if_pos c16] at H
   have c16b0 := dT c16
   clear c16
   by_cases c17 : t156 < (y153.length : Int)
   rotate_left
   ·rw [if_neg c17] at H
    exact absurd H dq15
   rw [if_pos c17] at H
   have c17b0 := dT c17
   clear c17
   by_cases c18 : (rdOf ByteArray.empty y153 t156).size + (rdOf ByteArray.empty y145 t148).size ≤ 9223372036854775807
   rotate_left
   ·rw [if_neg c18] at H
    exact absurd H dq15
   rw [if_pos c18] at H
   have c18b0 := eq_true c18
   have c18b1 := dT c18
   try have c18b2 : (9223372036854775807 < (rdOf ByteArray.empty y153 t156).size + (rdOf ByteArray.empty y145 t148).size) = False := eq_false (Nat.not_lt.2 c18)
   obtain ⟨rfl, rfl⟩ := oP H
   go_wp2_with (first | ((with_reducible refine gate_dst (N := 20) rfl ?_); refine Kd.R_lit Kd.string _ 9 ?hg (N := 20) ?hd (xs := ([(⟨#[97]⟩ : ByteArray), (⟨#[98]⟩ : ByteArray), (⟨#[99]⟩ : ByteArray), (⟨#[100]⟩ : ByteArray), (⟨#[97]⟩ : ByteArray), (⟨#[98]⟩ : ByteArray), (⟨#[35]⟩ : ByteArray)] : List ByteArray)) (inner := [.string (⟨#[97]⟩ : ByteArray), .string (⟨#[98]⟩ : ByteArray), .string (⟨#[99]⟩ : ByteArray), .string (⟨#[100]⟩ : ByteArray), .string (⟨#[97]⟩ : ByteArray), .string (⟨#[98]⟩ : ByteArray), .string (⟨#[35]⟩ : ByteArray)]) (ok := fun _ => True) (okp := fun _ => True) ?hr ?hp (fun _ hk => hk) trivial (Below.refl _ _) (Nat.le_refl _) dq15 ?_; (case hd => rfl); (case hg => rfl); (case hr => exact dq0); (case hp => exact (Reps.one (show Kd.M Kd.string _ _ _ (⟨#[97]⟩ : ByteArray) [.string (⟨#[97]⟩ : ByteArray)] from rfl) (Reps.one (show Kd.M Kd.string _ _ _ (⟨#[98]⟩ : ByteArray) [.string (⟨#[98]⟩ : ByteArray)] from rfl) (Reps.one (show Kd.M Kd.string _ _ _ (⟨#[99]⟩ : ByteArray) [.string (⟨#[99]⟩ : ByteArray)] from rfl) (Reps.one (show Kd.M Kd.string _ _ _ (⟨#[100]⟩ : ByteArray) [.string (⟨#[100]⟩ : ByteArray)] from rfl) (Reps.one (show Kd.M Kd.string _ _ _ (⟨#[97]⟩ : ByteArray) [.string (⟨#[97]⟩ : ByteArray)] from rfl) (Reps.one (show Kd.M Kd.string _ _ _ (⟨#[98]⟩ : ByteArray) [.string (⟨#[98]⟩ : ByteArray)] from rfl) (Reps.one (show Kd.M Kd.string _ _ _ (⟨#[35]⟩ : ByteArray) [.string (⟨#[35]⟩ : ByteArray)] from rfl) (Reps.none _ _))))))))); intro v154 w19 ho20 hb hg_ hnew_; clear hg_ hnew_; (first | rw [← Ny153.out] at ho20 | (simp only [Int.reduceToNat] at ho20; rw [← Ny153.out] at ho20)); have HO155 := Zq.i (Kd.R_lower ho20 (keep_size (w := w) (g := g) (row := none) dq18)); replace HK := Zq.i (KeepBut.trans dq18 (KeepBut.of_below hb g none) (.inl rfl)); replace HB := Zq.i (below_step dq19 hb); replace HI0 := Zq.i (IsS101.below dq20 hb); clear hb ho20) | ((with_reducible refine gate_callee (f := 69) rfl ?_); refine goesL_ (some 22) rfl rfl Try.func69 dq24 rfl #[.pointer (some ⟨g, 0, none⟩), .int .i64 7] rfl dq23 ?_; (with_reducible refine (spec_l1Rd_below.calls g s0_0 x1001_5 7 t156 t157 w0 _ ?side1 ?side2 A15.out).mono ?_); (case side1 => exact dq1); (case side2 => exact dq2); rintro e w21 ⟨rfl, hi, hb, hk⟩; refine ⟨_, rfl, ?_⟩; replace HO155 := Zq.i (Kd.R_mono (Kd.R_keep (IsS101.apart (show IsS101 w0 _ g s0_0 x1001_5 from by repeat (first | (with_reducible first | exact HI0.out | apply IsS101.alloc | apply IsS101.drewN | apply IsS101.drew | apply IsS101.set_1) | exact HI0.out)) (by (with_reducible repeat (first | apply Kd.R_alloc | apply Kd.R_drewN | apply Kd.R_drew)); exact HO155.out) dq25) hk (fun _ h => h.2)) (fun _ h => h.1)); replace HK := Zq.i (KeepBut.trans dq18 hk (.inl rfl)); replace HB := Zq.i (hb); replace HI0 := Zq.i (hi); (try clear hb hk hi); obtain ⟨Ao22, co22, eo22⟩ := Kd.R_slice HO155.out; subst eo22; have p158 : 0 ≤ (t156 : Int) := oT dq22; have q158 : t156 < (y153.length : Int) := oT dq22; obtain ⟨ad158, e158, hx158_0⟩ := Kd.at_string (Kd.R_reads' HO155.out).2.2 t156 p158 q158; cases e158; replace p158 := eq_true p158; replace q158 := eq_true q158))
   go_ret
   exact ⟨dq21, dq20, dq19, dq18⟩
  replace c14 := Bool.eq_false_iff.mpr c14
  subst c14
  rw [iN] at H
  replace H := bM H
  obtain ⟨⟨t159, t160⟩, A230, H⟩ := H
  try dsimp only at H
  have A23 := Zq.i A230
  clear A230
  obtain ⟨y161, hy161⟩ : ∃ y_ : List ByteArray, y_ = (([(⟨#[44]⟩ : ByteArray), (⟨#[124]⟩ : ByteArray)] : List ByteArray)) := ⟨_, rfl⟩
  replace H : ((spec_l1Rd_below.f s0_0 t160 2).bind fun bt164 => (if 0 ≤ bt164.1 then (if bt164.1 < (y161.length : Int) then ((spec_l1Rd_below.f s0_0 bt164.2 3).bind fun bt167 => (spec_l1Rd_mtext.l0 kj5 a1 (rdOf ByteArray.empty y145 t148) t159 (rdOf ByteArray.empty y161 bt164.1) bt167.1 s0_0 bt167.2)) else (none)) else (none))) = some (r1, r2) := by first | (rw [hy161]; with_reducible exact H) | (have H2_ := oS H; rw [hy161]; with_reducible exact H2_) | (have H2_ := oS H; with_reducible exact H2_) | with_reducible exact H | (rw [hy161]; exact H) | exact H
  have Ny161 := Zq.i hy161
  clear hy161
  replace H := bM H
  obtain ⟨⟨t164, t165⟩, A240, H⟩ := H
  try dsimp only at H
  have A24 := Zq.i A240
  clear A240
  by_cases c25 : 0 ≤ t164
  rotate_left
  ·rw [if_neg c25] at H
   exact absurd H dq15
  rw [if_pos c25] at H
  have c25b0 := dT c25
  clear c25
  by_cases c26 : t164 < (y161.length : Int)
  rotate_left
  ·rw [if_neg c26] at H
   exact absurd H dq15
  rw [if_pos c26] at H
  have c26b0 := dT c26
  clear c26
  replace H := bM H
  obtain ⟨⟨t167, t168⟩, A270, H⟩ := H
  try dsimp only at H
  have A27 := Zq.i A270
  clear A270
  have H' := Zq.i H
  clear H
  go_wp2_with (first | ((with_reducible refine gate_callee (f := 99) rfl ?_); refine goesL_ (some 30) rfl rfl Try.func99 dq24 rfl #[.pointer (some ⟨g, 0, none⟩), .int .i64 (wrap64 (a1 - 1))] rfl dq23 ?_; (with_reducible refine (ih kj5 (by have := HJ5.out; omega) g s0_0 x1001_5 (wrap64 (a1 - 1)) t159 t160 w0 _ ?side1 ?side2 A23.out).mono ?_); (case side1 => exact dq1); (case side2 => exact dq2); rintro e w28 ⟨rfl, hi, hb, hk⟩; refine ⟨_, rfl, ?_⟩; replace HK := Zq.i (KeepBut.trans dq18 hk (.inl rfl)); replace HB := Zq.i (hb); replace HI0 := Zq.i (hi); (try clear hb hk hi)) | ((with_reducible refine gate_dst (N := 31) rfl ?_); refine Kd.R_lit Kd.string _ 9 ?hg (N := 31) ?hd (xs := ([(⟨#[44]⟩ : ByteArray), (⟨#[124]⟩ : ByteArray)] : List ByteArray)) (inner := [.string (⟨#[44]⟩ : ByteArray), .string (⟨#[124]⟩ : ByteArray)]) (ok := fun _ => True) (okp := fun _ => True) ?hr ?hp (fun _ hk => hk) trivial (Below.refl _ _) (Nat.le_refl _) dq15 ?_; (case hd => rfl); (case hg => rfl); (case hr => exact dq0); (case hp => exact (Reps.one (show Kd.M Kd.string _ _ _ (⟨#[44]⟩ : ByteArray) [.string (⟨#[44]⟩ : ByteArray)] from rfl) (Reps.one (show Kd.M Kd.string _ _ _ (⟨#[124]⟩ : ByteArray) [.string (⟨#[124]⟩ : ByteArray)] from rfl) (Reps.none _ _)))); intro v162 w29 ho30 hb hg_ hnew_; clear hg_ hnew_; (first | rw [← Ny161.out] at ho30 | (simp only [Int.reduceToNat] at ho30; rw [← Ny161.out] at ho30)); have HO163 := Zq.i (Kd.R_lower ho30 (keep_size (w := w) (g := g) (row := none) dq18)); replace HK := Zq.i (KeepBut.trans dq18 (KeepBut.of_below hb g none) (.inl rfl)); replace HB := Zq.i (below_step dq19 hb); replace HI0 := Zq.i (IsS101.below dq20 hb); clear hb ho30) | ((with_reducible refine gate_callee (f := 69) rfl ?_); refine goesL_ (some 33) rfl rfl Try.func69 dq24 rfl #[.pointer (some ⟨g, 0, none⟩), .int .i64 2] rfl dq23 ?_; (with_reducible refine (spec_l1Rd_below.calls g s0_0 t160 2 t164 t165 w0 _ ?side1 ?side2 A24.out).mono ?_); (case side1 => exact dq1); (case side2 => exact dq2); rintro e w31 ⟨rfl, hi, hb, hk⟩; refine ⟨_, rfl, ?_⟩; replace HO163 := Zq.i (Kd.R_mono (Kd.R_keep (IsS101.apart (show IsS101 w0 _ g s0_0 t160 from by repeat (first | (with_reducible first | exact HI0.out | apply IsS101.alloc | apply IsS101.drewN | apply IsS101.drew | apply IsS101.set_1) | exact HI0.out)) (by (with_reducible repeat (first | apply Kd.R_alloc | apply Kd.R_drewN | apply Kd.R_drew)); exact HO163.out) dq25) hk (fun _ h => h.2)) (fun _ h => h.1)); replace HK := Zq.i (KeepBut.trans dq18 hk (.inl rfl)); replace HB := Zq.i (hb); replace HI0 := Zq.i (hi); (try clear hb hk hi); obtain ⟨Ao32, co32, eo32⟩ := Kd.R_slice HO163.out; subst eo32; have p166 : 0 ≤ (t164 : Int) := oT dq22; have q166 : t164 < (y161.length : Int) := oT dq22; obtain ⟨ad166, e166, hx166_0⟩ := Kd.at_string (Kd.R_reads' HO163.out).2.2 t164 p166 q166; cases e166; replace p166 := eq_true p166; replace q166 := eq_true q166) | ((with_reducible refine gate_callee (f := 69) rfl ?_); refine goesL_ (some 37) rfl rfl Try.func69 dq24 rfl #[.pointer (some ⟨g, 0, none⟩), .int .i64 3] rfl dq23 ?_; (with_reducible refine (spec_l1Rd_below.calls g s0_0 t165 3 t167 t168 w0 _ ?side1 ?side2 A27.out).mono ?_); (case side1 => exact dq1); (case side2 => exact dq2); rintro e w33 ⟨rfl, hi, hb, hk⟩; refine ⟨_, rfl, ?_⟩; replace HO163 := Zq.i (Kd.R_mono (Kd.R_keep (IsS101.apart (show IsS101 w0 _ g s0_0 t165 from by repeat (first | (with_reducible first | exact HI0.out | apply IsS101.alloc | apply IsS101.drewN | apply IsS101.drew | apply IsS101.set_1) | exact HI0.out)) (by (with_reducible repeat (first | apply Kd.R_alloc | apply Kd.R_drewN | apply Kd.R_drew)); exact HO163.out) dq25) hk (fun _ h => h.2)) (fun _ h => h.1)); replace HK := Zq.i (KeepBut.trans dq18 hk (.inl rfl)); replace HB := Zq.i (hb); replace HI0 := Zq.i (hi); (try clear hb hk hi)))
  go_loopg [6, 8] kj5 (fun kq v6 v8 w' => ∃ (x6_2 : ByteArray) (x8_2 : Int) (x1001_2 : Int), v6 = .string x6_2 ∧ v8 = .int .i64 x8_2 ∧ Zq (spec_l1Rd_mtext.l0 kq a1 (rdOf ByteArray.empty y145 t148) x6_2 (rdOf ByteArray.empty y161 t164) x8_2 s0_0 x1001_2 = some (r1, r2)) ∧ Zq (kq ≤ kj5) ∧ Zq (IsS101 w0 w' g s0_0 x1001_2) ∧ Zq (KeepBut w w' g none) ∧ Zq (Below w0.heap.size w0 w'))
  case atStart => exact ⟨(t159), (t167), (t168), dq14, dq14, H', ⟨Nat.le_refl _⟩, ⟨dq20⟩, ⟨dq18⟩, ⟨dq19⟩⟩
  clear H'
  try clear c25b0
  try clear c26b0
  try clear hx166_0
  try clear p166
  try clear q166
  obtain ⟨x6_2, x8_2, x1001_2, rfl, rfl, HA, HK2, HI0, HK, HB⟩ := hrel
  cases gk with
  | zero => exact absurd HA.out (by simp [spec_l1Rd_mtext.l0])
  | succ k2 =>
   have H := HA.out
   clear HA
   simp only [spec_l1Rd_mtext.l0] at H
   by_cases c34 : x8_2 > 0
   rotate_left
   ·rw [if_neg c34] at H
    have c34b0 : decide (0 < x8_2) = false := dF c34
    clear c34
    by_cases c39 : 1 + x6_2.size ≤ 9223372036854775807
    rotate_left
    ·rw [if_neg c39] at H
     exact absurd H dq15
    rw [if_pos c39] at H
    have c39b0 := eq_true c39
    have c39b1 := dT c39
    try have c39b2 : (9223372036854775807 < 1 + x6_2.size) = False := eq_false (Nat.not_lt.2 c39)
    by_cases c40 : ((⟨#[40]⟩ : ByteArray) ++ x6_2).size + 1 ≤ 9223372036854775807
    rotate_left
    ·rw [if_neg c40] at H
     exact absurd H dq15
    rw [if_pos c40] at H
    have c40b0 := eq_true c40
    have c40b1 := dT c40
    try have c40b2 : (9223372036854775807 < ((⟨#[40]⟩ : ByteArray) ++ x6_2).size + 1) = False := eq_false (Nat.not_lt.2 c40)
    try have c40b9 : (9223372036854775807 < ((1 + x6_2.size) + 1)) = False := eq_false (Nat.not_lt.2 (by have h_ := c40; simp only [ByteArray.size_append] at h_; exact h_))
    by_cases c41 : (((⟨#[40]⟩ : ByteArray) ++ x6_2) ++ (⟨#[41]⟩ : ByteArray)).size + (rdOf ByteArray.empty y145 t148).size ≤ 9223372036854775807
    rotate_left
    ·rw [if_neg c41] at H
     exact absurd H dq15
    rw [if_pos c41] at H
    have c41b0 := eq_true c41
    have c41b1 := dT c41
    try have c41b2 : (9223372036854775807 < (((⟨#[40]⟩ : ByteArray) ++ x6_2) ++ (⟨#[41]⟩ : ByteArray)).size + (rdOf ByteArray.empty y145 t148).size) = False := eq_false (Nat.not_lt.2 c41)
    try have c41b9 : (9223372036854775807 < (((1 + x6_2.size) + 1) + (rdOf ByteArray.empty y145 t148).size)) = False := eq_false (Nat.not_lt.2 (by have h_ := c41; simp only [ByteArray.size_append] at h_; exact h_))
    obtain ⟨rfl, rfl⟩ := oP H
    go_wp2
    go_ret
    exact ⟨dq21, dq20, dq19, dq18⟩
   rw [if_pos c34] at H
   have c34b0 : decide (0 < x8_2) = true := dT c34
   clear c34
   by_cases c35 : x6_2.size + (rdOf ByteArray.empty y161 t164).size ≤ 9223372036854775807
   rotate_left
   ·rw [if_neg c35] at H
    exact absurd H dq15
   rw [if_pos c35] at H
   have c35b0 := eq_true c35
   have c35b1 := dT c35
   try have c35b2 : (9223372036854775807 < x6_2.size + (rdOf ByteArray.empty y161 t164).size) = False := eq_false (Nat.not_lt.2 c35)
   replace H := bM H
   obtain ⟨⟨t169, t170⟩, A360, H⟩ := H
   try dsimp only at H
   have A36 := Zq.i A360
   clear A360
   by_cases c37 : (x6_2 ++ (rdOf ByteArray.empty y161 t164)).size + t169.size ≤ 9223372036854775807
   rotate_left
   ·rw [if_neg c37] at H
    exact absurd H dq15
   rw [if_pos c37] at H
   have c37b0 := eq_true c37
   have c37b1 := dT c37
   try have c37b2 : (9223372036854775807 < (x6_2 ++ (rdOf ByteArray.empty y161 t164)).size + t169.size) = False := eq_false (Nat.not_lt.2 c37)
   try have c37b9 : (9223372036854775807 < ((x6_2.size + (rdOf ByteArray.empty y161 t164).size) + t169.size)) = False := eq_false (Nat.not_lt.2 (by have h_ := c37; simp only [ByteArray.size_append] at h_; exact h_))
   have H' := Zq.i H
   clear H
   go_wp2_with (first | ((with_reducible refine gate_callee (f := 99) rfl ?_); refine goesL_ (some 48) rfl rfl Try.func99 dq24 rfl #[.pointer (some ⟨g, 0, none⟩), .int .i64 (wrap64 (a1 - 1))] rfl dq23 ?_; (with_reducible refine (ih k2 (by have := HJ5.out; have := HK2.out; omega) g s0_0 x1001_2 (wrap64 (a1 - 1)) t169 t170 w0 _ ?side1 ?side2 A36.out).mono ?_); (case side1 => exact dq1); (case side2 => exact dq2); rintro e w38 ⟨rfl, hi, hb, hk⟩; refine ⟨_, rfl, ?_⟩; replace HK := Zq.i (KeepBut.trans dq18 hk (.inl rfl)); replace HB := Zq.i (hb); replace HI0 := Zq.i (hi); (try clear hb hk hi)))
   go_roundg k2
   case measure => have := HJ5.out; have := HK2.out; omega
   case rel => exact ⟨((x6_2 ++ (rdOf ByteArray.empty y161 t164)) ++ t169), (wrap64 (x8_2 - 1)), (t170), dq14, dq14, H', ⟨by have := HJ5.out; have := HK2.out; omega⟩, ⟨dq20⟩, ⟨dq18⟩, ⟨dq19⟩⟩

/-! ### spec_l1Rd_word: function 139 -/
def spec_l1Rd_word.l0 : Nat → Int → Int → List Int → Int → Option (Int × Int)
 | 0, _, _, _, _ => none
 | k + 1, x3, x4, x1000, x1001 => if x4 < 8 then ((spec_l1Rd_next.f x1000 x1001).bind fun bt171 => (spec_l1Rd_word.l0 k (Go.bits .or .u64 (IntKind.u64.wrap (x3 * 256)) (IntKind.u64.wrap (bt171.1))) (wrap64 (x4 + 1)) x1000 bt171.2)) else (some (x3, x1001))
def spec_l1Rd_word.f (k : Nat) (s0_0 : List Int) (s0_1 : Int) : Option (Int × Int) := spec_l1Rd_word.l0 k 0 0 s0_0 s0_1
theorem spec_l1Rd_word.calls (k : Nat) (g : Nat) (s0_0 : List Int) (s0_1 : Int) (r1 : Int) (r2 : Int) (w0 w : World) (hI : IsS101 w0 w g s0_0 s0_1) (hB : Below w0.heap.size w0 w) (h : spec_l1Rd_word.f k s0_0 s0_1 = some (r1, r2)) :
  Calls Try.prog 139 #[.pointer (some ⟨g, 0, none⟩)] w fun e w' => e = .returned (.int .u64 r1) ∧ IsS101 w0 w' g s0_0 r2 ∧ Below w0.heap.size w0 w' ∧ KeepBut w w' g none := by
 have HI0 := Zq.i hI
 have HK := Zq.i (KeepBut.refl w g none)
 have HL := Zq.i hB.size
 clear hI
 have HW0 := Zq.i hB.size
 have HB := Zq.i hB
 clear hB
 have H := h
 unfold spec_l1Rd_word.f at H
 clear h
 have H' := Zq.i H
 clear H
 go_enter Try.func139, Try.ntmps139
 go_wp2
 go_loopg [3, 4] k (fun kq v3 v4 w' => ∃ (x3_1 : Int) (x4_1 : Int) (x1001_1 : Int), v3 = .int .u64 x3_1 ∧ v4 = .int .i64 x4_1 ∧ Zq (spec_l1Rd_word.l0 kq x3_1 x4_1 s0_0 x1001_1 = some (r1, r2)) ∧ Zq (kq ≤ k) ∧ Zq (IsS101 w0 w' g s0_0 x1001_1) ∧ Zq (KeepBut w w' g none) ∧ Zq (Below w0.heap.size w0 w'))
 case atStart => exact ⟨(0), (0), (s0_1), dq14, dq14, H', ⟨Nat.le_refl _⟩, ⟨dq20⟩, ⟨dq18⟩, ⟨dq19⟩⟩
 clear H'
 try clear c1
 obtain ⟨x3_1, x4_1, x1001_1, rfl, rfl, HA, HK1, HI0, HK, HB⟩ := hrel
 cases gk with
 | zero => exact absurd HA.out (by simp [spec_l1Rd_word.l0])
 | succ k1 =>
  have H := HA.out
  clear HA
  simp only [spec_l1Rd_word.l0] at H
  by_cases c2 : x4_1 < 8
  rotate_left
  ·rw [if_neg c2] at H
   have c2b0 := dF c2
   clear c2
   obtain ⟨rfl, rfl⟩ := oP H
   go_wp2
   go_ret
   exact ⟨dq21, dq20, dq19, dq18⟩
  rw [if_pos c2] at H
  have c2b0 := dT c2
  clear c2
  replace H := bM H
  obtain ⟨⟨t171, t172⟩, A30, H⟩ := H
  try dsimp only at H
  have A3 := Zq.i A30
  clear A30
  have H' := Zq.i H
  clear H
  go_wp2_with (first | ((with_reducible refine gate_callee (f := 105) rfl ?_); refine goesL_ (some 12) rfl rfl Try.func105 dq24 rfl #[.pointer (some ⟨g, 0, none⟩)] rfl dq23 ?_; (with_reducible refine (spec_l1Rd_next.calls g s0_0 x1001_1 t171 t172 w0 _ ?side1 ?side2 A3.out).mono ?_); (case side1 => exact dq1); (case side2 => exact dq2); rintro e w4 ⟨rfl, hi, hb, hk⟩; refine ⟨_, rfl, ?_⟩; replace HK := Zq.i (KeepBut.trans dq18 hk (.inl rfl)); replace HB := Zq.i (hb); replace HI0 := Zq.i (hi); (try clear hb hk hi)))
  go_roundg k1
  case measure => have := HK1.out; omega
  case rel => exact ⟨(Go.bits .or .u64 (IntKind.u64.wrap (x3_1 * 256)) (IntKind.u64.wrap (t171))), (wrap64 (x4_1 + 1)), (t172), dq14, dq14, H', ⟨dq27⟩, ⟨dq20⟩, ⟨dq18⟩, ⟨dq19⟩⟩

/-! ### spec_l1Rd_near: function 119 -/
def spec_l1Rd_near.f (k : Nat) (s0_0 : List Int) (s0_1 : Int) (a1 : Int) (a2 : Int) : Option (Int × Int) := (spec_l1Rd_below.f s0_0 s0_1 8).bind fun bt173 => (if bt173.1 = 0 then (some (a1, bt173.2)) else (if bt173.1 = 1 then (some (a2, bt173.2)) else (if a2 < a1 then (some (a1, bt173.2)) else ((spec_l1Rd_word.f k s0_0 bt173.2).bind fun bt175 => (if (IntKind.u64.wrap (wrap64 ((wrap64 (a2 - a1)) + 1))) = 0 then (none) else (some (wrap64 (a1 + (wrap64 (Int.tmod (bt175.1 / 2) (IntKind.u64.wrap (wrap64 ((wrap64 (a2 - a1)) + 1)))))), bt175.2)))))))
theorem spec_l1Rd_near.calls (k : Nat) (g : Nat) (s0_0 : List Int) (s0_1 : Int) (a1 : Int) (a2 : Int) (r1 : Int) (r2 : Int) (w0 w : World) (hI : IsS101 w0 w g s0_0 s0_1) (hB : Below w0.heap.size w0 w) (h : spec_l1Rd_near.f k s0_0 s0_1 a1 a2 = some (r1, r2)) :
  Calls Try.prog 119 #[.pointer (some ⟨g, 0, none⟩), .int .i64 a1, .int .i64 a2] w fun e w' => e = .returned (.int .i64 r1) ∧ IsS101 w0 w' g s0_0 r2 ∧ Below w0.heap.size w0 w' ∧ KeepBut w w' g none := by
 have HI0 := Zq.i hI
 have HK := Zq.i (KeepBut.refl w g none)
 have HL := Zq.i hB.size
 clear hI
 have HW0 := Zq.i hB.size
 have HB := Zq.i hB
 clear hB
 have H := h
 unfold spec_l1Rd_near.f at H
 clear h
 replace H := bM H
 obtain ⟨⟨t173, t174⟩, A40, H⟩ := H
 try dsimp only at H
 have A4 := Zq.i A40
 clear A40
 by_cases c5 : t173 = 0
 ·rw [if_pos c5] at H
  have c5b0 := bE c5
  have c5b1 := bQ c5
  clear c5
  obtain ⟨rfl, rfl⟩ := oP H
  go_enter Try.func119, Try.ntmps119
  go_wp2_with (first | ((with_reducible refine gate_callee (f := 69) rfl ?_); refine goesL_ (some 8) rfl rfl Try.func69 dq24 rfl #[.pointer (some ⟨g, 0, none⟩), .int .i64 8] rfl dq23 ?_; (with_reducible refine (spec_l1Rd_below.calls g s0_0 s0_1 8 t173 t174 w0 _ ?side1 ?side2 A4.out).mono ?_); (case side1 => exact dq1); (case side2 => exact dq2); rintro e w6 ⟨rfl, hi, hb, hk⟩; refine ⟨_, rfl, ?_⟩; replace HK := Zq.i (KeepBut.trans dq18 hk (.inl rfl)); replace HB := Zq.i (hb); replace HI0 := Zq.i (hi); (try clear hb hk hi)))
  go_ret
  exact ⟨dq21, dq20, dq19, dq18⟩
 rw [if_neg c5] at H
 have c5b0 := bN c5
 have c5b1 := bO c5
 by_cases c7 : t173 = 1
 ·rw [if_pos c7] at H
  have c7b0 := bE c7
  have c7b1 := bQ c7
  clear c7
  obtain ⟨rfl, rfl⟩ := oP H
  go_enter Try.func119, Try.ntmps119
  go_wp2_with (first | ((with_reducible refine gate_callee (f := 69) rfl ?_); refine goesL_ (some 8) rfl rfl Try.func69 dq24 rfl #[.pointer (some ⟨g, 0, none⟩), .int .i64 8] rfl dq23 ?_; (with_reducible refine (spec_l1Rd_below.calls g s0_0 s0_1 8 t173 t174 w0 _ ?side1 ?side2 A4.out).mono ?_); (case side1 => exact dq1); (case side2 => exact dq2); rintro e w8 ⟨rfl, hi, hb, hk⟩; refine ⟨_, rfl, ?_⟩; replace HK := Zq.i (KeepBut.trans dq18 hk (.inl rfl)); replace HB := Zq.i (hb); replace HI0 := Zq.i (hi); (try clear hb hk hi)))
  go_ret
  exact ⟨dq21, dq20, dq19, dq18⟩
 rw [if_neg c7] at H
 have c7b0 := bN c7
 have c7b1 := bO c7
 by_cases c9 : a2 < a1
 ·rw [if_pos c9] at H
  have c9b0 := dT c9
  clear c9
  obtain ⟨rfl, rfl⟩ := oP H
  go_enter Try.func119, Try.ntmps119
  go_wp2_with (first | ((with_reducible refine gate_callee (f := 69) rfl ?_); refine goesL_ (some 8) rfl rfl Try.func69 dq24 rfl #[.pointer (some ⟨g, 0, none⟩), .int .i64 8] rfl dq23 ?_; (with_reducible refine (spec_l1Rd_below.calls g s0_0 s0_1 8 t173 t174 w0 _ ?side1 ?side2 A4.out).mono ?_); (case side1 => exact dq1); (case side2 => exact dq2); rintro e w10 ⟨rfl, hi, hb, hk⟩; refine ⟨_, rfl, ?_⟩; replace HK := Zq.i (KeepBut.trans dq18 hk (.inl rfl)); replace HB := Zq.i (hb); replace HI0 := Zq.i (hi); (try clear hb hk hi)))
  go_ret
  exact ⟨dq21, dq20, dq19, dq18⟩
 rw [if_neg c9] at H
 have c9b0 := dF c9
 clear c9
 replace H := bM H
 obtain ⟨⟨t175, t176⟩, A110, H⟩ := H
 try dsimp only at H
 have A11 := Zq.i A110
 clear A110
 by_cases c12 : (IntKind.u64.wrap (wrap64 ((wrap64 (a2 - a1)) + 1))) = 0
 ·rw [if_pos c12] at H
  exact absurd H dq15
 rw [if_neg c12] at H
 have c12b0 := bN c12
 have c12b1 := bO c12
 obtain ⟨rfl, rfl⟩ := oP H
 go_enter Try.func119, Try.ntmps119
 go_wp2_with (first | ((with_reducible refine gate_callee (f := 69) rfl ?_); refine goesL_ (some 8) rfl rfl Try.func69 dq24 rfl #[.pointer (some ⟨g, 0, none⟩), .int .i64 8] rfl dq23 ?_; (with_reducible refine (spec_l1Rd_below.calls g s0_0 s0_1 8 t173 t174 w0 _ ?side1 ?side2 A4.out).mono ?_); (case side1 => exact dq1); (case side2 => exact dq2); rintro e w13 ⟨rfl, hi, hb, hk⟩; refine ⟨_, rfl, ?_⟩; replace HK := Zq.i (KeepBut.trans dq18 hk (.inl rfl)); replace HB := Zq.i (hb); replace HI0 := Zq.i (hi); (try clear hb hk hi)) | ((with_reducible refine gate_callee (f := 139) rfl ?_); refine goesL_ (some 21) rfl rfl Try.func139 dq24 rfl #[.pointer (some ⟨g, 0, none⟩)] rfl dq23 ?_; (with_reducible refine (spec_l1Rd_word.calls k g s0_0 t174 t175 t176 w0 _ ?side1 ?side2 A11.out).mono ?_); (case side1 => exact dq1); (case side2 => exact dq2); rintro e w14 ⟨rfl, hi, hb, hk⟩; refine ⟨_, rfl, ?_⟩; replace HK := Zq.i (KeepBut.trans dq18 hk (.inl rfl)); replace HB := Zq.i (hb); replace HI0 := Zq.i (hi); (try clear hb hk hi)))
 go_ret
 exact ⟨dq21, dq20, dq19, dq18⟩

/-! ### spec_l1Rd_off: function 101 -/
def spec_l1Rd_off.f (k : Nat) (s0_0 : List Int) (s0_1 : Int) (a1 : Int) (a2 : Int) : Option (Int × Int) := (spec_l1Rd_once.f s0_0 s0_1 24).bind fun bt177 => (if bt177.1 = true then ((some (([wrap64 (a1 - 1), wrap64 (a2 + 1), (-9223372036854775808), 9223372036854775807] : List Int) : List Int)).bind fun y179 => ((spec_l1Rd_below.f s0_0 bt177.2 4).bind fun bt182 => (if 0 ≤ bt182.1 then (if bt182.1 < (y179.length : Int) then (some (rd y179 bt182.1, bt182.2)) else (none)) else (none)))) else ((spec_l1Rd_near.f k s0_0 bt177.2 a1 a2).bind fun bt185 => (some (bt185.1, bt185.2))))
theorem spec_l1Rd_off.calls (k : Nat) (g : Nat) (s0_0 : List Int) (s0_1 : Int) (a1 : Int) (a2 : Int) (r1 : Int) (r2 : Int) (w0 w : World) (hI : IsS101 w0 w g s0_0 s0_1) (hB : Below w0.heap.size w0 w) (h : spec_l1Rd_off.f k s0_0 s0_1 a1 a2 = some (r1, r2)) :
  Calls Try.prog 101 #[.pointer (some ⟨g, 0, none⟩), .int .i64 a1, .int .i64 a2] w fun e w' => e = .returned (.int .i64 r1) ∧ IsS101 w0 w' g s0_0 r2 ∧ Below w0.heap.size w0 w' ∧ KeepBut w w' g none := by
 have HI0 := Zq.i hI
 have HK := Zq.i (KeepBut.refl w g none)
 have HL := Zq.i hB.size
 clear hI
 have HW0 := Zq.i hB.size
 have HB := Zq.i hB
 clear hB
 have H := h
 unfold spec_l1Rd_off.f at H
 clear h
 replace H := bM H
 obtain ⟨⟨t177, t178⟩, A40, H⟩ := H
 try dsimp only at H
 have A4 := Zq.i A40
 clear A40
 by_cases c5 : t177 = true
 rotate_left
 ·replace c5 := Bool.eq_false_iff.mpr c5
  subst c5
  rw [iN] at H
  replace H := bM H
  obtain ⟨⟨t185, t186⟩, A140, H⟩ := H
  try dsimp only at H
  have A14 := Zq.i A140
  clear A140
  obtain ⟨rfl, rfl⟩ := oP H
  go_enter Try.func101, Try.ntmps101
  go_wp2_with (first | ((with_reducible refine gate_callee (f := 100) rfl ?_); refine goesL_ (some 8) rfl rfl Try.func100 dq24 rfl #[.pointer (some ⟨g, 0, none⟩), .int .i64 24] rfl dq23 ?_; (with_reducible refine (spec_l1Rd_once.calls g s0_0 s0_1 24 false t178 w0 _ ?side1 ?side2 A4.out).mono ?_); (case side1 => exact dq1); (case side2 => exact dq2); rintro e w15 ⟨rfl, hi, hb, hk⟩; refine ⟨_, rfl, ?_⟩; replace HK := Zq.i (KeepBut.trans dq18 hk (.inl rfl)); replace HB := Zq.i (hb); replace HI0 := Zq.i (hi); (try clear hb hk hi)) | ((with_reducible refine gate_callee (f := 119) rfl ?_); refine goesL_ (some 21) rfl rfl Try.func119 dq24 rfl #[.pointer (some ⟨g, 0, none⟩), .int .i64 a1, .int .i64 a2] rfl dq23 ?_; (with_reducible refine (spec_l1Rd_near.calls k g s0_0 t178 a1 a2 t185 t186 w0 _ ?side1 ?side2 A14.out).mono ?_); (case side1 => exact dq1); (case side2 => exact dq2); rintro e w16 ⟨rfl, hi, hb, hk⟩; refine ⟨_, rfl, ?_⟩; replace HK := Zq.i (KeepBut.trans dq18 hk (.inl rfl)); replace HB := Zq.i (hb); replace HI0 := Zq.i (hi); (try clear hb hk hi)))
  go_ret
  exact ⟨dq21, dq20, dq19, dq18⟩
 subst c5
 rw [if_pos rfl] at H
 obtain ⟨y179, hy179⟩ : ∃ y_ : List Int, y_ = (([wrap64 (a1 - 1), wrap64 (a2 + 1), (-9223372036854775808), 9223372036854775807] : List Int)) := ⟨_, rfl⟩
 replace H : ((spec_l1Rd_below.f s0_0 t178 4).bind fun bt182 => (if 0 ≤ bt182.1 then (if bt182.1 < (y179.length : Int) then (some (rd y179 bt182.1, bt182.2)) else (none)) else (none))) = some (r1, r2) := by first | (rw [hy179]; with_reducible exact H) | (have H2_ := oS H; rw [hy179]; with_reducible exact H2_) | (have H2_ := oS H; with_reducible exact H2_) | with_reducible exact H | (rw [hy179]; exact H) | exact H
 have Ny179 := Zq.i hy179
 clear hy179
 replace H := bM H
 obtain ⟨⟨t182, t183⟩, A60, H⟩ := H
 try dsimp only at H
 have A6 := Zq.i A60
 clear A60
 by_cases c7 : 0 ≤ t182
 rotate_left
 ·rw [if_neg c7] at H
  exact absurd H dq15
 rw [if_pos c7] at H
 have c7b0 := dT c7
 clear c7
 by_cases c8 : t182 < (y179.length : Int)
 rotate_left
 ·rw [if_neg c8] at H
  exact absurd H dq15
 rw [if_pos c8] at H
 have c8b0 := dT c8
 clear c8
 obtain ⟨rfl, rfl⟩ := oP H
 go_enter Try.func101, Try.ntmps101
 go_wp2_with (first | ((with_reducible refine gate_callee (f := 100) rfl ?_); refine goesL_ (some 8) rfl rfl Try.func100 dq24 rfl #[.pointer (some ⟨g, 0, none⟩), .int .i64 24] rfl dq23 ?_; (with_reducible refine (spec_l1Rd_once.calls g s0_0 s0_1 24 true t178 w0 _ ?side1 ?side2 A4.out).mono ?_); (case side1 => exact dq1); (case side2 => exact dq2); rintro e w9 ⟨rfl, hi, hb, hk⟩; refine ⟨_, rfl, ?_⟩; replace HK := Zq.i (KeepBut.trans dq18 hk (.inl rfl)); replace HB := Zq.i (hb); replace HI0 := Zq.i (hi); (try clear hb hk hi)) | ((with_reducible refine gate_dst (N := 13) rfl ?_); refine Kd.R_lit (Kd.int .i64) _ 2 ?hg (N := 13) ?hd (xs := ([wrap64 (a1 - 1), wrap64 (a2 + 1), (-9223372036854775808), 9223372036854775807] : List Int)) (inner := [.int .i64 (wrap64 (a1 - 1)), .int .i64 (wrap64 (a2 + 1)), .int .i64 (-9223372036854775808), .int .i64 9223372036854775807]) (ok := fun _ => True) (okp := fun _ => True) ?hr ?hp (fun _ hk => hk) trivial (Below.refl _ _) (Nat.le_refl _) dq15 ?_; (case hd => rfl); (case hg => rfl); (case hr => exact dq0); (case hp => exact (Reps.one (show Kd.M (Kd.int .i64) _ _ _ (wrap64 (a1 - 1)) [.int .i64 (wrap64 (a1 - 1))] from rfl) (Reps.one (show Kd.M (Kd.int .i64) _ _ _ (wrap64 (a2 + 1)) [.int .i64 (wrap64 (a2 + 1))] from rfl) (Reps.one (show Kd.M (Kd.int .i64) _ _ _ (-9223372036854775808) [.int .i64 (-9223372036854775808)] from rfl) (Reps.one (show Kd.M (Kd.int .i64) _ _ _ 9223372036854775807 [.int .i64 9223372036854775807] from rfl) (Reps.none _ _)))))); intro v180 w10 ho11 hb hg_ hnew_; clear hg_ hnew_; (first | rw [← Ny179.out] at ho11 | (simp only [Int.reduceToNat] at ho11; rw [← Ny179.out] at ho11)); have HO181 := Zq.i (Kd.R_lower ho11 (keep_size (w := w) (g := g) (row := none) dq18)); replace HK := Zq.i (KeepBut.trans dq18 (KeepBut.of_below hb g none) (.inl rfl)); replace HB := Zq.i (below_step dq19 hb); replace HI0 := Zq.i (IsS101.below dq20 hb); clear hb ho11) | ((with_reducible refine gate_callee (f := 69) rfl ?_); refine goesL_ (some 15) rfl rfl Try.func69 dq24 rfl #[.pointer (some ⟨g, 0, none⟩), .int .i64 4] rfl dq23 ?_; (with_reducible refine (spec_l1Rd_below.calls g s0_0 t178 4 t182 t183 w0 _ ?side1 ?side2 A6.out).mono ?_); (case side1 => exact dq1); (case side2 => exact dq2); rintro e w12 ⟨rfl, hi, hb, hk⟩; refine ⟨_, rfl, ?_⟩; replace HO181 := Zq.i (Kd.R_mono (Kd.R_keep (IsS101.apart (show IsS101 w0 _ g s0_0 t178 from by repeat (first | (with_reducible first | exact HI0.out | apply IsS101.alloc | apply IsS101.drewN | apply IsS101.drew | apply IsS101.set_1) | exact HI0.out)) (by (with_reducible repeat (first | apply Kd.R_alloc | apply Kd.R_drewN | apply Kd.R_drew)); exact HO181.out) dq25) hk (fun _ h => h.2)) (fun _ h => h.1)); replace HK := Zq.i (KeepBut.trans dq18 hk (.inl rfl)); replace HB := Zq.i (hb); replace HI0 := Zq.i (hi); (try clear hb hk hi); obtain ⟨Ao13, co13, eo13⟩ := Kd.R_slice HO181.out; subst eo13; have p184 : 0 ≤ (t182 : Int) := oT dq22; have q184 : t182 < (y179.length : Int) := oT dq22; obtain ⟨ad184, e184, hx184_0⟩ := Kd.at_int (Kd.R_reads' HO181.out).2.2 t182 p184 q184; cases e184; replace p184 := eq_true p184; replace q184 := eq_true q184))
 go_ret
 exact ⟨dq21, dq20, dq19, dq18⟩

/-! ### spec_l1First: function 110 -/
def spec_l1First.f (a0 : Int) : Option (Bool) := if a0 ≥ 97 then (if a0 ≤ 122 then (some true) else (if a0 ≥ 65 then (if a0 ≤ 90 then (some true) else (some (a0 == 95))) else (some (a0 == 95)))) else (if a0 ≥ 65 then (if a0 ≤ 90 then (some true) else (some (a0 == 95))) else (some (a0 == 95)))
theorem spec_l1First.calls (a0 : Int) (r : Bool) (w : World) (h : spec_l1First.f a0 = some r) :
  Calls Try.prog 110 #[.int .u8 a0] w fun e w' => e = .returned (.bool r) ∧ Drawn0 w w' := by
 have H : (if a0 ≥ 97 then (if a0 ≤ 122 then (some true) else (if a0 ≥ 65 then (if a0 ≤ 90 then (some true) else (some (a0 == 95))) else (some (a0 == 95)))) else (if a0 ≥ 65 then (if a0 ≤ 90 then (some true) else (some (a0 == 95))) else (some (a0 == 95)))) = some r := h
 clear h
 by_cases c2 : a0 ≥ 97
 rotate_left
 ·rw [if_neg c2] at H
  have c2b0 : decide (97 ≤ a0) = false := dF c2
  clear c2
  by_cases c6 : a0 ≥ 65
  rotate_left
  ·rw [if_neg c6] at H
   have c6b0 : decide (65 ≤ a0) = false := dF c6
   clear c6
   obtain rfl := oI H
   go_enter Try.func110, Try.ntmps110
   go_wp2
   go_ret
   exact ⟨dq14, dq13⟩
  rw [if_pos c6] at H
  have c6b0 : decide (65 ≤ a0) = true := dT c6
  clear c6
  by_cases c7 : a0 ≤ 90
  ·rw [if_pos c7] at H
   have c7b0 := dT c7
   clear c7
   obtain rfl := oI H
   go_enter Try.func110, Try.ntmps110
   go_wp2
   go_ret
   exact ⟨dq14, dq13⟩
  rw [if_neg c7] at H
  have c7b0 := dF c7
  clear c7
  obtain rfl := oI H
  go_enter Try.func110, Try.ntmps110
  go_wp2
  go_ret
  exact ⟨dq14, dq13⟩
 rw [if_pos c2] at H
 have c2b0 : decide (97 ≤ a0) = true := dT c2
 clear c2
 by_cases c3 : a0 ≤ 122
 ·rw [if_pos c3] at H
  have c3b0 := dT c3
  clear c3
  obtain rfl := oI H
  go_enter Try.func110, Try.ntmps110
  go_wp2
  go_ret
  exact ⟨dq14, dq13⟩
 rw [if_neg c3] at H
 have c3b0 := dF c3
 clear c3
 by_cases c4 : a0 ≥ 65
 rotate_left
 ·rw [if_neg c4] at H
  have c4b0 : decide (65 ≤ a0) = false := dF c4
  clear c4
  obtain rfl := oI H
  go_enter Try.func110, Try.ntmps110
  go_wp2
  go_ret
  exact ⟨dq14, dq13⟩
 rw [if_pos c4] at H
 have c4b0 : decide (65 ≤ a0) = true := dT c4
 clear c4
 by_cases c5 : a0 ≤ 90
 ·rw [if_pos c5] at H
  have c5b0 := dT c5
  clear c5
  obtain rfl := oI H
  go_enter Try.func110, Try.ntmps110
  go_wp2
  go_ret
  exact ⟨dq14, dq13⟩
 rw [if_neg c5] at H
 have c5b0 := dF c5
 clear c5
 obtain rfl := oI H
 go_enter Try.func110, Try.ntmps110
 go_wp2
 go_ret
 exact ⟨dq14, dq13⟩

/-! ### spec_l1Digit: function 113 -/
def spec_l1Digit.f (a0 : Int) : Option (Bool) := if a0 ≥ 48 then (some (decide (a0 ≤ 57))) else (some false)
theorem spec_l1Digit.calls (a0 : Int) (r : Bool) (w : World) (h : spec_l1Digit.f a0 = some r) :
  Calls Try.prog 113 #[.int .u8 a0] w fun e w' => e = .returned (.bool r) ∧ Drawn0 w w' := by
 have H : (if a0 ≥ 48 then (some (decide (a0 ≤ 57))) else (some false)) = some r := h
 clear h
 by_cases c2 : a0 ≥ 48
 ·rw [if_pos c2] at H
  have c2b0 : decide (48 ≤ a0) = true := dT c2
  clear c2
  obtain rfl := oI H
  go_enter Try.func113, Try.ntmps113
  go_wp2
  go_ret
  exact ⟨dq14, dq13⟩
 rw [if_neg c2] at H
 have c2b0 : decide (48 ≤ a0) = false := dF c2
 clear c2
 obtain rfl := oI H
 go_enter Try.func113, Try.ntmps113
 go_wp2
 go_ret
 exact ⟨dq14, dq13⟩

/-! ### spec_l1More: function 85 -/
def spec_l1More.f (a0 : Int) : Option (Bool) := (spec_l1First.f a0).bind fun t102 => (if t102 = true then (some true) else ((spec_l1Digit.f a0).bind fun t103 => (if t103 = true then (some true) else (if a0 = 46 then (some true) else (some (a0 == 45))))))
theorem spec_l1More.calls (a0 : Int) (r : Bool) (w : World) (h : spec_l1More.f a0 = some r) :
  Calls Try.prog 85 #[.int .u8 a0] w fun e w' => e = .returned (.bool r) ∧ Drawn0 w w' := by
 have H : ((spec_l1First.f a0).bind fun t102 => (if t102 = true then (some true) else ((spec_l1Digit.f a0).bind fun t103 => (if t103 = true then (some true) else (if a0 = 46 then (some true) else (some (a0 == 45))))))) = some r := h
 clear h
 replace H := bM H
 obtain ⟨t102, A20, H⟩ := H
 try dsimp only at H
 have A2 := Zq.i A20
 clear A20
 by_cases c3 : t102 = true
 ·subst c3
  rw [if_pos rfl] at H
  obtain rfl := oI H
  go_enter Try.func85, Try.ntmps85
  go_wp2_with (first | ((with_reducible refine gate_callee (f := 110) rfl ?_); refine goesL_ (some 4) rfl rfl Try.func110 dq24 rfl #[.int .u8 a0] rfl dq23 ?_; (with_reducible refine (spec_l1First.calls a0 true _ A2.out).mono ?_); rintro e w' ⟨rfl, ⟨nd, rfl⟩⟩; refine ⟨_, rfl, ?_⟩))
  go_ret
  exact ⟨dq14, dq13⟩
 replace c3 := Bool.eq_false_iff.mpr c3
 subst c3
 rw [iN] at H
 replace H := bM H
 obtain ⟨t103, A40, H⟩ := H
 try dsimp only at H
 have A4 := Zq.i A40
 clear A40
 by_cases c5 : t103 = true
 ·subst c5
  rw [if_pos rfl] at H
  obtain rfl := oI H
  go_enter Try.func85, Try.ntmps85
  go_wp2_with (first | ((with_reducible refine gate_callee (f := 110) rfl ?_); refine goesL_ (some 4) rfl rfl Try.func110 dq24 rfl #[.int .u8 a0] rfl dq23 ?_; (with_reducible refine (spec_l1First.calls a0 false _ A2.out).mono ?_); rintro e w' ⟨rfl, ⟨nd, rfl⟩⟩; refine ⟨_, rfl, ?_⟩) | (go_at_call 113; (with_reducible refine (spec_l1Digit.calls a0 true _ A4.out).mono ?_); rintro e w' ⟨rfl, ⟨nd, rfl⟩⟩))
  go_ret
  exact ⟨dq14, dq13⟩
 replace c5 := Bool.eq_false_iff.mpr c5
 subst c5
 rw [iN] at H
 by_cases c6 : a0 = 46
 rotate_left
 ·rw [if_neg c6] at H
  have c6b0 := bN c6
  have c6b1 := bO c6
  obtain rfl := oI H
  go_enter Try.func85, Try.ntmps85
  go_wp2_with (first | ((with_reducible refine gate_callee (f := 110) rfl ?_); refine goesL_ (some 4) rfl rfl Try.func110 dq24 rfl #[.int .u8 a0] rfl dq23 ?_; (with_reducible refine (spec_l1First.calls a0 false _ A2.out).mono ?_); rintro e w' ⟨rfl, ⟨nd, rfl⟩⟩; refine ⟨_, rfl, ?_⟩) | (go_at_call 113; (with_reducible refine (spec_l1Digit.calls a0 false _ A4.out).mono ?_); rintro e w' ⟨rfl, ⟨nd, rfl⟩⟩))
  go_ret
  exact ⟨dq14, dq13⟩
 rw [if_pos c6] at H
 have c6b0 := bE c6
 have c6b1 := bQ c6
 clear c6
 obtain rfl := oI H
 go_enter Try.func85, Try.ntmps85
 go_wp2_with (first | ((with_reducible refine gate_callee (f := 110) rfl ?_); refine goesL_ (some 4) rfl rfl Try.func110 dq24 rfl #[.int .u8 a0] rfl dq23 ?_; (with_reducible refine (spec_l1First.calls a0 false _ A2.out).mono ?_); rintro e w' ⟨rfl, ⟨nd, rfl⟩⟩; refine ⟨_, rfl, ?_⟩) | (go_at_call 113; (with_reducible refine (spec_l1Digit.calls a0 false _ A4.out).mono ?_); rintro e w' ⟨rfl, ⟨nd, rfl⟩⟩))
 go_ret
 exact ⟨dq14, dq13⟩

/-! ### spec_NameOk: function 78 -/
mutual
def spec_NameOk.j0 : Nat → ByteArray → Bool → Option (Bool)
 | 0, _, _ => none
 | k + 1, x0, x17 => if x17 = true then (some false) else (spec_NameOk.l0 k x0 1)
def spec_NameOk.l0 : Nat → ByteArray → Int → Option (Bool)
 | 0, _, _ => none
 | k + 1, x0, x3 => if x3 < (x0.size : Int) then (if 0 ≤ x3 then ((spec_l1More.f (bt x0 x3)).bind fun t105 => (if t105 = true then (spec_NameOk.l0 k x0 (wrap64 (x3 + 1))) else (some false))) else (none)) else (some true)
end
def spec_NameOk.f (k : Nat) (a0 : ByteArray) : Option (Bool) := if (a0.size : Int) < 1 then (spec_NameOk.j0 k a0 true) else (if (a0.size : Int) > 40 then (spec_NameOk.j0 k a0 true) else (if 0 < (a0.size : Int) then ((spec_l1First.f (bt a0 0)).bind fun t104 => (spec_NameOk.j0 k a0 (!t104))) else (none)))
theorem spec_NameOk.calls (k : Nat) (a0 : ByteArray) (r : Bool) (w : World) (h : spec_NameOk.f k a0 = some r) :
  Calls Try.prog 78 #[.string a0] w fun e w' => e = .returned (.bool r) ∧ Drawn0 w w' := by
 have H := h
 unfold spec_NameOk.f at H
 clear h
 have HC2 := Zq.i H
 clear H
 go_enter Try.func78, Try.ntmps78
 go_upto_region 1 with (fail)
 go_cut [17] (fun v17 wc => ∃ (kq : Nat) (x17_1 : Bool), v17 = .bool x17_1 ∧ Zq (spec_NameOk.j0 kq a0 x17_1 = some r) ∧ Zq (kq ≤ k) ∧ Drawn0 w wc)
 case first =>
  have H := HC2.out
  clear HC2
  by_cases c3 : (a0.size : Int) < 1
  ·rw [if_pos c3] at H
   have c3b0 := dT c3
   have c3b1 : decide (a0.size < 1) = true := dT dq28
   clear c3
   (first | rw [c3b0] | (simp only [i64_w, i32_w]; rw [c3b0]) | skip)
   have H' := Zq.i H
   clear H
   go_wp2
   go_meet
   case rel => exact ⟨_, (true), dq14, H', ⟨dq26⟩, dq13⟩
  rw [if_neg c3] at H
  have c3b0 := dF c3
  have c3b1 : decide (a0.size < 1) = false := dF dq28
  clear c3
  (first | rw [c3b0] | (simp only [i64_w, i32_w]; rw [c3b0]) | skip)
  by_cases c4 : (a0.size : Int) > 40
  ·rw [if_pos c4] at H
   have c4b0 : decide (40 < (a0.size : Int)) = true := dT c4
   have c4b1 : decide (40 < a0.size) = true := dT dq28
   clear c4
   have H' := Zq.i H
   clear H
   go_wp2
   go_meet
   case rel => exact ⟨_, (true), dq14, H', ⟨dq26⟩, dq13⟩
  rw [if_neg c4] at H
  have c4b0 : decide (40 < (a0.size : Int)) = false := dF c4
  have c4b1 : decide (40 < a0.size) = false := dF dq28
  clear c4
  by_cases c5 : 0 < (a0.size : Int)
  rotate_left
  ·rw [if_neg c5] at H
   exact absurd H dq15
  rw [if_pos c5] at H
  have c5b0 := dT c5
  have c5b1 : decide (0 < a0.size) = true := dT dq28
  clear c5
  replace H := bM H
  obtain ⟨t104, A70, H⟩ := H
  try dsimp only at H
  have A7 := Zq.i A70
  clear A70
  have H' := Zq.i H
  clear H
  have p6 : 0 ≤ (0 : Int) := dq28
  have q6 : 0 < a0.size := (by have : (0 : Int) < (a0.size : Int) := oT dq22; omega)
  have hx6 : ∀ h : 0 < a0.size, ((a0[0]'h).toNat : Int) = bt a0 0 := bt_at a0 0
  clear p6
  have qi6 : (0 < (a0.size : Int)) = True := eq_true (oT dq22)
  replace q6 := eq_true q6
  go_wp2_with (first | (go_at_call 110; (with_reducible refine (spec_l1First.calls (bt a0 0) t104 _ A7.out).mono ?_); rintro e w' ⟨rfl, ⟨nd, rfl⟩⟩))
  go_meet
  case rel => exact ⟨_, (!t104), dq14, H', ⟨dq26⟩, dq13⟩
 clear HC2
 try clear p2
 try clear c3
 try clear c3b0
 try clear c3b1
 try clear c4
 try clear c4b0
 try clear c4b1
 try clear c5
 try clear c5b0
 try clear c5b1
 try clear p6
 try clear q6
 try clear hx6
 try clear qi6
 try clear c7
 try clear p6
 try clear q6
 obtain ⟨kq, x17_1, rfl, HA, HJ1, ⟨mc1, rfl⟩⟩ := hcut
 cases kq with
 | zero => exact absurd HA.out (by simp [spec_NameOk.j0])
 | succ kj1 =>
  have H := HA.out
  clear HA
  simp only [spec_NameOk.j0] at H
  by_cases c8 : x17_1 = true
  ·subst c8
   rw [if_pos rfl] at H
   obtain rfl := oI H
   go_wp2
   go_ret
   exact ⟨dq14, dq13⟩
  replace c8 := Bool.eq_false_iff.mpr c8
  subst c8
  rw [iN] at H
  have H' := Zq.i H
  clear H
  go_wp2
  go_loopg [3] kj1 (fun kq v3 w' => ∃ (x3_2 : Int), v3 = .int .i64 x3_2 ∧ Zq (spec_NameOk.l0 kq a0 x3_2 = some r) ∧ Zq (kq ≤ kj1) ∧ Drawn0 w w')
  case atStart => exact ⟨(1), dq14, H', ⟨Nat.le_refl _⟩, dq13⟩
  clear H'
  try clear c1
  try clear p2
  try clear c3
  try clear c3b0
  try clear c3b1
  try clear c4
  try clear c4b0
  try clear c4b1
  try clear c5
  try clear c5b0
  try clear c5b1
  try clear p6
  try clear q6
  try clear hx6
  try clear qi6
  try clear c7
  try clear c8
  try clear p2
  try clear p6
  try clear q6
  obtain ⟨x3_2, rfl, HA, HK2, ⟨m2, rfl⟩⟩ := hrel
  cases gk with
  | zero => exact absurd HA.out (by simp [spec_NameOk.l0])
  | succ k2 =>
   have H := HA.out
   clear HA
   simp only [spec_NameOk.l0] at H
   by_cases c9 : x3_2 < (a0.size : Int)
   rotate_left
   ·rw [if_neg c9] at H
    have c9b0 := dF c9
    clear c9
    obtain rfl := oI H
    go_wp2
    go_ret
    exact ⟨dq14, dq13⟩
   rw [if_pos c9] at H
   have c9b0 := dT c9
   clear c9
   by_cases c10 : 0 ≤ x3_2
   rotate_left
   ·rw [if_neg c10] at H
    exact absurd H dq15
   rw [if_pos c10] at H
   have c10b0 := dT c10
   clear c10
   replace H := bM H
   obtain ⟨t105, A120, H⟩ := H
   try dsimp only at H
   have A12 := Zq.i A120
   clear A120
   by_cases c13 : t105 = true
   rotate_left
   ·replace c13 := Bool.eq_false_iff.mpr c13
    subst c13
    rw [iN] at H
    obtain rfl := oI H
    have p11 : 0 ≤ (x3_2 : Int) := oT dq22
    have q11 : x3_2 < (a0.size : Int) := oT dq22
    have hx11 := bt_at a0 x3_2
    replace p11 := eq_true p11
    replace q11 := eq_true q11
    go_wp2_with (first | ((with_reducible refine gate_callee (f := 85) rfl ?_); refine goesL_ (some 27) rfl rfl Try.func85 dq24 rfl #[.int .u8 (bt a0 x3_2)] rfl dq23 ?_; (with_reducible refine (spec_l1More.calls (bt a0 x3_2) false _ A12.out).mono ?_); rintro e w' ⟨rfl, ⟨nd, rfl⟩⟩; refine ⟨_, rfl, ?_⟩))
    go_ret
    exact ⟨dq14, dq13⟩
   subst c13
   rw [if_pos rfl] at H
   have H' := Zq.i H
   clear H
   have p11 : 0 ≤ (x3_2 : Int) := oT dq22
   have q11 : x3_2 < (a0.size : Int) := oT dq22
   have hx11 := bt_at a0 x3_2
   replace p11 := eq_true p11
   replace q11 := eq_true q11
   go_wp2_with (first | ((with_reducible refine gate_callee (f := 85) rfl ?_); refine goesL_ (some 27) rfl rfl Try.func85 dq24 rfl #[.int .u8 (bt a0 x3_2)] rfl dq23 ?_; (with_reducible refine (spec_l1More.calls (bt a0 x3_2) true _ A12.out).mono ?_); rintro e w' ⟨rfl, ⟨nd, rfl⟩⟩; refine ⟨_, rfl, ?_⟩))
   go_roundg k2
   case measure => have := HJ1.out; have := HK2.out; omega
   case rel => exact ⟨(wrap64 (x3_2 + 1)), dq14, H', ⟨by have := HJ1.out; have := HK2.out; omega⟩, dq13⟩

/-! ### spec_l1In: function 77 -/
def spec_l1In.f (a0 : Int) (a1 : Int) (a2 : Int) : Option (Bool) := if a0 ≥ a1 then (some (decide (a0 ≤ a2))) else (some false)
theorem spec_l1In.calls (a0 : Int) (a1 : Int) (a2 : Int) (r : Bool) (w : World) (h : spec_l1In.f a0 a1 a2 = some r) :
  Calls Try.prog 77 #[.int .i64 a0, .int .i64 a1, .int .i64 a2] w fun e w' => e = .returned (.bool r) ∧ Drawn0 w w' := by
 have H : (if a0 ≥ a1 then (some (decide (a0 ≤ a2))) else (some false)) = some r := h
 clear h
 by_cases c4 : a0 ≥ a1
 ·rw [if_pos c4] at H
  have c4b0 : decide (a1 ≤ a0) = true := dT c4
  clear c4
  obtain rfl := oI H
  go_enter Try.func77, Try.ntmps77
  go_wp2
  go_ret
  exact ⟨dq14, dq13⟩
 rw [if_neg c4] at H
 have c4b0 : decide (a1 ≤ a0) = false := dF c4
 clear c4
 obtain rfl := oI H
 go_enter Try.func77, Try.ntmps77
 go_wp2
 go_ret
 exact ⟨dq14, dq13⟩

/-! ### spec_l8Tree: function 79 -/
mutual
def spec_l8Tree.l0 : Nat → List (S42) → Int → Int → Int → Option (Int)
 | 0, _, _, _, _ => none
 | k + 1, x0, x1, x5, x6 => if x6 ≥ 0 then (if x5 < 0 then (spec_l8Tree.j1 k x0 x1 x5 x6 true) else (if 0 ≤ x1 then (if x1 < (x0.length : Int) then (if 0 ≤ x6 then (if x6 < (((rd_T42 x0 x1).f2).length : Int) then (spec_l8Tree.j1 k x0 x1 x5 x6 ((rd ((rd_T42 x0 x1).f2) x6) != x5)) else (none)) else (none)) else (none)) else (none))) else (some (wrap64 (x5 + 1)))
def spec_l8Tree.j1 : Nat → List (S42) → Int → Int → Int → Bool → Option (Int)
 | 0, _, _, _, _, _ => none
 | k + 1, x0, x1, x5, x6, x34 => if x34 = true then (some (-1)) else ((spec_l8Tree.f k x0 x5).bind fun t109 => (if t109 < 0 then (some (-1)) else (spec_l8Tree.l0 k x0 x1 (wrap64 (t109 - 1)) (wrap64 (x6 - 1)))))
def spec_l8Tree.f : Nat → List (S42) → Int → Option (Int)
 | 0, _, _ => none
 | k + 1, l0, a1 => if 0 ≤ a1 then (if a1 < (l0.length : Int) then (spec_l8Tree.l0 k l0 a1 (wrap64 (a1 - 1)) (wrap64 ((((rd_T42 l0 a1).f2).length : Int) - 1))) else (none)) else (none)
end
theorem spec_l8Tree.calls (k : Nat) : ∀ (A0 : Option Addr) (c0 : Nat) (l0 : List (S42)) (a1 : Int) (r : Int) (w : World) (hr0 : Kd.C k42 w A0 l0.length l0) (hc0 : l0.length ≤ c0) (h : spec_l8Tree.f k l0 a1 = some r),
  Calls Try.prog 79 #[.slice A0 l0.length c0, .int .i64 a1] w fun e w' => e = .returned (.int .i64 r) ∧ Drawn0 w w' := by
 induction k using Nat.strongRecOn with
 | _ k ih =>
 intro A0 c0 l0 a1 r w hr0 hc0 h
 cases k with
 | zero => exact absurd h (by simp [spec_l8Tree.f])
 | succ k =>
 simp only [spec_l8Tree.f] at h
 have HR0 := Zq.i hr0
 have HC0 := Zq.i hc0
 clear hr0 hc0
 have H : (if 0 ≤ a1 then (if a1 < (l0.length : Int) then (spec_l8Tree.l0 k l0 a1 (wrap64 (a1 - 1)) (wrap64 ((((rd_T42 l0 a1).f2).length : Int) - 1))) else (none)) else (none)) = some r := h
 clear h
 by_cases c3 : 0 ≤ a1
 rotate_left
 ·rw [if_neg c3] at H
  exact absurd H dq15
 rw [if_pos c3] at H
 have c3b0 := dT c3
 clear c3
 by_cases c4 : a1 < (l0.length : Int)
 rotate_left
 ·rw [if_neg c4] at H
  exact absurd H dq15
 rw [if_pos c4] at H
 have c4b0 := dT c4
 clear c4
 have H' := Zq.i H
 clear H
 have p106 : 0 ≤ (a1 : Int) := oT dq22
 have q106 : a1 < (l0.length : Int) := oT dq22
 obtain ⟨ad106, A106_2, c106_2, e106, hx106_0, hx106_1, hx106_2, hx106_3, hl106_2, hi106_2⟩ := at_T42 HR0.out a1 p106 q106
 cases e106
 have HR106_2 := Zq.i hi106_2
 have HC106_2 := Zq.i hl106_2
 clear hi106_2 hl106_2
 replace p106 := eq_true p106
 replace q106 := eq_true q106
 go_enter Try.func79, Try.ntmps79
 go_wp2
 go_loopg [5, 6] k (fun kq v5 v6 w' => ∃ (x5_1 : Int) (x6_1 : Int), v5 = .int .i64 x5_1 ∧ v6 = .int .i64 x6_1 ∧ Zq (spec_l8Tree.l0 kq l0 a1 x5_1 x6_1 = some r) ∧ Zq (kq ≤ k) ∧ Drawn0 w w')
 case atStart => exact ⟨(wrap64 (a1 - 1)), (wrap64 ((((rd_T42 l0 a1).f2).length : Int) - 1)), dq14, dq14, H', ⟨Nat.le_refl _⟩, dq13⟩
 clear H'
 try clear c1
 try clear p1
 try clear q1
 try clear hx1
 try clear p2
 try clear c3
 try clear c3b0
 try clear c4
 try clear c4b0
 try clear hx106_0
 try clear hx106_1
 try clear hx106_2
 try clear hx106_3
 try clear p106
 try clear q106
 obtain ⟨x5_1, x6_1, rfl, rfl, HA, HK1, ⟨m1, rfl⟩⟩ := hrel
 cases gk with
 | zero => exact absurd HA.out (by simp [spec_l8Tree.l0])
 | succ k1 =>
  have H := HA.out
  clear HA
  simp only [spec_l8Tree.l0] at H
  by_cases c5 : x6_1 ≥ 0
  rotate_left
  ·rw [if_neg c5] at H
   have c5b0 : decide (0 ≤ x6_1) = false := dF c5
   clear c5
   obtain rfl := oI H
   go_wp2
   go_ret
   exact ⟨dq14, dq13⟩
  rw [if_pos c5] at H
  have c5b0 : decide (0 ≤ x6_1) = true := dT c5
  clear c5
  have HC6 := Zq.i H
  clear H
  go_upto_region 5 with (fail)
  go_cut [34] (fun v34 wc => ∃ (kq : Nat) (x34_5 : Bool), v34 = .bool x34_5 ∧ Zq (spec_l8Tree.j1 kq l0 a1 x5_1 x6_1 x34_5 = some r) ∧ Zq (kq ≤ k1) ∧ Drawn0 w wc)
  case first =>
   have H := HC6.out
   clear HC6
   by_cases c7 : x5_1 < 0
   ·rw [if_pos c7] at H
    have c7b0 := dT c7
    clear c7
    (first | rw [c7b0] | (simp only [i64_w, i32_w]; rw [c7b0]) | skip)
    have H' := Zq.i H
    clear H
    go_wp2
    go_meet
    case rel => exact ⟨_, (true), dq14, H', ⟨dq29⟩, dq13⟩
   rw [if_neg c7] at H
   have c7b0 := dF c7
   clear c7
   (first | rw [c7b0] | (simp only [i64_w, i32_w]; rw [c7b0]) | skip)
   by_cases c8 : 0 ≤ a1
   rotate_left
   ·rw [if_neg c8] at H
    exact absurd H dq15
   rw [if_pos c8] at H
   have c8b0 := dT c8
   clear c8
   by_cases c9 : a1 < (l0.length : Int)
   rotate_left
   ·rw [if_neg c9] at H
    exact absurd H dq15
   rw [if_pos c9] at H
   have c9b0 := dT c9
   clear c9
   by_cases c10 : 0 ≤ x6_1
   rotate_left
   ·rw [if_neg c10] at H
    exact absurd H dq15
   rw [if_pos c10] at H
   have c10b0 := dT c10
   clear c10
   by_cases c11 : x6_1 < (((rd_T42 l0 a1).f2).length : Int)
   rotate_left
   ·rw [if_neg c11] at H
    exact absurd H dq15
   rw [if_pos c11] at H
   have c11b0 := dT c11
   clear c11
   have H' := Zq.i H
   clear H
   have p107 : 0 ≤ (a1 : Int) := oT dq22
   have q107 : a1 < (l0.length : Int) := oT dq22
   obtain ⟨ad107, A107_2, c107_2, e107, hx107_0, hx107_1, hx107_2, hx107_3, hl107_2, hi107_2⟩ := at_T42 HR0.out a1 p107 q107
   obtain rfl : ad106 = ad107 := (by injection e107)
   have HR107_2 := Zq.i hi107_2
   have HC107_2 := Zq.i hl107_2
   clear hi107_2 hl107_2
   replace p107 := eq_true p107
   replace q107 := eq_true q107
   have p108 : 0 ≤ (x6_1 : Int) := oT dq22
   have q108 : x6_1 < (((rd_T42 l0 a1).f2).length : Int) := oT dq22
   obtain ⟨ad108, e108, hx108_0⟩ := Kd.at_int HR107_2.out x6_1 p108 q108
   cases e108
   replace p108 := eq_true p108
   replace q108 := eq_true q108
   go_wp2
   go_meet
   case rel => exact ⟨_, (((rd ((rd_T42 l0 a1).f2) x6_1) != x5_1)), dq14, H', ⟨dq29⟩, dq13⟩
  clear HC6
  try clear c1
  try clear p1
  try clear q1
  try clear hx1
  try clear p2
  try clear c3
  try clear c3b0
  try clear c4
  try clear c4b0
  try clear c5
  try clear c5b0
  try clear p6
  try clear c7
  try clear c7b0
  try clear c8
  try clear c8b0
  try clear c9
  try clear c9b0
  try clear c10
  try clear c10b0
  try clear p10
  try clear q10
  try clear hx10
  try clear c11
  try clear c11b0
  try clear hx106_0
  try clear hx106_1
  try clear hx106_2
  try clear hx106_3
  try clear hx107_0
  try clear hx107_1
  try clear hx107_2
  try clear hx107_3
  try clear hx108_0
  try clear p1
  try clear p106
  try clear p107
  try clear p108
  try clear p2
  try clear q1
  try clear q106
  try clear q107
  try clear q108
  obtain ⟨kq, x34_5, rfl, HA, HJ5, ⟨mc5, rfl⟩⟩ := hcut
  cases kq with
  | zero => exact absurd HA.out (by simp [spec_l8Tree.j1])
  | succ kj5 =>
   have H := HA.out
   clear HA
   simp only [spec_l8Tree.j1] at H
   by_cases c12 : x34_5 = true
   ·subst c12
    rw [if_pos rfl] at H
    obtain rfl := oI H
    go_wp2
    go_ret
    exact ⟨dq14, dq13⟩
   replace c12 := Bool.eq_false_iff.mpr c12
   subst c12
   rw [iN] at H
   replace H := bM H
   obtain ⟨t109, A130, H⟩ := H
   try dsimp only at H
   have A13 := Zq.i A130
   clear A130
   by_cases c14 : t109 < 0
   ·rw [if_pos c14] at H
    have c14b0 := dT c14
    clear c14
    obtain rfl := oI H
    go_wp2_with (first | ((with_reducible refine gate_callee (f := 79) rfl ?_); refine goesL_ (some 37) rfl rfl Try.func79 dq24 rfl #[.slice (some ad106) l0.length c0, .int .i64 x5_1] rfl dq23 ?_; (with_reducible refine (ih kj5 (by have := HK1.out; have := HJ5.out; omega) _ _ l0 x5_1 t109 _ ?side1 ?side2 A13.out).mono ?_); (case side1 => exact dq3); (case side2 => exact dq4); rintro e w' ⟨rfl, ⟨nd, rfl⟩⟩; refine ⟨_, rfl, ?_⟩))
    go_ret
    exact ⟨dq14, dq13⟩
   rw [if_neg c14] at H
   have c14b0 := dF c14
   clear c14
   have H' := Zq.i H
   clear H
   go_wp2_with (first | ((with_reducible refine gate_callee (f := 79) rfl ?_); refine goesL_ (some 37) rfl rfl Try.func79 dq24 rfl #[.slice (some ad106) l0.length c0, .int .i64 x5_1] rfl dq23 ?_; (with_reducible refine (ih kj5 (by have := HK1.out; have := HJ5.out; omega) _ _ l0 x5_1 t109 _ ?side1 ?side2 A13.out).mono ?_); (case side1 => exact dq3); (case side2 => exact dq4); rintro e w' ⟨rfl, ⟨nd, rfl⟩⟩; refine ⟨_, rfl, ?_⟩))
   go_roundg kj5
   case measure => have := HK1.out; have := HJ5.out; omega
   case rel => exact ⟨(wrap64 (t109 - 1)), (wrap64 (x6_1 - 1)), dq14, dq14, H', ⟨by have := HK1.out; have := HJ5.out; omega⟩, dq13⟩

/-! ### spec_l8Deep: function 80 -/
mutual
def spec_l8Deep.l0 : Nat → List (S42) → Int → Int → Int → Option (Int)
 | 0, _, _, _, _ => none
 | k + 1, x0, x1, x5, x6 => if 0 ≤ x1 then (if x1 < (x0.length : Int) then (if x6 < (((rd_T42 x0 x1).f2).length : Int) then (if 0 ≤ x6 then ((spec_l8Deep.f k x0 (rd ((rd_T42 x0 x1).f2) x6)).bind fun t113 => (spec_l8Deep.l0 k x0 x1 (mx x5 t113) (wrap64 (x6 + 1)))) else (none)) else (some (wrap64 (x5 + 1)))) else (none)) else (none)
def spec_l8Deep.f : Nat → List (S42) → Int → Option (Int)
 | 0, _, _ => none
 | k + 1, l0, a1 => spec_l8Deep.l0 k l0 a1 0 0
end
theorem spec_l8Deep.calls (k : Nat) : ∀ (A0 : Option Addr) (c0 : Nat) (l0 : List (S42)) (a1 : Int) (r : Int) (w : World) (hr0 : Kd.C k42 w A0 l0.length l0) (hc0 : l0.length ≤ c0) (h : spec_l8Deep.f k l0 a1 = some r),
  Calls Try.prog 80 #[.slice A0 l0.length c0, .int .i64 a1] w fun e w' => e = .returned (.int .i64 r) ∧ Below w.heap.size w w' := by
 induction k using Nat.strongRecOn with
 | _ k ih =>
 intro A0 c0 l0 a1 r w hr0 hc0 h
 cases k with
 | zero => exact absurd h (by simp [spec_l8Deep.f])
 | succ k =>
 simp only [spec_l8Deep.f] at h
 have HR0 := Zq.i hr0
 have HC0 := Zq.i hc0
 clear hr0 hc0
 have HB := Zq.i (Below.refl w.heap.size w)
 have H : (spec_l8Deep.l0 k l0 a1 0 0) = some r := h
 clear h
 have H' := Zq.i H
 clear H
 go_enter Try.func80, Try.ntmps80
 go_wp2
 go_loopg [5, 6] k (fun kq v5 v6 w' => ∃ (x5_1 : Int) (x6_1 : Int), v5 = .int .i64 x5_1 ∧ v6 = .int .i64 x6_1 ∧ Zq (spec_l8Deep.l0 kq l0 a1 x5_1 x6_1 = some r) ∧ Zq (kq ≤ k) ∧ Zq (Below w.heap.size w w'))
 case atStart => exact ⟨(0), (0), dq14, dq14, H', ⟨Nat.le_refl _⟩, ⟨dq17⟩⟩
 clear H'
 try clear p2
 obtain ⟨x5_1, x6_1, rfl, rfl, HA, HK1, HB⟩ := hrel
 cases gk with
 | zero => exact absurd HA.out (by simp [spec_l8Deep.l0])
 | succ k1 =>
  have H := HA.out
  clear HA
  simp only [spec_l8Deep.l0] at H
  by_cases c3 : 0 ≤ a1
  rotate_left
  ·rw [if_neg c3] at H
   exact absurd H dq15
  rw [if_pos c3] at H
  have c3b0 := dT c3
  clear c3
  by_cases c4 : a1 < (l0.length : Int)
  rotate_left
  ·rw [if_neg c4] at H
   exact absurd H dq15
  rw [if_pos c4] at H
  have c4b0 := dT c4
  clear c4
  by_cases c5 : x6_1 < (((rd_T42 l0 a1).f2).length : Int)
  rotate_left
  ·rw [if_neg c5] at H
   have c5b0 := dF c5
   clear c5
   obtain rfl := oI H
   have p110 : 0 ≤ (a1 : Int) := oT dq22
   have q110 : a1 < (l0.length : Int) := oT dq22
   obtain ⟨ad110, A110_2, c110_2, e110, hx110_0, hx110_1, hx110_2, hx110_3, hl110_2, hi110_2⟩ := at_T42 HR0.out a1 p110 q110
   cases e110
   replace hx110_0 := (HB.out.cell (bC w _ hx110_0)).trans hx110_0
   replace hx110_1 := (HB.out.cell (bC w _ hx110_1)).trans hx110_1
   replace hx110_2 := (HB.out.cell (bC w _ hx110_2)).trans hx110_2
   replace hx110_3 := (HB.out.cell (bC w _ hx110_3)).trans hx110_3
   have HR110_2 := Zq.i hi110_2
   have HC110_2 := Zq.i hl110_2
   clear hi110_2 hl110_2
   replace p110 := eq_true p110
   replace q110 := eq_true q110
   go_wp2
   go_ret
   exact ⟨dq21, dq17⟩
  rw [if_pos c5] at H
  have c5b0 := dT c5
  clear c5
  by_cases c6 : 0 ≤ x6_1
  rotate_left
  ·rw [if_neg c6] at H
   exact absurd H dq15
  rw [if_pos c6] at H
  have c6b0 := dT c6
  clear c6
  replace H := bM H
  obtain ⟨t113, A70, H⟩ := H
  try dsimp only at H
  have A7 := Zq.i A70
  clear A70
  obtain ⟨ji8, hji8⟩ : ∃ j_ : Int, (mx x5_1 t113) = j_ := ⟨_, rfl⟩
  replace H : (spec_l8Deep.l0 k1 l0 a1 ji8 (wrap64 (x6_1 + 1))) = some r := by first | (rw [hji8] at H; exact H) | (simp only [hji8] at H ⊢; exact H)
  (try rw [hji8] at A7)
  have hji8_ : (if x5_1 < t113 then t113 else x5_1) = ji8 := hji8
  have H' := Zq.i H
  clear H
  have p110 : 0 ≤ (a1 : Int) := oT dq22
  have q110 : a1 < (l0.length : Int) := oT dq22
  obtain ⟨ad110, A110_2, c110_2, e110, hx110_0, hx110_1, hx110_2, hx110_3, hl110_2, hi110_2⟩ := at_T42 HR0.out a1 p110 q110
  cases e110
  replace hx110_0 := (HB.out.cell (bC w _ hx110_0)).trans hx110_0
  replace hx110_1 := (HB.out.cell (bC w _ hx110_1)).trans hx110_1
  replace hx110_2 := (HB.out.cell (bC w _ hx110_2)).trans hx110_2
  replace hx110_3 := (HB.out.cell (bC w _ hx110_3)).trans hx110_3
  have HR110_2 := Zq.i hi110_2
  have HC110_2 := Zq.i hl110_2
  clear hi110_2 hl110_2
  replace p110 := eq_true p110
  replace q110 := eq_true q110
  have p111 : 0 ≤ (a1 : Int) := oT dq22
  have q111 : a1 < (l0.length : Int) := oT dq22
  obtain ⟨ad111, A111_2, c111_2, e111, hx111_0, hx111_1, hx111_2, hx111_3, hl111_2, hi111_2⟩ := at_T42 HR0.out a1 p111 q111
  obtain rfl : ad110 = ad111 := (by injection e111)
  replace hx111_0 := (HB.out.cell (bC w _ hx111_0)).trans hx111_0
  replace hx111_1 := (HB.out.cell (bC w _ hx111_1)).trans hx111_1
  replace hx111_2 := (HB.out.cell (bC w _ hx111_2)).trans hx111_2
  replace hx111_3 := (HB.out.cell (bC w _ hx111_3)).trans hx111_3
  have HR111_2 := Zq.i hi111_2
  have HC111_2 := Zq.i hl111_2
  clear hi111_2 hl111_2
  replace p111 := eq_true p111
  replace q111 := eq_true q111
  have ea_ := oI (hx110_2.symm.trans hx111_2)
  injection ea_ with ea_ en_ ec_
  subst ea_
  subst ec_
  clear en_
  have p112 : 0 ≤ (x6_1 : Int) := oT dq22
  have q112 : x6_1 < (((rd_T42 l0 a1).f2).length : Int) := oT dq22
  obtain ⟨ad112, e112, hx112_0⟩ := Kd.at_int HR111_2.out x6_1 p112 q112
  cases e112
  replace hx112_0 := (HB.out.cell (bC w _ hx112_0)).trans hx112_0
  replace p112 := eq_true p112
  replace q112 := eq_true q112
  go_wp2_with (first | ((with_reducible refine gate_callee (f := 80) rfl ?_); refine goesL_ (some 27) rfl rfl Try.func80 dq24 rfl #[.slice (some ad110) l0.length c0, .int .i64 (rd ((rd_T42 l0 a1).f2) x6_1)] rfl dq23 ?_; (with_reducible refine (ih k1 dq27 _ _ l0 (rd ((rd_T42 l0 a1).f2) x6_1) t113 _ ?side1 ?side2 A7.out).mono ?_); (case side1 => exact dq5); (case side2 => exact dq4); rintro e w9 ⟨rfl, hb⟩; refine ⟨_, rfl, ?_⟩; replace HB := Zq.i (below_step dq17 hb); (try clear hb)))
  go_roundg k1
  case measure => have := HK1.out; omega
  case rel => exact ⟨(ji8), (wrap64 (x6_1 + 1)), (by first | rfl | (simp; done) | (simp only [← hji8] <;> (first | rfl | simp)) | (simp [*]; done)), dq14, H', ⟨dq27⟩, ⟨dq17⟩⟩

end Go.Proofs.Ytajdfbgbkgabjaa.L
