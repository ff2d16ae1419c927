/- Words and contracts for the row RowFnExactAccepts: what the Go functions answer that it calls; printed by programs of the kit and of this session, and merged. -/
import Derived.Test.YtejkkdjfiebmfaaQe6
import Derived.Shelf.SortM.Plain
import Derived.Shelf.SortM.SortNone
import Derived.Test.YtejkkdjfiebmfaaProg
import Derived.Sort.Walk0
import Derived.Sort.OwnSortedInts
import Derived.Lib.Hide
import Derived.Outline
namespace Go.Proofs
open Go.Shelf
def Try.laysSlM5_f44_ren : Go.Shelf.Ren := ⟨fun | 5 => 44 | 8 => 69 | 7 => 68 | 19 => 85 | 20 => 86 | 10 => 76 | 11 => 77 | 12 => 78 | 13 => 79 | 14 => 80 | 15 => 81 | 16 => 82 | 17 => 83 | 18 => 84 | 30 => 90 | 31 => 91 | 32 => 92 | 33 => 93 | 34 => 94 | 35 => 95 | 40 => 96 | n => n, fun | 23 => 24 | 25 => 2 | 3 => 3 | 32 => 78 | 22 => 24 | 0 => 0 | 44 => 92 | 46 => 94 | 4 => 4 | 36 => 84 | 35 => 83 | 41 => 89 | 5 => 5 | 9 => 9 | 53 => 96 | 57 => 100 | 63 => 103 | 64 => 104 | n => n, fun | n => n⟩
theorem Try.laysSlM5_f44 : Go.Proofs.SlLaysM.n5 Try.prog Try.laysSlM5_f44_ren := {
  mixed := by kernel_rfl
  f5 := ⟨Try.f44.name, by decide, Try.func44.trans (congrArg some (by kernel_rfl))⟩
  f7 := ⟨Try.f68.name, by decide, Try.func68.trans (congrArg some (by kernel_rfl))⟩
  f8 := Try.func69.trans (congrArg some (by kernel_rfl))
  f10 := ⟨Try.f76.name, by decide, Try.func76.trans (congrArg some (by kernel_rfl))⟩
  f11 := ⟨Try.f77.name, by decide, Try.func77.trans (congrArg some (by kernel_rfl))⟩
  f12 := ⟨Try.f78.name, by decide, Try.func78.trans (congrArg some (by kernel_rfl))⟩
  f13 := ⟨Try.f79.name, by decide, Try.func79.trans (congrArg some (by kernel_rfl))⟩
  f14 := ⟨Try.f80.name, by decide, Try.func80.trans (congrArg some (by kernel_rfl))⟩
  f15 := ⟨Try.f81.name, by decide, Try.func81.trans (congrArg some (by kernel_rfl))⟩
  f16 := ⟨Try.f82.name, by decide, Try.func82.trans (congrArg some (by kernel_rfl))⟩
  f17 := ⟨Try.f83.name, by decide, Try.func83.trans (congrArg some (by kernel_rfl))⟩
  f18 := ⟨Try.f84.name, by decide, Try.func84.trans (congrArg some (by kernel_rfl))⟩
  f19 := Try.func85.trans (congrArg some (by kernel_rfl))
  f20 := Try.func86.trans (congrArg some (by kernel_rfl))
  f30 := ⟨Try.f90.name, by decide, Try.func90.trans (congrArg some (by kernel_rfl))⟩
  f31 := Try.func91.trans (congrArg some (by kernel_rfl))
  f32 := Try.func92.trans (congrArg some (by kernel_rfl))
  f33 := ⟨Try.f93.name, by decide, Try.func93.trans (congrArg some (by kernel_rfl))⟩
  f34 := ⟨Try.f94.name, by decide, Try.func94.trans (congrArg some (by kernel_rfl))⟩
  f35 := ⟨Try.f95.name, by decide, Try.func95.trans (congrArg some (by kernel_rfl))⟩
  f40 := ⟨Try.f96.name, by decide, Try.func96.trans (congrArg some (by kernel_rfl))⟩
  t0 := Try.underlying0
  a0 := Try.isAgg0
  z0 := Try.sizeOf0
  v0 := Try.zeroValue0
  t3 := Try.underlying3
  a3 := Try.isAgg3
  z3 := Try.sizeOf3
  v3 := Try.zeroValue3
  t4 := Try.underlying4
  a4 := Try.isAgg4
  z4 := Try.sizeOf4
  v4 := Try.zeroValue4
  t5 := Try.underlying5
  a5 := Try.isAgg5
  z5 := Try.sizeOf5
  v5 := Try.zeroValue5
  t9 := Try.underlying9
  a9 := Try.isAgg9
  z9 := Try.sizeOf9
  v9 := Try.zeroValue9
  t22 := Try.underlying24
  a22 := Try.isAgg24
  z22 := Try.sizeOf24
  v22 := Try.zeroValue24
  t23 := Try.underlying24
  a23 := Try.isAgg24
  z23 := Try.sizeOf24
  v23 := Try.zeroValue24
  t25 := Try.underlying2
  a25 := Try.isAgg2
  z25 := Try.sizeOf2
  v25 := Try.zeroValue2
  t32 := Try.underlying78
  a32 := Try.isAgg78
  z32 := Try.sizeOf78
  v32 := Try.zeroValue78
  t35 := Try.underlying83
  a35 := Try.isAgg83
  z35 := Try.sizeOf83
  v35 := Try.zeroValue83
  t36 := Try.underlying84
  a36 := Try.isAgg84
  z36 := Try.sizeOf84
  v36 := Try.zeroValue84
  t41 := Try.underlying89
  a41 := Try.isAgg89
  z41 := Try.sizeOf89
  v41 := Try.zeroValue89
  t44 := Try.underlying92
  a44 := Try.isAgg92
  z44 := Try.sizeOf92
  v44 := Try.zeroValue92
  t46 := Try.underlying94
  a46 := Try.isAgg94
  z46 := Try.sizeOf94
  v46 := Try.zeroValue94
  t53 := Try.underlying96
  a53 := Try.isAgg96
  z53 := Try.sizeOf96
  v53 := Try.zeroValue96
  t57 := Try.underlying100
  a57 := Try.isAgg100
  z57 := Try.sizeOf100
  v57 := Try.zeroValue100
  t63 := Try.underlying103
  a63 := Try.isAgg103
  z63 := Try.sizeOf103
  v63 := Try.zeroValue103
  t64 := Try.underlying104
  a64 := Try.isAgg104
  z64 := Try.sizeOf104
  v64 := Try.zeroValue104 }
open Go.Sort Go.RowKit in
theorem Try.slices_Sort_int (blk off cap : Nat) (zs : List Int) (w : World) (hH : Holds (Value.int .i64) w blk off zs.toArray) (hblk : blk < w.heap.size) (hsz : zs.length < 4611686018427387904) :
    Calls Try.prog 44 #[.slice (some ⟨blk, off, none⟩) zs.length cap] w fun e w' =>
      e = .returned (.tuple #[]) ∧ ∃ n os, w' = grow (putRow (Value.int .i64) (Sort.ahead w n) blk off (zs.mergeSort fun x y => decide (x ≤ y)).toArray) os := AnyM.slices_Sort_int Try.laysSlM5_f44 blk off cap zs w hH hblk hsz
open Go.RowKit Go.Sort in
/-- .. and plain. (LAID AT THE INSTANCE 'slices.Sort[[]int64,int64]': no walk: one application.) -/
theorem Try.slices_Sort_int_none (p : Option Addr) (cap : Nat) (w : World) :
    Calls Try.prog 44 #[.slice p 0 cap] w fun e w' => e = .returned (.tuple #[]) ∧ w' = w := AnyM.slices_Sort_int_none Try.laysSlM5_f44 p cap w
end Go.Proofs

namespace Go.Proofs.Ytejkkdjfiebmfaa.Pure
open Go.RowKit Go.Proofs.Ytejkkdjfiebmfaa.L Go.Proofs.YtejkkdjfiebmfaaW.PrintWords Go.Proofs.YtejkkdjfiebmfaaW.PrintLast Go.Proofs.YtejkkdjfiebmfaaW.PrintMore
set_option linter.unusedVariables false
set_option linter.unusedSimpArgs false

theorem ba_ext {a b : ByteArray} (h : a.data.toList = b.data.toList) : a = b := by
  cases a; cases b; simp only [ByteArray.mk.injEq]; exact Array.toList_inj.mp h
theorem sz (a : ByteArray) : a.size = a.data.toList.length := (data_length a).symm
theorem w64 {n : Int} (h : -9223372036854775808 ≤ n) (h' : n ≤ 9223372036854775807) : wrap64 n = n := by unfold wrap64; omega
theorem bt_nat (s : ByteArray) (i : Nat) (h : i < s.data.toList.length) : bt s (i : Int) = ((s.data.toList[i]).toNat : Int) := by
  have h' : i < s.size := by rw [sz]; exact h
  unfold bt
  rw [dif_pos (by simpa using h')]
  simp only [Int.toNat_natCast]
  rfl
theorem first_bt (s : ByteArray) (b : UInt8) (l : List UInt8) (h : s.data.toList = b :: l) : bt s 0 = (b.toNat : Int) := by
  have := bt_nat s 0 (by rw [h]; simp)
  simp only [h, Int.ofNat_zero, List.getElem_cons_zero] at this
  simpa using this
end Go.Proofs.Ytejkkdjfiebmfaa.Pure

namespace Go.Proofs.Ytejkkdjfiebmfaa.Pure
set_option linter.unusedVariables false
set_option linter.unusedSimpArgs false

namespace MT
def Ris (l : List Int) : Prop := l.Pairwise (· < ·)
theorem up_ext : ∀ {a b : List Int}, Ris a → Ris b → (∀ x, x ∈ a ↔ x ∈ b) → a = b
  | [], [], _, _, _ => rfl
  | [], y :: b, _, _, h => absurd ((h y).2 (by simp)) (by simp)
  | x :: a, [], _, _, h => absurd ((h x).1 (by simp)) (by simp)
  | x :: a, y :: b, ha, hb, h => by
    unfold Ris at ha hb
    rw [List.pairwise_cons] at ha hb
    have e : x = y := by
      rcases List.mem_cons.1 ((h x).1 (by simp)) with h1 | h1
      · exact h1
      · rcases List.mem_cons.1 ((h y).2 (by simp)) with h2 | h2
        · exact h2.symm
        · have := hb.1 x h1
          have := ha.1 y h2
          omega
    subst e
    rw [up_ext ha.2 hb.2 (fun z => ?_)]
    constructor
    · intro hz
      rcases List.mem_cons.1 ((h z).1 (by simp [hz])) with h1 | h1
      · have := ha.1 z hz
        omega
      · exact h1
    · intro hz
      rcases List.mem_cons.1 ((h z).2 (by simp [hz])) with h1 | h1
      · have := hb.1 z hz
        omega
      · exact h1
/-- Put in at its place, once. -/
def put1 (x : Int) : List Int → List Int
  | [] => [x]
  | y :: l => if y < x then y :: put1 x l else if y = x then y :: l else x :: y :: l
def srt (l : List Int) : List Int := l.foldl (fun a x => put1 x a) []
theorem mem_put1 {x z : Int} : ∀ {l : List Int}, z ∈ put1 x l ↔ z = x ∨ z ∈ l
  | [] => by simp [put1]
  | y :: l => by
    unfold put1
    split
    · rw [List.mem_cons, mem_put1, List.mem_cons]
      constructor
      · rintro (h | h | h)
        · exact .inr (.inl h)
        · exact .inl h
        · exact .inr (.inr h)
      · rintro (h | h | h)
        · exact .inr (.inl h)
        · exact .inl h
        · exact .inr (.inr h)
    · split
      · rename_i e
        subst e
        simp
      · simp
theorem up_put1 {x : Int} : ∀ {l : List Int}, Ris l → Ris (put1 x l)
  | [], _ => by simp [put1, Ris]
  | y :: l, h => by
    unfold Ris at h
    rw [List.pairwise_cons] at h
    unfold put1
    split
    · rename_i c
      refine List.pairwise_cons.2 ⟨fun z hz => ?_, up_put1 h.2⟩
      rcases mem_put1.1 hz with rfl | hz
      · exact c
      · exact h.1 z hz
    · split
      · exact List.pairwise_cons.2 h
      · refine List.pairwise_cons.2 ⟨fun z hz => ?_, List.pairwise_cons.2 h⟩
        rcases List.mem_cons.1 hz with rfl | hz
        · omega
        · have := h.1 z hz
          omega
theorem srt_from : ∀ (l a : List Int), Ris a → Ris (l.foldl (fun a x => put1 x a) a) ∧ ∀ z, z ∈ l.foldl (fun a x => put1 x a) a ↔ z ∈ a ∨ z ∈ l
  | [], a, h => ⟨h, by simp⟩
  | x :: l, a, h => by
    obtain ⟨h1, h2⟩ := srt_from l (put1 x a) (up_put1 h)
    refine ⟨h1, fun z => ?_⟩
    rw [List.foldl_cons, h2, mem_put1, List.mem_cons]
    constructor
    · rintro ((h | h) | h)
      · exact .inr (.inl h)
      · exact .inl h
      · exact .inr (.inr h)
    · rintro (h | h | h)
      · exact .inl (.inr h)
      · exact .inl (.inl h)
      · exact .inr h
theorem up_srt (l : List Int) : Ris (srt l) := (srt_from l [] .nil).1
theorem mem_srt {l : List Int} {z : Int} : z ∈ srt l ↔ z ∈ l := by
  rw [srt, (srt_from l [] .nil).2]
  simp
theorem srt_of {a l : List Int} (h : Ris a) (hm : ∀ z, z ∈ a ↔ z ∈ l) : a = srt l := up_ext h (up_srt l) (fun z => by rw [hm, mem_srt])
theorem srt_congr {a b : List Int} (h : ∀ z, z ∈ a ↔ z ∈ b) : srt a = srt b := up_ext (up_srt a) (up_srt b) (fun z => by rw [mem_srt, mem_srt, h])
end MT
end Go.Proofs.Ytejkkdjfiebmfaa.Pure

namespace Go.Proofs.Ytejkkdjfiebmfaa.L
open Go.RowKit Go.Proofs.YtejkkdjfiebmfaaW.PrintWords Go.Proofs.YtejkkdjfiebmfaaW.PrintLast Go.Proofs.YtejkkdjfiebmfaaW.PrintMore
set_option linter.unusedVariables false
set_option linter.unusedSimpArgs false

def isort (xs : List Int) : List Int := xs.mergeSort fun x y => decide (x ≤ y)
theorem isort_length (xs : List Int) : (isort xs).length = xs.length := List.length_mergeSort _
theorem mem_isort {xs : List Int} {x : Int} : x ∈ isort xs ↔ x ∈ xs := List.mem_mergeSort
theorem sort_ints (w : World) (base : Nat) (ok : Nat → Prop) (v : Value) (xs : List Int) (HO : Kd.R (Kd.int .i64) 2 w base ok v xs) (hl : xs.length < 4611686018427387904) :
    Calls Try.prog 44 #[v] w fun e w' => e = .returned (.tuple #[]) ∧ Kd.R (Kd.int .i64) 2 w' base ok v (isort xs) ∧ w.grownBy w' v.ownBlock := by
  have h := Kd.own_of_R (enc := Value.int .i64) (h1 := fun _ => rfl) HO
  rcases h.2 with ⟨rfl, h0⟩ | ⟨g, cap, cur, rfl, hg, hh, hnc, hcm, hcs, ht⟩
  · have hx : xs = [] := List.eq_nil_of_length_eq_zero h0
    subst hx
    refine (Try.slices_Sort_int_none none 0 w).mono ?_
    rintro e w' ⟨rfl, rfl⟩
    exact ⟨rfl, (by rw [show isort [] = [] by simp [isort]]; exact HO), ⟨rfl, rfl, rfl, Nat.le_refl _, fun _ _ _ => rfl⟩⟩
  · have ht' : cur.toList.take xs.length = xs.map (Value.int .i64) := by simpa [Kd.scalar, encs] using ht
    refine (Try.slices_Sort_int g 0 cap xs w (holds_of_blockI hh ht') (blk_lt hh) hl).mono ?_
    rintro e w' ⟨rfl, n, os, rfl⟩
    refine ⟨rfl, ?_, grownBy_sortedI _⟩
    have h2 := ownsRow_sortedI (base := base) (n := n) (os := os) (ss := xs) (ts := isort xs) (isort_length xs) hg hh hnc hcm (by simpa using hcs)
    refine Kd.R_of_own (enc := Value.int .i64) (h1 := fun _ => rfl) ?_ HO.1
    rw [isort_length]
    exact h2
open Pure.MT in
theorem isort_up {xs : List Int} (hn : xs.Nodup) : Ris (isort xs) := by
  have h1 : (isort xs).Pairwise (fun x y => decide (x ≤ y) = true) := List.pairwise_mergeSort (fun a b c h1 h2 => by simp only [decide_eq_true_eq] at *; omega) (fun a b => by simp only [Bool.or_eq_true, decide_eq_true_eq]; omega) xs
  have h2 : (isort xs).Nodup := (List.mergeSort_perm xs _).nodup_iff.2 hn
  exact (List.pairwise_and_iff.2 ⟨h1, h2⟩).imp (fun {a b} h => by have := of_decide_eq_true h.1; have := h.2; omega)
open Pure.MT in
/-- Of a row without repeats: the one order. -/
theorem isort_srt {xs l : List Int} (hn : xs.Nodup) (h : ∀ x, x ∈ xs ↔ x ∈ l) : isort xs = srt l := srt_of (isort_up hn) (fun z => by rw [mem_isort, h])
def nextF (N : NetV) (n : Nat) (q : Int) : List Int := if q < 0 then isort (rdL N.fst ((n : Int) - 1)) else Pure.MT.srt (rdL N.fol q)
section
variable {w w1 : World} {base X : Nat} {own own' : Tags} {nv fv lv wv : Value} {N : NetV} {ms : List Nat} {A0 : Option Addr} {n c0 : Nat}
theorem net_whole (hN : NetW w base X own (.slice A0 n c0) nv fv lv wv N ms) (hn : n ≤ 9223372036854775807) (h0 : 0 < n) :
    Calls Try.prog 43 #[.pointer (some ⟨X, 0, none⟩)] w fun e w' => e = .returned (.int .i64 ((n : Int) - 1)) ∧ Below w.heap.size w w' := by
  obtain ⟨hx0, -, -, -, -, -⟩ := hN.cellAt
  clear hN
  go_enter Try.func43, Try.ntmps43
  go_wp2
  go_ret
  exact ⟨rfl, Below.refl _ _⟩
theorem Going.step {b r : Nat} {l done : List Int} (h : Going w b r l done) (hb : w1.heap[b]? = w.heap[b]?) (hr : w1.heap[r]? = w.heap[r]?) : Going w1 b r l done ∧ w1.rangeLeft b r = w.rangeLeft b r := by
  obtain ⟨D, left, cnt, ⟨es, clock, since, seen, q, h1, h2, h3, h4, h5, h6⟩, h7⟩ := h
  refine ⟨⟨D, left, cnt, ⟨es, clock, since, seen, q, hb.trans h1, h2, h3, h4, hr.trans h5, h6⟩, h7⟩, ?_⟩
  unfold World.rangeLeft
  rw [hb, hr]
theorem Going.rlt {b r : Nat} {l done : List Int} (h : Going w b r l done) : r < w.heap.size := by
  obtain ⟨D, left, cnt, h1, _⟩ := h
  exact h1.lt
theorem Going.small {b r : Nat} {l done : List Int} (h : Going w b r l done) : done.length ≤ 4096 := by
  obtain ⟨D, left, cnt, _, _, hr, _, hn, hs⟩ := h
  have := pigeon 4096 (done.map Int.toNat) (List.pairwise_map.2 (hn.imp_of_mem (fun {a c} ha hc hne e => hne (by have := hr a (hs a ha); have := hr c (hs c hc); omega)))) (fun z hz => by
    obtain ⟨x, hx, rfl⟩ := List.mem_map.1 hz
    have := hr x (hs x hx)
    omega)
  rwa [List.length_map] at this
end
def net_next.T3 : Bool × List (List Nat × List Nat) := (true, [([], []), ([], []), ([1], [1]), ([2], [2]), ([3], [3]), ([], []), ([5], [5]), ([4, 6], [4, 6]), ([7], [7]), ([0, 8, 6], [0, 8]), ([9, 9, 0, 1, 2, 3, 4, 5, 6, 7, 8, 9], [0, 9])])
def net_next.B3 : List Nat := [0, 0, 2, 6, 14, 0, 32, 126, 254, 511, 1023]
theorem net_next.tab3 : rtab .any (opsOf Try.f39 3) = net_next.T3 := by kernel_rfl
theorem net_next.bits3 : waitsOk net_next.T3.2 net_next.B3 = true := by kernel_rfl

def NextPost (w : World) (r : List Int) (e : Ending) (w' : World) : Prop := ∃ v, e = .returned v ∧ Kd.R (Kd.int .i64) 2 w' w.heap.size (fun _ => True) v r ∧ Below w.heap.size w w'
set_option maxHeartbeats 4000000 in
set_option maxRecDepth 100000 in
theorem net_next (w : World) (base X : Nat) (own : Tags) (nv fv lv wv : Value) (N : NetV) (ms : List Nat) (A0 : Option Addr) (n c0 : Nat) (q : Int) (hN : NetW w base X own (.slice A0 n c0) nv fv lv wv N ms) (hm : n ≤ 9223372036854775807) (h0 : 0 < n)
    (hf : N.fst.length = n) (hl : ∀ l ∈ N.fst, l.length < LIMK) (hq : q < N.fol.length) :
    Calls Try.prog 39 #[.pointer (some ⟨X, 0, none⟩), .int .i64 q] w (NextPost w (nextF N n q)) := by
  have N3 := Aside0.mk hN
  have HF := Aside0.mk hf
  have HL := Aside0.mk hl
  have L3 := Aside0.mk (Below.refl w.heap.size w)
  clear hN hf hl
  by_cases hneg : q < 0
  · have hneg2 : decide (q < 0) = true := decide_eq_true hneg
    rw [show nextF N n q = isort (rdL N.fst ((n : Int) - 1)) from if_pos hneg]
    have hnz : 0 ≤ (n : Int) - 1 := by omega
    have hnz1 : 1 ≤ (n : Int) := by omega
    go_enter Try.func39, Try.ntmps39
    go_upto_region 3 with (first | ((with_reducible refine gate_dst (N := 7) rfl ?_); refine lit_ints (w0 := w) (W := w) (own := own) ?hg (N := 7) ?hd [] 5 ?hr L3.out (by simp) ?_; (case hd => rfl); (case hg => rfl); (case hr => first | (go_simp; done) | (go_simp; rfl)); intro v7 w4 own4 hv_ st_ hb_; have R5 := Aside0.mk hv_; have z0_ := Aside0.mk (st_.net N3.out (fun _ _ h => h)); have z1_ := Aside0.mk (hb_); clear N3 L3; have N3 := z0_; have L3 := z1_; clear z0_ z1_; clear hv_ st_ hb_))
    obtain ⟨gf, cf, vk, e2, hcf, hRf⟩ := rows_at N3.out.f ((n : Int) - 1) hnz (by have := HF.out; omega)
    have hof : own4 gf = 2 := by have q_ := N3.out.f.1; rw [e2] at q_; exact q_ gf rfl
    subst e2
    obtain ⟨Af, af, e3⟩ := Kd.R_slice hRf
    subst e3
    rw [show ((n : Int) - 1).toNat = n - 1 by omega] at hcf
    obtain ⟨-, -, hx2, -, -, -⟩ := N3.out.cellAt
    have RF := Aside0.mk hRf
    have OF := Aside0.mk hof
    have XO := Aside0.mk N3.out.xo
    have HLK : Aside0 ((rdL N.fst ((n : Int) - 1)).length < LIMK) := ⟨HL.out _ (by unfold rdL rdOf; rw [List.getD_eq_getElem?_getD, List.getElem?_eq_getElem (by have := HF.out; omega)]; exact List.getElem_mem _)⟩
    have hfz : ((n : Int) - 1 : Int) < (N.fst.length : Int) := by have := HF.out; omega
    clear hRf hof
    have z0_ := Aside0.mk (N3.out.drew)
    have z1_ := Aside0.mk (below_drew1 L3.out)
    have z2_ := Aside0.mk (Kd.R_drew R5.out)
    have z3_ := Aside0.mk (Kd.R_drew RF.out)
    clear N3 L3 R5 RF
    have N3 := z0_
    have L3 := z1_
    have R5 := z2_
    have RF := z3_
    clear z0_ z1_ z2_ z3_
    refine start_ (n := 11) (S := fun w' => w'.cell? ⟨X, 2, none⟩ = some (.slice (some ⟨gf, 0, none⟩) N.fst.length cf) ∧ w'.cell? ⟨gf, n - 1, none⟩ = some (.slice Af (rdL N.fst ((n : Int) - 1)).length af)) (ds := []) #[false, false, false, false, false, false, false, false, false, false, false] (by kernel_rfl) rfl rfl ⟨hx2, hcf⟩ (fun hHeld => ?_); refine with_tabW net_next.tab3 net_next.bits3 (fun HT_ HW_ => ?_)
    clear hx2 hcf
    generalize w4.drew = w5 at N3 L3 R5 RF hHeld ⊢
    refine pure_ (i := 0) (N := some 10) (v := ?_) (a' := ?_) #[true, false, false, false, false, false, false, false, false, false, false] rfl rfl (any_of HT_.out (by kernel_rfl)) (fun _ _ _ h => h) (Or.inl ⟨by rfl, ?_⟩) ?_ ?_
    rotate_left
    · intro w'
      go_simp
      with_reducible rfl
    rotate_left
    · simp only [Act.put, List.setIfInBounds_toArray, List.set_cons_zero, List.set_cons_succ, i64_w, i32_w]
      rfl
    refine pure_ (i := 1) (N := some 11) (v := ?_) (a' := ?_) #[true, true, false, false, false, false, false, false, false, false, false] rfl rfl (any_of HT_.out (by kernel_rfl)) (fun _ _ _ h => h) (Or.inl ⟨by rfl, ?_⟩) ?_ ?_
    rotate_left
    · intro w'
      go_simp
      with_reducible rfl
    rotate_left
    · simp only [Act.put, List.setIfInBounds_toArray, List.set_cons_zero, List.set_cons_succ, i64_w, i32_w]
      rfl
    refine pure_ (i := 2) (N := some 12) (v := ?_) (a' := ?_) #[true, true, true, false, false, false, false, false, false, false, false] rfl rfl (any_of HT_.out (by kernel_rfl)) (fun _ _ _ h => h) (Or.inl ⟨by rfl, ?_⟩) ?_ ?_
    rotate_left
    · intro w'
      go_simp
      with_reducible rfl
    rotate_left
    · simp only [Act.put, List.setIfInBounds_toArray, List.set_cons_zero, List.set_cons_succ, i64_w, i32_w]
      rfl
    refine pure_ (i := 3) (N := some 13) (v := ?_) (a' := ?_) #[true, true, true, true, false, false, false, false, false, false, false] rfl rfl (any_of HT_.out (by kernel_rfl)) (fun _ _ _ h => h) (Or.inl ⟨by rfl, ?_⟩) ?_ ?_
    rotate_left
    · intro w'
      go_simp
      with_reducible rfl
    rotate_left
    · simp only [Act.put, List.setIfInBounds_toArray, List.set_cons_zero, List.set_cons_succ, i64_w, i32_w]
      rfl
    refine take_ (i := 4) (N := some 14) (v := ?_) (a' := ?_) #[true, true, true, true, true, false, false, false, false, false, false] rfl rfl (take_ofW HT_.out HW_.out (by kernel_rfl)) (fun _ _ _ h => h) (Or.inl ⟨by rfl, ?_⟩) hHeld ?_ ?_
    rotate_left
    · rintro w' ⟨s0, s1⟩
      go_simp
      with_reducible rfl
    rotate_left
    · simp only [Act.put, List.setIfInBounds_toArray, List.set_cons_zero, List.set_cons_succ, i64_w, i32_w]
      rfl
    refine pure_ (i := 5) (N := some 15) (v := ?_) (a' := ?_) #[true, true, true, true, true, true, false, false, false, false, false] rfl rfl (any_of HT_.out (by kernel_rfl)) (fun _ _ _ h => h) (Or.inl ⟨by rfl, ?_⟩) ?_ ?_
    rotate_left
    · intro w'
      go_simp
      with_reducible rfl
    rotate_left
    · simp only [Act.put, List.setIfInBounds_toArray, List.set_cons_zero, List.set_cons_succ, i64_w, i32_w]
      rfl
    refine one_ (i := 6) (N := some 16) #[true, true, true, true, true, true, true, false, false, false, false] rfl rfl (one_of HT_.out (by kernel_rfl)) (by decide) (fun K hK => ?_)
    refine goes_ Try.func43 (by kernel_rfl) rfl #[.pointer (some ⟨X, 0, none⟩)] (by rfl) rfl rfl (by (try simp only [List.map_toArray, List.map_cons, List.map_nil]); first | done | rfl) ?_
    refine (net_whole N3.out hm h0).mono ?_
    rintro e w6 ⟨rfl, hb_⟩
    refine ⟨_, rfl, ?_⟩
    obtain ⟨s1, s2⟩ := hHeld
    have st_ := Stp.below hb_ own4 (fun _ => False)
    have HS_ := Aside0.mk (show (fun w' => w'.cell? ⟨X, 2, none⟩ = some (.slice (some ⟨gf, 0, none⟩) N.fst.length cf) ∧ w'.cell? ⟨gf, n - 1, none⟩ = some (.slice Af (rdL N.fst ((n : Int) - 1)).length af)) w6 from ⟨st_.cell s1 (fun h => h), st_.cell s2 (fun h => h)⟩)
    have z0_ := Aside0.mk (st_.net N3.out (fun _ _ h => h))
    have z1_ := Aside0.mk (below_step L3.out hb_)
    have z2_ := Aside0.mk (st_.row R5.out (fun h => h))
    have z3_ := Aside0.mk (st_.row RF.out (fun h => h))
    clear N3 L3 R5 RF
    have N3 := z0_
    have L3 := z1_
    have R5 := z2_
    have RF := z3_
    clear z0_ z1_ z2_ z3_
    clear s1 s2 st_ hb_
    refine hK.out _ _ HS_.out (fun hHeld => ?_)
    clear hK K
    refine norm_ (a' := ?_) ?_ ?_
    rotate_left
    · show Act.put _ (some 16) _ = _
      simp only [Act.put, List.setIfInBounds_toArray, List.set_cons_zero, List.set_cons_succ, i64_w, i32_w]
      rfl
    clear HS_
    refine pure_ (i := 7) (N := some 17) (v := ?_) (a' := ?_) #[true, true, true, true, true, true, true, true, false, false, false] rfl rfl (any_of HT_.out (by kernel_rfl)) (fun _ _ _ h => h) (Or.inl ⟨by rfl, ?_⟩) ?_ ?_
    rotate_left
    · intro w'
      go_simp
      with_reducible rfl
    rotate_left
    · simp only [Act.put, List.setIfInBounds_toArray, List.set_cons_zero, List.set_cons_succ, i64_w, i32_w]
      rfl
    refine take_ (i := 8) (N := some 18) (v := ?_) (a' := ?_) #[true, true, true, true, true, true, true, true, true, false, false] rfl rfl (take_ofW HT_.out HW_.out (by kernel_rfl)) (fun _ _ _ h => h) (Or.inl ⟨by rfl, ?_⟩) hHeld ?_ ?_
    rotate_left
    · rintro w' ⟨s0, s1⟩
      go_simp
      with_reducible rfl
    rotate_left
    · simp only [Act.put, List.setIfInBounds_toArray, List.set_cons_zero, List.set_cons_succ, i64_w, i32_w]
      rfl
    refine one_ (i := 9) (N := some 19) #[true, true, true, true, true, true, true, true, true, true, false] rfl rfl (one_of HT_.out (by kernel_rfl)) (by decide) (fun K hK => ?_)
    refine app_ints_step (w0 := w) (W := w6) (own := own4) (v := v7) (t := 5) (by rfl) (.tmp 10) (.tmp 18) rfl [] (rdL N.fst ((n : Int) - 1)) (A := Af) (m := (rdL N.fst ((n : Int) - 1)).length) (c := af) rfl rfl R5.out (Kd.R_reads' RF.out).2.2 L3.out (by have := HLK.out; unfold LIMK at this; simp only [List.length_nil]; omega) ?_
    intro v19 w7 own7 hv_ st_ hb_
    obtain ⟨s1, s2⟩ := hHeld
    have HS_ := Aside0.mk (show (fun w' => w'.cell? ⟨X, 2, none⟩ = some (.slice (some ⟨gf, 0, none⟩) N.fst.length cf) ∧ w'.cell? ⟨gf, n - 1, none⟩ = some (.slice Af (rdL N.fst ((n : Int) - 1)).length af)) w7 from ⟨st_.cell s1 (by rw [XO.out]; decide), st_.cell s2 (by rw [OF.out]; decide)⟩)
    have z0_ := Aside0.mk (st_.net N3.out mine5)
    have z1_ := Aside0.mk (hb_)
    have z2_ := Aside0.mk (hv_)
    clear N3 L3 R5
    have N3 := z0_
    have L3 := z1_
    have R5 := z2_
    clear z0_ z1_ z2_
    clear s1 s2 st_ hv_ hb_
    refine hK.out _ _ HS_.out (fun hHeld => ?_)
    clear hK K
    refine norm_ (a' := ?_) ?_ ?_
    rotate_left
    · show Act.put _ (some 19) _ = _
      simp only [Act.put, List.setIfInBounds_toArray, List.set_cons_zero, List.set_cons_succ, i64_w, i32_w]
      rfl
    clear HS_
    refine pure_ (i := 10) (N := some 5) (v := ?_) (a' := ?_) #[true, true, true, true, true, true, true, true, true, true, true] rfl rfl (any_of HT_.out (by kernel_rfl)) (fun _ _ _ h => h) (Or.inl ⟨by rfl, ?_⟩) ?_ ?_
    rotate_left
    · intro w'
      go_simp
      with_reducible rfl
    rotate_left
    · simp only [Act.put, List.setIfInBounds_toArray, List.set_cons_zero, List.set_cons_succ, i64_w, i32_w]
      rfl
    refine done_ (done_of HT_.out (by kernel_rfl)) ?_
    rw [List.nil_append] at R5
    go_wp2_with (first | ((with_reducible refine gate_callee (f := 44) rfl ?_); refine goesL_ (some 37) rfl rfl Try.func44 (by kernel_rfl) rfl #[v19] rfl (by (try simp only [List.map_toArray, List.map_cons, List.map_nil]); first | done | rfl) ?_; (with_reducible refine (sort_ints _ _ _ _ _ R5.out (by have := HLK.out; unfold LIMK at this; omega)).mono ?_); rintro e w9 ⟨rfl, hr_, hg_⟩; refine ⟨_, rfl, ?_⟩; have z0_ := Aside0.mk (grown_low L3.out hg_ R5.out); have z1_ := Aside0.mk (hr_); clear L3 R5; have L3 := z0_; have R5 := z1_; clear z0_ z1_; clear hr_ hg_))
    go_ret
    exact ⟨_, rfl, Kd.R_mono R5.out (fun _ _ => trivial), L3.out⟩
  · have hneg2 : decide (q < 0) = false := decide_eq_false hneg
    rw [show nextF N n q = Pure.MT.srt (rdL N.fol q) from if_neg hneg]
    have hqz : 0 ≤ q := by omega
    obtain ⟨g, c, b, e, hgc, hmc, hms, hmi⟩ := N3.out.map_at q hqz hq
    subst e
    obtain ⟨l, hlq⟩ : ∃ l, rdL N.fol q = l := ⟨_, rfl⟩
    rw [hlq]
    have hms2 : MapSet w b l := by rw [← hlq]; exact hms
    have og : own g = 4 := N3.out.wv_.1 g rfl
    have ob : own b = 8 := N3.out.m.own_ b (List.mem_of_getElem? hmi)
    have OG := Aside0.mk og
    have OB := Aside0.mk ob
    have HMS := Aside0.mk hms2
    clear hms hms2 hmi og ob hlq
    go_enter Try.func39, Try.ntmps39
    go_upto_region 5 with (first | ((with_reducible refine gate_dst (N := 7) rfl ?_); refine lit_ints (w0 := w) (W := w) (own := own) ?hg (N := 7) ?hd [] 5 ?hr L3.out (by simp) ?_; (case hd => rfl); (case hg => rfl); (case hr => first | (go_simp; done) | (go_simp; rfl)); intro v7 w4 own4 hv_ st_ hb_; have R5 := Aside0.mk hv_; have hc4 := st_.cell hmc (fun h => h); have OB4 := Aside0.mk ((st_.tag b HMS.out.lt (fun h => h)).trans OB.out); have HM4 := Aside0.mk (HMS.out.step (st_.blk b HMS.out.lt (fun h => h))); have z0_ := Aside0.mk (st_.net N3.out (fun _ _ h => h)); have z1_ := Aside0.mk (hb_); clear N3 L3; have N3 := z0_; have L3 := z1_; clear z0_ z1_; clear hv_ st_ hb_ hmc; obtain ⟨-, -, -, -, hx4, -⟩ := N3.out.cellAt) | (at_range; have L4_ := L3.out.size; refine set_range rfl _ rfl b l rfl HM4.out ?_; intro w5 hgo_ hg_ hsz_; have hb_ : Below w4.heap.size w4 w5 := ⟨hg_.os, hg_.tape, hg_.output, hg_.size, fun k hk => hg_.block k hk (by simp)⟩; obtain ⟨own5, ho9, hot⟩ := fresh_tag w4 own4 (Nat.le_refl w4.heap.size) 9; have st_ : Stp w4 w5 own4 own5 (fun _ => False) := Stp.fresh hb_ hot _; obtain ⟨r, hr9⟩ : ∃ r, w4.heap.size = r := ⟨_, rfl⟩; have GO := Aside0.mk hgo_; have O9 := Aside0.mk ho9; have OB5 := Aside0.mk ((st_.tag b HM4.out.lt (fun h => h)).trans OB4.out); have z0_ := Aside0.mk (st_.net N3.out (fun _ _ h => h)); have z1_ := Aside0.mk (below_step L3.out hb_); have z2_ := Aside0.mk (st_.row R5.out (fun h => h)); clear N3 L3 R5; have N3 := z0_; have L3 := z1_; have R5 := z2_; clear z0_ z1_ z2_; rw [hr9] at GO O9; have HR9 := Lib.hid hr9; have HW4 := Lib.hid L4_; clear L4_ hgo_ hg_ hsz_ hb_ hot st_ ho9 hx4 hc4))
    go_loopg [5] (w5.rangeLeft b r) (fun gg s5 wr => ∃ (done : List Int) (ow : Tags) (v : Value), s5 = v ∧ wr.rangeLeft b r ≤ gg ∧ Aside0 (Going wr b r l done) ∧ Aside0 (Kd.R (Kd.int .i64) 2 wr w.heap.size (fun k => ow k = 5) v done) ∧ Aside0 (ow r = 9) ∧ Aside0 (ow b = 8) ∧ Aside0 (Below w.heap.size w wr))
    case atStart => exact ⟨[], own5, v7, rfl, Nat.le_refl _, GO, R5, O9, OB5, L3⟩
    case round =>
      clear GO R5 O9 OB5 L3 N3
      obtain ⟨done, ow, v, rfl, hgg, GO, R5, O9, OB5, L3⟩ := hrel
      obtain ⟨Av, cv, e4⟩ := Kd.R_slice R5.out
      subst e4
      have HGG := Lib.hid hgg
      clear hgg
      go_wp2_with (at_next; refine set_next rfl _ rfl b r l done rfl GO.out ?_ ?_)
      · intro hall_ hnd_
        have HALL := Lib.hid hall_
        have HND := Aside0.mk hnd_
        clear hall_ hnd_
        go_wp2_with (first | ((with_reducible refine gate_callee (f := 44) rfl ?_); refine goesL_ (some 37) rfl rfl Try.func44 (by kernel_rfl) rfl #[.slice Av done.length cv] rfl (by (try simp only [List.map_toArray, List.map_cons, List.map_nil]); first | done | rfl) ?_; (with_reducible refine (sort_ints _ _ _ _ _ R5.out (by have := GO.out.small; omega)).mono ?_); rintro e w9 ⟨rfl, hr_, hg_⟩; refine ⟨_, rfl, ?_⟩; have z0_ := Aside0.mk (grown_low L3.out hg_ R5.out); have z1_ := Aside0.mk (hr_); clear L3 R5; have L3 := z0_; have R5 := z1_; clear z0_ z1_; clear hr_ hg_))
        go_ret
        exact ⟨_, rfl, by rw [← isort_srt HND.out HALL.out]; exact Kd.R_mono R5.out (fun _ _ => trivial), L3.out⟩
      · intro x cx w6 hxl hxd hx0 hx1 hgo_ hlt_ hg_ hsz_ hen_
        have st_ : Stp wr w6 ow ow (fun t => t = 9) := ⟨hg_.size, fun k hk hn => hg_.block k hk (fun e => hn (by injection e with e; rw [e]; exact O9.out)), fun _ _ _ => rfl⟩
        have z0_ := Aside0.mk (st_.row R5.out (by decide))
        have z1_ := Aside0.mk (pw_below_grown L3.out (some r) L3.out.size hg_ (fun k hk => by injection hk with hk; have := HR9.out; have := HW4.out; omega))
        have HLT := Lib.hid hlt_
        clear R5 L3 GO hg_ st_ hlt_ hxl hxd hsz_
        have R5 := z0_
        have L3 := z1_
        have GO := Aside0.mk hgo_
        clear z0_ z1_ hgo_
        go_wp2_with (first | ((with_reducible refine gate_dst (N := 34) rfl ?_); refine lit_one (W := w6) ?hg (N := 34) ?hd (.int .i64 x) 2 ?hr ?_; (case hd => rfl); (case hg => rfl); (case hr => first | (go_simp; done) | (go_simp; rfl)); intro g7 w7 hg7 hbk hb_; have HK7 := Aside0.mk hbk; have st_ : Stp w6 w7 ow ow (fun _ => False) := Stp.below hb_ _ _; have hq_ := GO.out.step (st_.blk b GO.out.set_.lt (fun h => h)) (st_.blk r (GO.out.rlt) (fun h => h)); have HLE7 := Lib.hid hq_.2; have z0_ := Aside0.mk (hq_.1); have z1_ := Aside0.mk (st_.row R5.out (fun h => h)); have z2_ := Aside0.mk (below_step L3.out hb_); clear GO R5 L3; have GO := z0_; have R5 := z1_; have L3 := z2_; clear z0_ z1_ z2_; clear hbk hg7 st_ hb_ hq_) | ((with_reducible refine gate_builtin (b := .append) (xs := #[.tmp 32, .tmp 34]) rfl ?_); at_builtin; refine app_ints (w0 := w) (W := w7) (own := ow) (v := .slice Av done.length cv) (t := 5) ?hg (.tmp 32) (.tmp 34) ?ho done [x] (A := some ⟨g7, 0, none⟩) (m := 1) (c := 1) ?hs ?hx R5.out (one_row HK7.out rfl) L3.out (by have := GO.out.small; rw [List.length_append] at this; omega) ?_; (case hg => rfl); (case ho => rfl); (case hs => rfl); (case hx => rfl); intro v35 w8 own8 hv_ st_ hb_; have hq_ := GO.out.step (st_.blk b GO.out.set_.lt (by rw [OB5.out]; decide)) (st_.blk r (GO.out.rlt) (by rw [O9.out]; decide)); have HLE := Lib.hid (hq_.2.trans HLE7.out); have z0_ := Aside0.mk ((st_.tag r GO.out.rlt (by rw [O9.out]; decide)).trans O9.out); have z1_ := Aside0.mk ((st_.tag b GO.out.set_.lt (by rw [OB5.out]; decide)).trans OB5.out); have z2_ := Aside0.mk (hv_); have z3_ := Aside0.mk (hb_); have z4_ := Aside0.mk (hq_.1); clear O9 OB5 R5 L3 GO; have O9 := z0_; have OB5 := z1_; have R5 := z2_; have L3 := z3_; have GO := z4_; clear z0_ z1_ z2_ z3_ z4_; clear hv_ st_ hb_ hq_))
        go_roundg (w8.rangeLeft b r)
        case measure => have := HLE.out; have := HLT.out; have := HGG.out; omega
        case rel => exact ⟨done ++ [x], own8, v35, rfl, Nat.le_refl _, GO, R5, O9, OB5, L3⟩
theorem drop_rd {l : List Int} {i : Nat} (h : i < l.length) : l.drop i = rd l (i : Int) :: l.drop (i + 1) := by
  rw [List.drop_eq_getElem_cons h]
  unfold rd
  rw [Int.toNat_natCast, List.getD_eq_getElem?_getD, List.getElem?_eq_getElem h]
  rfl
set_option maxHeartbeats 1000000 in
set_option maxRecDepth 100000 in
theorem index_ints (A0 : Option Addr) (c0 : Nat) (l : List Int) (x : Int) (w : World) (hr : Kd.C (Kd.int .i64) w A0 l.length l) (hc : l.length ≤ c0) :
    Calls Try.prog 87 #[.slice A0 l.length c0, .int .i64 x] w fun e w' => (∃ r : Int, e = .returned (.int .i64 r) ∧ (0 ≤ r ↔ x ∈ l)) ∧ w' = w := by
  have hm : l.length ≤ 9223372036854775807 := Kd.C_max hr
  obtain ⟨n, hn⟩ : ∃ n, l.length = n := ⟨_, rfl⟩
  have HR := Aside0.mk hr
  have HN := Aside0.mk hn
  rw [hn] at hc hm ⊢
  clear hn hr
  go_enter Try.func87, Try.ntmps87
  go_wp2
  go_loopg [8] n (fun gg s8 wr => ∃ i : Nat, i ≤ n ∧ n - i ≤ gg ∧ s8 = .int .i64 i ∧ Aside0 (x ∈ l ↔ x ∈ l.drop i) ∧ wr = w)
  case atStart => exact ⟨0, Nat.zero_le _, by omega, rfl, ⟨by rw [List.drop_zero]⟩, rfl⟩
  case round =>
    obtain ⟨i, hi, hg, rfl, GM, rfl⟩ := hrel
    by_cases hlt : i < n
    · have hlz : (i : Int) < (n : Int) := by omega
      have hiz : (0 : Int) ≤ (i : Int) := by omega
      have hl : i < l.length := by have := HN.out; omega
      obtain ⟨ad, e, hcell⟩ := Kd.at_int HR.out (i : Int) (by omega) (by omega)
      subst e
      rw [Int.toNat_natCast] at hcell
      have hd := drop_rd hl
      obtain ⟨y, hy⟩ : ∃ y, rd l (i : Int) = y := ⟨_, rfl⟩
      rw [hy] at hcell hd
      have HG := Aside0.mk hg
      have HD := Aside0.mk hd
      clear hy hd hg hl
      by_cases cx : x = y
      · have ex : (x == y) = true := beq_iff_eq.2 cx
        subst cx
        have HX := Aside0.mk (show x ∈ l by rw [GM.out, HD.out]; simp)
        go_wp2
        go_ret
        exact ⟨⟨i, rfl, by have := HX.out; simp [this]⟩, rfl⟩
      · have ex : (x == y) = false := beq_eq_false_iff_ne.2 cx
        have HM := Aside0.mk (show x ∈ l ↔ x ∈ l.drop (i + 1) by
          rw [GM.out, HD.out, List.mem_cons]
          constructor
          · rintro (h | h)
            · exact absurd h cx
            · exact h
          · exact .inr)
        go_wp2
        go_roundg (n - (i + 1))
        case measure => have := HG.out; omega
        case rel => exact ⟨i + 1, by omega, by omega, by go_num, HM, rfl⟩
    · have hlz : ¬ ((i : Int) < (n : Int)) := by omega
      have : i = n := by omega
      subst this
      have HX := Aside0.mk (show x ∉ l by rw [GM.out, ← HN.out, List.drop_length]; simp)
      go_wp2
      go_ret
      exact ⟨⟨-1, rfl, by have := HX.out; simp [this]⟩, rfl⟩
set_option maxHeartbeats 1000000 in
set_option maxRecDepth 100000 in
theorem contains_ints (A0 : Option Addr) (c0 : Nat) (l : List Int) (x : Int) (w : World) (hr : Kd.C (Kd.int .i64) w A0 l.length l) (hc : l.length ≤ c0) :
    Calls Try.prog 71 #[.slice A0 l.length c0, .int .i64 x] w fun e w' => e = .returned (.bool (decide (x ∈ l))) ∧ w' = w := by
  have HR := Aside0.mk hr
  have HC := Aside0.mk hc
  clear hr hc
  go_enter Try.func71, Try.ntmps71
  go_wp2_with (first | ((with_reducible refine gate_callee (f := 87) rfl ?_); refine goesL_ (some 7) rfl rfl Try.func87 (by kernel_rfl) rfl #[.slice A0 l.length c0, .int .i64 x] rfl (by (try simp only [List.map_toArray, List.map_cons, List.map_nil]); first | done | rfl) ?_; (with_reducible refine (index_ints A0 c0 l x _ HR.out HC.out).mono ?_); rintro e w' ⟨⟨r, rfl, hrx⟩, rfl⟩; refine ⟨_, rfl, ?_⟩; have HX := Aside0.mk hrx; clear hrx))
  go_ret
  exact ⟨by rw [show decide (x ∈ l) = decide (0 ≤ r) from decide_eq_decide.2 HX.out.symm]; first | done | rfl, rfl⟩
def takesB (p : List (S49)) (k : Int) (nm : ByteArray) : Bool := ((rd_T49 p k).f0 == 4) || ((rd_T49 p k).f1.toList == nm.toList)
set_option maxHeartbeats 2000000 in
set_option maxRecDepth 100000 in
theorem net_takes (w0 w : World) (X : Nat) (own : Tags) (nv fv lv wv : Value) (N : NetV) (ms : List Nat) (A0 : Option Addr) (n c0 : Nat) (l0 : List (S49)) (a : Int) (nm : ByteArray)
    (hN : NetW w w0.heap.size X own (.slice A0 n c0) nv fv lv wv N ms) (hR : Kd.C k49 w A0 l0.length l0) (hn : l0.length = n) (h0 : 0 ≤ a) (h1 : a < (n : Int)) :
    Calls Try.prog 70 #[.pointer (some ⟨X, 0, none⟩), .int .i64 a, .string nm] w fun e w' => e = .returned (.bool (takesB l0 a nm)) ∧ w' = w := by
  obtain ⟨ad, Aa, ca, e1, ha0_, ha1_, -, -, -, -⟩ := at_T49 hR a h0 (by rw [hn]; exact h1)
  subst e1
  obtain ⟨ka, hka⟩ : ∃ ka, (rd_T49 l0 a).f0 = ka := ⟨_, rfl⟩
  obtain ⟨na, hna⟩ : ∃ na, (rd_T49 l0 a).f1 = na := ⟨_, rfl⟩
  rw [hka] at ha0_
  rw [hna] at ha1_
  have HT := Aside0.mk (show takesB l0 a nm = ((ka == 4) || (na.toList == nm.toList)) by unfold takesB; rw [hka, hna])
  obtain ⟨hx0, -, -, -, -, -⟩ := hN.cellAt
  have hm0 : n ≤ 9223372036854775807 := by have := Kd.C_max hR; omega
  clear hka hna hN hR
  by_cases ca : ka = 4
  · have ea : (ka == 4) = true := beq_iff_eq.2 ca
    subst ca
    go_enter Try.func70, Try.ntmps70
    go_wp2
    go_ret
    exact ⟨by rw [HT.out]; rfl, rfl⟩
  · have ea : (ka == 4) = false := beq_eq_false_iff_ne.2 ca
    go_enter Try.func70, Try.ntmps70
    go_wp2
    go_ret
    exact ⟨by rw [HT.out, ea]; rfl, rfl⟩
/-- What follows one node is in the row's bounds. -/
def inB (n : Nat) (l : List Int) : Prop := ∀ a ∈ l, 0 ≤ a ∧ a < (n : Int)
instance (n : Nat) (l : List Int) : Decidable (inB n l) := inferInstanceAs (Decidable (∀ a ∈ l, 0 ≤ a ∧ a < (n : Int)))
theorem inB.at_ {n : Nat} {l : List Int} (h : inB n l) : ∀ a ∈ l, 0 ≤ a ∧ a < (n : Int) := h
def addK (p : List (S49)) (nm : ByteArray) (out : List Int) (k : Int) : List Int := if takesB p k nm && !decide (k ∈ out) then out ++ [k] else out
def stepRow (p : List (S49)) (N : NetV) (n : Nat) (nm : ByteArray) (out : List Int) (q : Int) : List Int := (nextF N n q).foldl (addK p nm) out
def stepF (p : List (S49)) (N : NetV) (n : Nat) (nm : ByteArray) (from_ : List Int) : List Int := isort (from_.foldl (stepRow p N n nm) [])
def sumN (N : NetV) (n : Nat) : List Int → Nat
  | [] => 0
  | q :: l => (nextF N n q).length + sumN N n l
/-- The blocks of a row that a call made get a tag. -/
theorem tag_row {W w1 : World} {v : Value} {xs : List Int} (t : Nat) (own : Tags) (h : Kd.R (Kd.int .i64) 2 w1 W.heap.size (fun _ => True) v xs) :
    ∃ own' : Tags, Kd.R (Kd.int .i64) 2 w1 W.heap.size (fun k => own' k = t) v xs ∧ ∀ k, k < W.heap.size → own' k = own k :=
  ⟨fun k => if k < W.heap.size then own k else t, Kd.R_mono (Kd.R_bound h) (fun k hk => if_neg (by have := hk.2.1; omega)), fun k hk => if_pos hk⟩
def StepPost (w : World) (r : List Int) (e : Ending) (w' : World) : Prop := ∃ v, e = .returned v ∧ Kd.R (Kd.int .i64) 2 w' w.heap.size (fun _ => True) v r ∧ Below w.heap.size w w'
set_option maxHeartbeats 4000000 in
set_option maxRecDepth 100000 in
theorem net_step (w0 w : World) (X : Nat) (own : Tags) (nv fv lv wv : Value) (N : NetV) (ms : List Nat) (A0 : Option Addr) (n c0 : Nat) (l0 : List (S49)) (A1 : Option Addr) (c1 : Nat) (from_ : List Int) (nm : ByteArray)
    (hN : NetW w w0.heap.size X own (.slice A0 n c0) nv fv lv wv N ms) (hR : Kd.C k49 w A0 l0.length l0) (hn : l0.length = n) (h1 : Kd.C (Kd.int .i64) w A1 from_.length from_) (hc1 : from_.length ≤ c1)
    (h0 : 0 < n) (hf : N.fst.length = n) (hl : ∀ l ∈ N.fst, l.length < LIMK) (hq : ∀ q ∈ from_, q < (N.fol.length : Int) ∧ inB n (nextF N n q)) (hs : sumN N n from_ < LIMK) :
    Calls Try.prog 54 #[.pointer (some ⟨X, 0, none⟩), .slice A1 from_.length c1, .string nm] w (StepPost w (stepF l0 N n nm from_)) := by
  have N3 := Aside0.mk hN
  have HR := Aside0.mk hR
  have H1 := Aside0.mk h1
  have HE := Aside0.mk hn
  have L3 := Aside0.mk (Below.refl w.heap.size w)
  have hm1 : from_.length ≤ 9223372036854775807 := Kd.C_max h1
  have HM := Aside0.mk (show n ≤ 9223372036854775807 by have := Kd.C_max hR; omega)
  have H0 := Lib.hid h0
  have HFL := Aside0.mk hf
  have HLL := Aside0.mk hl
  have HQA := Aside0.mk hq
  have HSA := Aside0.mk hs
  clear hN hR h1 hn h0 hf hl hq hs
  obtain ⟨n1, hn1⟩ : ∃ n, from_.length = n := ⟨_, rfl⟩
  rw [hn1] at hc1 hm1 ⊢
  have HN1 := Aside0.mk hn1
  clear hn1
  go_enter Try.func54, Try.ntmps54
  go_wp2_with (first | ((with_reducible refine gate_dst (N := 12) rfl ?_); refine lit_ints (w0 := w) (W := w) (own := own) ?hg (N := 12) ?hd [] 5 ?hr L3.out (by simp) ?_; (case hd => rfl); (case hg => rfl); (case hr => first | (go_simp; done) | (go_simp; rfl)); intro v7 w4 own4 hv_ st_ hb_; obtain ⟨Ao, co, eo⟩ := Kd.R_slice hv_; subst eo; have R5 := Aside0.mk hv_; have z0_ := Aside0.mk (st_.net N3.out (fun _ _ h => h)); have z1_ := Aside0.mk (hb_); clear N3 L3; have N3 := z0_; have L3 := z1_; clear z0_ z1_; clear hv_ st_ hb_))
  go_loopg [7, 15] n1 (fun gg s7 s15 wr => ∃ (i : Nat) (ow : Tags) (v : Value) (out : List Int), i ≤ n1 ∧ n1 - i ≤ gg ∧ s7 = v ∧ s15 = .int .i64 i ∧ Aside0 ((from_.take i).foldl (stepRow l0 N n nm) [] = out) ∧ Aside0 (out.length + sumN N n (from_.drop i) < LIMK) ∧ Aside0 (Kd.R (Kd.int .i64) 2 wr w.heap.size (fun k => ow k = 5) v out) ∧ Aside0 (NetW wr w0.heap.size X ow (.slice A0 n c0) nv fv lv wv N ms) ∧ Aside0 (Below w.heap.size w wr))
  case atStart => exact ⟨0, own4, _, [], Nat.zero_le _, by omega, rfl, rfl, ⟨rfl⟩, ⟨by rw [List.drop_zero]; have := HSA.out; simp only [List.length_nil]; omega⟩, R5, N3, L3⟩
  case round =>
    obtain ⟨i, ow, v, out, hi, hg, rfl, rfl, GE, HS, R5', N3', L3'⟩ := hrel
    clear R5 N3 L3
    have R5 := R5'
    have N3 := N3'
    have L3 := L3'
    clear R5' N3' L3'
    obtain ⟨Ap, cp, eo⟩ := Kd.R_slice R5.out
    subst eo
    by_cases hlt : i < n1
    · have hlz : (i : Int) < (n1 : Int) := by omega
      have hl : i < from_.length := by have := HN1.out; omega
      obtain ⟨ad1, e, hcell⟩ := Kd.at_int H1.out (i : Int) (by omega) (by omega)
      subst e
      rw [Int.toNat_natCast] at hcell
      replace hcell := (L3.out.cell (World.block_lt_of_cell? w _ hcell)).trans hcell
      have hmem : rd from_ (i : Int) ∈ from_ := by unfold rd; rw [Int.toNat_natCast, List.getD_eq_getElem?_getD, List.getElem?_eq_getElem hl]; exact List.getElem_mem hl
      have HQ := Aside0.mk (HQA.out _ hmem)
      have hd := drop_rd hl
      have ht := take_snoc hl
      obtain ⟨q, hq⟩ : ∃ q, rd from_ (i : Int) = q := ⟨_, rfl⟩
      rw [hq] at hcell HQ hd ht
      have HG := Aside0.mk hg
      have HD := Aside0.mk hd
      have HT := Aside0.mk ht
      have HLI := Aside0.mk hl
      have HS2 := Aside0.mk (show out.length + ((nextF N n q).length + sumN N n (from_.drop (i + 1))) < LIMK by have h_ := HS.out; rw [hd] at h_; exact h_)
      clear hmem hq hd ht hg hl HS
      go_wp2_with (first | ((with_reducible refine gate_callee (f := 39) rfl ?_); refine goesL_ (some 21) rfl rfl Try.func39 (by kernel_rfl) rfl #[.pointer (some ⟨X, 0, none⟩), .int .i64 q] rfl (by (try simp only [List.map_toArray, List.map_cons, List.map_nil]); first | done | rfl) ?_; (with_reducible refine (net_next _ _ X ow nv fv lv wv N ms _ n c0 q N3.out HM.out H0.out HFL.out HLL.out HQ.out.1).mono ?_); rintro e w5 ⟨vr, rfl, hr_, hb_⟩; refine ⟨_, rfl, ?_⟩; obtain ⟨Av, av, ev⟩ := Kd.R_slice hr_; subst ev; obtain ⟨ow6, hr6, hot⟩ := tag_row 6 ow hr_; have st_ := Stp.fresh hb_ hot (fun _ => False); have R6 := Aside0.mk (Kd.R_lower hr6 L3.out.size); have z0_ := Aside0.mk (st_.net N3.out (fun _ _ h => h)); have z1_ := Aside0.mk (below_step L3.out hb_); have z2_ := Aside0.mk (st_.row R5.out (fun h => h)); clear N3 L3 R5; have N3 := z0_; have L3 := z1_; have R5 := z2_; clear z0_ z1_ z2_; clear hb_ hr_ st_ hr6 hot))
      obtain ⟨m, hm⟩ : ∃ m, (nextF N n q).length = m := ⟨_, rfl⟩
      have HMM := Aside0.mk hm
      have hmm : m ≤ 9223372036854775807 := by have := HS2.out; unfold LIMK at this; omega
      rw [hm]
      clear hm
      go_loopg [7, 23] m (fun gg s7 s23 wr => ∃ (j : Nat) (ow : Tags) (v : Value) (out' : List Int), j ≤ m ∧ m - j ≤ gg ∧ s7 = v ∧ s23 = .int .i64 j ∧ Aside0 (((nextF N n q).take j).foldl (addK l0 nm) out = out') ∧ Aside0 (out'.length + ((m - j) + sumN N n (from_.drop (i + 1))) < LIMK) ∧ Aside0 (Kd.R (Kd.int .i64) 2 wr w.heap.size (fun k => ow k = 5) v out') ∧ Aside0 (Kd.R (Kd.int .i64) 2 wr w.heap.size (fun k => ow k = 6) (.slice Av m av) (nextF N n q)) ∧ Aside0 (NetW wr w0.heap.size X ow (.slice A0 n c0) nv fv lv wv N ms) ∧ Aside0 (Below w.heap.size w wr))
      case atStart => exact ⟨0, ow6, _, out, Nat.zero_le _, by omega, rfl, rfl, ⟨rfl⟩, ⟨by have h_ := HS2.out; have e_ := HMM.out; omega⟩, R5, ⟨by have h_ := R6.out; rw [HMM.out] at h_; exact h_⟩, N3, L3⟩
      case round =>
        obtain ⟨j, ow, v, out', hj, hg2, rfl, rfl, GE2, HS3, R5', R6', N3', L3'⟩ := hrel
        clear R5 R6 N3 L3
        have R5 := R5'
        have R6 := R6'
        have N3 := N3'
        have L3 := L3'
        clear R5' R6' N3' L3'
        obtain ⟨Aq, cq, eo⟩ := Kd.R_slice R5.out
        subst eo
        by_cases hlt2 : j < m
        · have hlz2 : (j : Int) < (m : Int) := by omega
          have hl2 : j < (nextF N n q).length := by have := HMM.out; omega
          have hC6 : Kd.C (Kd.int .i64) wr Av m (nextF N n q) := by have h_ := (Kd.R_reads' R6.out).2.2; first | exact h_ | (rw [HMM.out] at h_; exact h_)
          obtain ⟨ad2, e, hcell2⟩ := Kd.at_int hC6 (j : Int) (by omega) (by omega)
          subst e
          rw [Int.toNat_natCast] at hcell2
          have hmem2 : rd (nextF N n q) (j : Int) ∈ nextF N n q := by unfold rd; rw [Int.toNat_natCast, List.getD_eq_getElem?_getD, List.getElem?_eq_getElem hl2]; exact List.getElem_mem hl2
          have HA := Aside0.mk (HQ.out.2.at_ _ hmem2)
          have ht2 := take_snoc hl2
          obtain ⟨a, ha⟩ : ∃ a, rd (nextF N n q) (j : Int) = a := ⟨_, rfl⟩
          rw [ha] at hcell2 HA ht2
          have HG2 := Aside0.mk hg2
          have HT2 := Aside0.mk ht2
          clear hmem2 ha ht2 hg2 hl2 hC6
          obtain ⟨tk, htk⟩ : ∃ tk, takesB l0 a nm = tk := ⟨_, rfl⟩
          have HTK := Aside0.mk htk
          clear htk
          obtain ⟨cn, hcn⟩ : ∃ cn, decide (a ∈ out') = cn := ⟨_, rfl⟩
          have HCN := Aside0.mk hcn
          clear hcn
          have HAD := Aside0.mk (show addK l0 nm out' a = if (tk && !cn) = true then out' ++ [a] else out' by unfold addK; rw [HTK.out, HCN.out])
          cases tk with
          | false =>
            go_wp2_with (first | ((with_reducible refine gate_callee (f := 70) rfl ?_); refine goesL_ (some 30) rfl rfl Try.func70 (by kernel_rfl) rfl #[.pointer (some ⟨X, 0, none⟩), .int .i64 a, .string nm] rfl (by (try simp only [List.map_toArray, List.map_cons, List.map_nil]); first | done | rfl) ?_; (with_reducible refine (net_takes w0 _ X ow nv fv lv wv N ms _ n c0 l0 a nm N3.out (Kd.C_below HR.out L3.out) HE.out HA.out.1 HA.out.2).mono ?_); rintro e wt ⟨rfl, hw_⟩; have hw2_ := hw_.symm; subst hw2_; clear hw_; refine ⟨_, rfl, ?_⟩; rw [HTK.out]))
            go_roundg (m - (j + 1))
            case measure => have := HG2.out; omega
            case rel =>
              refine ⟨j + 1, ow, _, out', by omega, by omega, rfl, by go_num, ⟨?_⟩, ⟨?_⟩, R5, R6, N3, L3⟩
              · rw [HT2.out, List.foldl_append, GE2.out]
                show addK l0 nm out' a = _
                rw [HAD.out]
                rfl
              · have h_ := HS3.out
                omega
          | true =>
            cases cn with
            | true =>
              go_wp2_with (first | ((with_reducible refine gate_callee (f := 70) rfl ?_); refine goesL_ (some 30) rfl rfl Try.func70 (by kernel_rfl) rfl #[.pointer (some ⟨X, 0, none⟩), .int .i64 a, .string nm] rfl (by (try simp only [List.map_toArray, List.map_cons, List.map_nil]); first | done | rfl) ?_; (with_reducible refine (net_takes w0 _ X ow nv fv lv wv N ms _ n c0 l0 a nm N3.out (Kd.C_below HR.out L3.out) HE.out HA.out.1 HA.out.2).mono ?_); rintro e wt ⟨rfl, hw_⟩; have hw2_ := hw_.symm; subst hw2_; clear hw_; refine ⟨_, rfl, ?_⟩; rw [HTK.out]) | (go_at_call 71; (with_reducible refine (contains_ints _ _ out' a _ (Kd.R_reads' R5.out).2.2 (Kd.R_reads' R5.out).2.1).mono ?_); rintro e wt ⟨rfl, hw_⟩; have hw2_ := hw_.symm; subst hw2_; clear hw_; rw [HCN.out]))
              go_roundg (m - (j + 1))
              case measure => have := HG2.out; omega
              case rel =>
                refine ⟨j + 1, ow, _, out', by omega, by omega, rfl, by go_num, ⟨?_⟩, ⟨?_⟩, R5, R6, N3, L3⟩
                · rw [HT2.out, List.foldl_append, GE2.out]
                  show addK l0 nm out' a = _
                  rw [HAD.out]
                  rfl
                · have h_ := HS3.out
                  omega
            | false =>
              go_wp2_with (first | ((with_reducible refine gate_callee (f := 70) rfl ?_); refine goesL_ (some 30) rfl rfl Try.func70 (by kernel_rfl) rfl #[.pointer (some ⟨X, 0, none⟩), .int .i64 a, .string nm] rfl (by (try simp only [List.map_toArray, List.map_cons, List.map_nil]); first | done | rfl) ?_; (with_reducible refine (net_takes w0 _ X ow nv fv lv wv N ms _ n c0 l0 a nm N3.out (Kd.C_below HR.out L3.out) HE.out HA.out.1 HA.out.2).mono ?_); rintro e wt ⟨rfl, hw_⟩; have hw2_ := hw_.symm; subst hw2_; clear hw_; refine ⟨_, rfl, ?_⟩; rw [HTK.out]) | (go_at_call 71; (with_reducible refine (contains_ints _ _ out' a _ (Kd.R_reads' R5.out).2.2 (Kd.R_reads' R5.out).2.1).mono ?_); rintro e wt ⟨rfl, hw_⟩; have hw2_ := hw_.symm; subst hw2_; clear hw_; rw [HCN.out]) | ((with_reducible refine gate_dst (N := 39) rfl ?_); refine lit_one (W := wr) ?hg (N := 39) ?hd (.int .i64 a) 2 ?hr ?_; (case hd => rfl); (case hg => rfl); (case hr => first | (go_simp; done) | (go_simp; rfl)); intro g7 w7 hg7 hbk hb_; have HK7 := Aside0.mk hbk; have st_ : Stp wr w7 ow ow (fun _ => False) := Stp.below hb_ _ _; have z0_ := Aside0.mk (st_.net N3.out (fun _ _ h => h)); have z1_ := Aside0.mk (st_.row R5.out (fun h => h)); have z2_ := Aside0.mk (st_.row R6.out (fun h => h)); have z3_ := Aside0.mk (below_step L3.out hb_); clear N3 R5 R6 L3; have N3 := z0_; have R5 := z1_; have R6 := z2_; have L3 := z3_; clear z0_ z1_ z2_ z3_; clear hbk hg7 st_ hb_) | ((with_reducible refine gate_builtin (b := .append) (xs := #[.tmp 37, .tmp 39]) rfl ?_); at_builtin; refine app_ints (w0 := w) (W := w7) (own := ow) (v := .slice Aq out'.length cq) (t := 5) ?hg (.tmp 37) (.tmp 39) ?ho out' [a] (A := some ⟨g7, 0, none⟩) (m := 1) (c := 1) ?hs ?hx R5.out (one_row HK7.out rfl) L3.out (by have := HS3.out; unfold LIMK at this; omega) ?_; (case hg => rfl); (case ho => rfl); (case hs => rfl); (case hx => rfl); intro v35 w8 own8 hv_ st_ hb_; have z0_ := Aside0.mk (st_.net N3.out (by intro t ht h; subst h; unfold Mine at ht; omega)); have z1_ := Aside0.mk (hv_); have z2_ := Aside0.mk (st_.row R6.out (by decide)); have z3_ := Aside0.mk (hb_); clear N3 R5 R6 L3; have N3 := z0_; have R5 := z1_; have R6 := z2_; have L3 := z3_; clear z0_ z1_ z2_ z3_; clear hv_ st_ hb_))
              go_roundg (m - (j + 1))
              case measure => have := HG2.out; omega
              case rel =>
                refine ⟨j + 1, own8, _, out' ++ [a], by omega, by omega, rfl, by go_num, ⟨?_⟩, ⟨?_⟩, R5, R6, N3, L3⟩
                · rw [HT2.out, List.foldl_append, GE2.out]
                  show addK l0 nm out' a = _
                  rw [HAD.out]
                  rfl
                · have h_ := HS3.out
                  simp only [List.length_append, List.length_singleton]
                  omega
        · have hlz2 : ¬ ((j : Int) < (m : Int)) := by omega
          have : j = m := by omega
          subst this
          have hgo : stepRow l0 N n nm out q = out' := by
            unfold stepRow
            have h_ := GE2.out
            rw [List.take_of_length_le (by have := HMM.out; omega)] at h_
            exact h_
          have HGO := Aside0.mk hgo
          clear hgo
          go_wp2
          go_roundg (n1 - (i + 1))
          case measure => have := HG.out; omega
          case rel =>
            refine ⟨i + 1, ow, _, out', by omega, by omega, rfl, by go_num, ⟨?_⟩, ⟨?_⟩, R5, N3, L3⟩
            · rw [HT.out, List.foldl_append, GE.out]
              exact HGO.out
            · have h_ := HS3.out
              omega
    · have hlz : ¬ ((i : Int) < (n1 : Int)) := by omega
      have : i = n1 := by omega
      subst this
      have hgo : stepF l0 N n nm from_ = isort out := by
        unfold stepF
        have h_ := GE.out
        rw [List.take_of_length_le (by have := HN1.out; omega)] at h_
        rw [h_]
      have HGO := Aside0.mk hgo
      clear hgo
      go_wp2_with (first | ((with_reducible refine gate_callee (f := 44) rfl ?_); refine goesL_ (some 44) rfl rfl Try.func44 (by kernel_rfl) rfl #[.slice Ap out.length cp] rfl (by (try simp only [List.map_toArray, List.map_cons, List.map_nil]); first | done | rfl) ?_; (with_reducible refine (sort_ints _ _ _ _ _ R5.out (by have := HS.out; unfold LIMK at this; omega)).mono ?_); rintro e w9 ⟨rfl, hr_, hg_⟩; refine ⟨_, rfl, ?_⟩; have z0_ := Aside0.mk (grown_low L3.out hg_ R5.out); have z1_ := Aside0.mk (hr_); clear L3 R5; have L3 := z0_; have R5 := z1_; clear z0_ z1_; clear hr_ hg_))
      go_ret
      exact ⟨_, rfl, by rw [HGO.out]; exact Kd.R_mono R5.out (fun _ _ => trivial), L3.out⟩
def may_end.T4 : Bool × List (List Nat × List Nat) := (true, [([], []), ([0], [0]), ([1], [1]), ([2], [2]), ([3, 2], [2, 3]), ([4, 2], [2, 4]), ([5, 2], [2, 5]), ([2], [2]), ([7, 2, 2], [2, 7]), ([6, 8, 2], [2, 6, 8]), ([9, 2], [2, 9]), ([2, 10], [2, 10]), ([11, 8], [11]), ([12], [12]), ([13, 12], [12, 13]), ([14, 12, 12], [12, 14]), ([15], [15]), ([16, 15], [15, 16]), ([17, 15], [15, 17]), ([18, 15], [15, 18]), ([15], [15]), ([20, 15, 15], [15, 20]), ([19, 21, 15], [15, 19, 21]), ([22, 15], [15, 22]), ([15], [15]), ([23, 24, 21, 15], [15, 23, 24]), ([15, 25, 12], [12, 15, 25]), ([12, 26], [12, 26])])
def may_end.B4 : List Nat := [0, 1, 3, 7, 15, 31, 63, 7, 135, 511, 1023, 2047, 4095, 8191, 16383, 32767, 65535, 131071, 262143, 524287, 65535, 1114111, 4194303, 8388607, 65535, 33554431, 67108863, 134217727]
theorem may_end.tab4 : rtab .any (opsOf Try.f56 4) = may_end.T4 := by kernel_rfl
theorem may_end.bits4 : waitsOk may_end.T4.2 may_end.B4 = true := by kernel_rfl

def endB (N : NetV) (n : Nat) (q : Int) : Bool := if q < 0 then rdOf false N.nul ((n : Int) - 1) else decide (q ∈ rdL N.lst ((n : Int) - 1))
def mayF (N : NetV) (n : Nat) (l : List Int) : Bool := l.any (endB N n)
set_option maxHeartbeats 4000000 in
set_option maxRecDepth 100000 in
theorem net_mayend (w0 w : World) (X : Nat) (own : Tags) (nv fv lv wv : Value) (N : NetV) (ms : List Nat) (A0 : Option Addr) (n c0 : Nat) (A1 : Option Addr) (c1 : Nat) (l : List Int)
    (hN : NetW w w0.heap.size X own (.slice A0 n c0) nv fv lv wv N ms) (hm : n ≤ 9223372036854775807) (h0 : 0 < n) (h1 : Kd.C (Kd.int .i64) w A1 l.length l) (hc1 : l.length ≤ c1)
    (hnu : N.nul.length = n) (hfi : N.fst.length = n) (hla : N.lst.length = n) :
    Calls Try.prog 56 #[.pointer (some ⟨X, 0, none⟩), .slice A1 l.length c1] w fun e w' => e = .returned (.bool (mayF N n l)) ∧ Below w.heap.size w w' := by
  have N3 := Aside0.mk hN
  have H1 := Aside0.mk h1
  have HM := Aside0.mk hm
  have H0 := Lib.hid h0
  have HNU := Aside0.mk hnu
  have HFI := Aside0.mk hfi
  have HLA := Aside0.mk hla
  have L3 := Aside0.mk (Below.refl w.heap.size w)
  have hm1 : l.length ≤ 9223372036854775807 := Kd.C_max h1
  clear hN h1 hm h0 hnu hfi hla
  obtain ⟨n1, hn1⟩ : ∃ n, l.length = n := ⟨_, rfl⟩
  rw [hn1] at hc1 hm1 ⊢
  have HN1 := Aside0.mk hn1
  clear hn1
  go_enter Try.func56, Try.ntmps56
  go_wp2
  go_loopg [9] n1 (fun gg s9 wr => ∃ i : Nat, i ≤ n1 ∧ n1 - i ≤ gg ∧ s9 = .int .i64 i ∧ Aside0 (mayF N n l = (l.drop i).any (endB N n)) ∧ Aside0 (NetW wr w0.heap.size X own (.slice A0 n c0) nv fv lv wv N ms) ∧ Aside0 (Below w.heap.size w wr))
  case atStart => exact ⟨0, Nat.zero_le _, by omega, rfl, ⟨rfl⟩, N3, L3⟩
  case round =>
    obtain ⟨i, hi, hg, rfl, GQ, N3', L3'⟩ := hrel
    clear N3 L3
    have N3 := N3'
    have L3 := L3'
    clear N3' L3'
    by_cases hlt : i < n1
    · have hlz : (i : Int) < (n1 : Int) := by omega
      have hl : i < l.length := by have := HN1.out; omega
      obtain ⟨ad1, e, hcell⟩ := Kd.at_int H1.out (i : Int) (by omega) (by omega)
      subst e
      rw [Int.toNat_natCast] at hcell
      replace hcell := (L3.out.cell (World.block_lt_of_cell? w _ hcell)).trans hcell
      have hd := drop_rd hl
      obtain ⟨q, hq⟩ : ∃ q, rd l (i : Int) = q := ⟨_, rfl⟩
      rw [hq] at hcell hd
      have HG := Aside0.mk hg
      have HD := Aside0.mk (show mayF N n l = (endB N n q || (l.drop (i + 1)).any (endB N n)) by rw [GQ.out, hd, List.any_cons])
      clear hq hd hg hl GQ
      obtain ⟨gn, cn, gf, cf, Af, af, gl, cl, Al, al, e1, hcn, hon, e2, hcf, hof, HRf, e3, hcl, hol, HRl⟩ := N3.out.kid ((n : Int) - 1) (by have := H0.out; omega) (by have := HNU.out; have := H0.out; omega) (by have := HFI.out; have := H0.out; omega) (by have := HLA.out; have := H0.out; omega)
      obtain ⟨-, hx1, -, hx3, -, -⟩ := N3.out.cellAt
      rw [e1] at hx1
      rw [e3] at hx3
      obtain ⟨bn, hbn⟩ : ∃ bn, rdOf false N.nul ((n : Int) - 1) = bn := ⟨_, rfl⟩
      rw [hbn] at hcn
      rw [show ((n : Int) - 1).toNat = n - 1 by omega] at hcn hcl
      have HBN := Aside0.mk hbn
      have RL := Aside0.mk (Kd.R_mono (ok' := fun k => own k = 3) HRl (fun _ h => h))
      have hnz1 : (1 : Int) ≤ (n : Int) := by have := H0.out; omega
      have hnz : (0 : Int) ≤ (n : Int) - 1 := by omega
      have hnn : ((n : Int) - 1 : Int) < (N.nul.length : Int) := by have := HNU.out; omega
      have hnl : ((n : Int) - 1 : Int) < (N.lst.length : Int) := by have := HLA.out; omega
      clear hcf hof HRf hon hol hbn HRl
      go_upto_region 4 with (fail)
      by_cases cq : q < 0
      · have ed : decide (q < 0) = true := decide_eq_true cq
        have ed2 : decide (q ≥ 0) = false := decide_eq_false (by omega)
        have HEB := Aside0.mk (show endB N n q = bn by unfold endB; rw [if_pos cq]; exact HBN.out)
        cases bn with
        | true =>
          have z0_ := Aside0.mk (N3.out.drew)
          have z1_ := Aside0.mk (below_drew1 L3.out)
          have z2_ := Aside0.mk (Kd.R_drew RL.out)
          clear N3 L3 RL
          have N3 := z0_
          have L3 := z1_
          have RL := z2_
          clear z0_ z1_ z2_
          refine start_ (n := 28) (S := fun w' => w'.cell? ⟨X, 1, none⟩ = some (.slice (some ⟨gn, 0, none⟩) N.nul.length cn) ∧ w'.cell? ⟨X, 3, none⟩ = some (.slice (some ⟨gl, 0, none⟩) N.lst.length cl) ∧ w'.cell? ⟨gn, n - 1, none⟩ = some (.bool true) ∧ w'.cell? ⟨gl, n - 1, none⟩ = some (.slice Al (rdL N.lst ((n : Int) - 1)).length al)) (ds := []) #[false, false, false, false, false, false, false, false, false, false, false, false, false, false, false, false, false, false, false, false, false, false, false, false, false, false, false, false] (by kernel_rfl) rfl rfl ⟨hx1, hx3, hcn, hcl⟩ (fun hHeld => ?_); refine with_tabW may_end.tab4 may_end.bits4 (fun HT_ HW_ => ?_)
          clear hx1 hx3 hcn hcl
          generalize wr.drew = wq at N3 L3 RL hHeld ⊢
          refine pure_ (i := 0) (N := some 13) (v := ?_) (a' := ?_) #[true, false, false, false, false, false, false, false, false, false, false, false, false, false, false, false, false, false, false, false, false, false, false, false, false, false, false, false] rfl rfl (any_of HT_.out (by kernel_rfl)) (fun _ _ _ h => h) (Or.inl ⟨by rfl, ?_⟩) ?_ ?_
          rotate_left
          · intro w'
            go_simp
            with_reducible rfl
          rotate_left
          · simp only [Act.put, List.setIfInBounds_toArray, List.set_cons_zero, List.set_cons_succ, i64_w, i32_w]
            rfl
          refine pure_ (i := 1) (N := some 14) (v := ?_) (a' := ?_) #[true, true, false, false, false, false, false, false, false, false, false, false, false, false, false, false, false, false, false, false, false, false, false, false, false, false, false, false] rfl rfl (any_of HT_.out (by kernel_rfl)) (fun _ _ _ h => h) (Or.inl ⟨by rfl, ?_⟩) ?_ ?_
          rotate_left
          · intro w'
            go_simp
            with_reducible rfl
          rotate_left
          · simp only [Act.put, List.setIfInBounds_toArray, List.set_cons_zero, List.set_cons_succ, i64_w, i32_w]
            rfl
          (first | rw [ed] | (simp only [ed]) | skip)
          refine pure_ (i := 2) (N := some 15) (v := ?_) (a' := ?_) #[true, true, true, false, false, false, false, false, false, false, false, false, false, false, false, false, false, false, false, false, false, false, false, false, false, false, false, false] rfl rfl (any_of HT_.out (by kernel_rfl)) (fun _ _ _ h => h) (Or.inl ⟨by rfl, ?_⟩) ?_ ?_
          rotate_left
          · intro w'
            go_simp
            with_reducible rfl
          rotate_left
          · simp only [Act.put, List.setIfInBounds_toArray, List.set_cons_zero, List.set_cons_succ, i64_w, i32_w]
            rfl
          refine pure_ (i := 3) (N := some 16) (v := ?_) (a' := ?_) #[true, true, true, true, false, false, false, false, false, false, false, false, false, false, false, false, false, false, false, false, false, false, false, false, false, false, false, false] rfl rfl (any_of HT_.out (by kernel_rfl)) (fun _ _ _ h => h) (Or.inl ⟨by rfl, ?_⟩) ?_ ?_
          rotate_left
          · intro w'
            go_simp
            with_reducible rfl
          rotate_left
          · simp only [Act.put, List.setIfInBounds_toArray, List.set_cons_zero, List.set_cons_succ, i64_w, i32_w]
            rfl
          refine pure_ (i := 4) (N := some 17) (v := ?_) (a' := ?_) #[true, true, true, true, true, false, false, false, false, false, false, false, false, false, false, false, false, false, false, false, false, false, false, false, false, false, false, false] rfl rfl (any_of HT_.out (by kernel_rfl)) (fun _ _ _ h => h) (Or.inl ⟨by rfl, ?_⟩) ?_ ?_
          rotate_left
          · intro w'
            go_simp
            with_reducible rfl
          rotate_left
          · simp only [Act.put, List.setIfInBounds_toArray, List.set_cons_zero, List.set_cons_succ, i64_w, i32_w]
            rfl
          refine pure_ (i := 5) (N := some 18) (v := ?_) (a' := ?_) #[true, true, true, true, true, true, false, false, false, false, false, false, false, false, false, false, false, false, false, false, false, false, false, false, false, false, false, false] rfl rfl (any_of HT_.out (by kernel_rfl)) (fun _ _ _ h => h) (Or.inl ⟨by rfl, ?_⟩) ?_ ?_
          rotate_left
          · intro w'
            go_simp
            with_reducible rfl
          rotate_left
          · simp only [Act.put, List.setIfInBounds_toArray, List.set_cons_zero, List.set_cons_succ, i64_w, i32_w]
            rfl
          refine take_ (i := 6) (N := some 19) (v := ?_) (a' := ?_) #[true, true, true, true, true, true, true, false, false, false, false, false, false, false, false, false, false, false, false, false, false, false, false, false, false, false, false, false] rfl rfl (take_ofW HT_.out HW_.out (by kernel_rfl)) (fun _ _ _ h => h) (Or.inl ⟨by rfl, ?_⟩) hHeld ?_ ?_
          rotate_left
          · rintro w' ⟨s0, s1, s2, s3⟩
            go_simp
            with_reducible rfl
          rotate_left
          · simp only [Act.put, List.setIfInBounds_toArray, List.set_cons_zero, List.set_cons_succ, i64_w, i32_w]
            rfl
          refine pure_ (i := 7) (N := some 20) (v := ?_) (a' := ?_) #[true, true, true, true, true, true, true, true, false, false, false, false, false, false, false, false, false, false, false, false, false, false, false, false, false, false, false, false] rfl rfl (any_of HT_.out (by kernel_rfl)) (fun _ _ _ h => h) (Or.inl ⟨by rfl, ?_⟩) ?_ ?_
          rotate_left
          · intro w'
            go_simp
            with_reducible rfl
          rotate_left
          · simp only [Act.put, List.setIfInBounds_toArray, List.set_cons_zero, List.set_cons_succ, i64_w, i32_w]
            rfl
          refine one_ (i := 8) (N := some 21) #[true, true, true, true, true, true, true, true, true, false, false, false, false, false, false, false, false, false, false, false, false, false, false, false, false, false, false, false] rfl rfl (one_of HT_.out (by kernel_rfl)) (by decide) (fun K hK => ?_)
          refine goes_ Try.func43 (by kernel_rfl) rfl #[.pointer (some ⟨X, 0, none⟩)] (by rfl) rfl rfl (by (try simp only [List.map_toArray, List.map_cons, List.map_nil]); first | done | rfl) ?_
          refine (net_whole N3.out HM.out H0.out).mono ?_
          rintro e w6 ⟨rfl, hb_⟩
          refine ⟨_, rfl, ?_⟩
          obtain ⟨s1, s2, s3, s4⟩ := hHeld
          have st_ := Stp.below hb_ own (fun _ => False)
          have HS_ := Aside0.mk (show (fun w' => w'.cell? ⟨X, 1, none⟩ = some (.slice (some ⟨gn, 0, none⟩) N.nul.length cn) ∧ w'.cell? ⟨X, 3, none⟩ = some (.slice (some ⟨gl, 0, none⟩) N.lst.length cl) ∧ w'.cell? ⟨gn, n - 1, none⟩ = some (.bool true) ∧ w'.cell? ⟨gl, n - 1, none⟩ = some (.slice Al (rdL N.lst ((n : Int) - 1)).length al)) w6 from ⟨st_.cell s1 (fun h => h), st_.cell s2 (fun h => h), st_.cell s3 (fun h => h), st_.cell s4 (fun h => h)⟩)
          have z0_ := Aside0.mk (st_.net N3.out (fun _ _ h => h))
          have z1_ := Aside0.mk (below_step L3.out hb_)
          have z2_ := Aside0.mk (st_.row RL.out (fun h => h))
          clear N3 L3 RL
          have N3 := z0_
          have L3 := z1_
          have RL := z2_
          clear z0_ z1_ z2_
          clear s1 s2 s3 s4 st_ hb_
          refine hK.out _ _ HS_.out (fun hHeld => ?_)
          clear hK K
          refine norm_ (a' := ?_) ?_ ?_
          rotate_left
          · show Act.put _ (some 21) _ = _
            simp only [Act.put, List.setIfInBounds_toArray, List.set_cons_zero, List.set_cons_succ, i64_w, i32_w]
            rfl
          clear HS_
          refine pure_ (i := 9) (N := some 22) (v := ?_) (a' := ?_) #[true, true, true, true, true, true, true, true, true, true, false, false, false, false, false, false, false, false, false, false, false, false, false, false, false, false, false, false] rfl rfl (any_of HT_.out (by kernel_rfl)) (fun _ _ _ h => h) (Or.inl ⟨by rfl, ?_⟩) ?_ ?_
          rotate_left
          · intro w'
            go_simp
            with_reducible rfl
          rotate_left
          · simp only [Act.put, List.setIfInBounds_toArray, List.set_cons_zero, List.set_cons_succ, i64_w, i32_w]
            rfl
          refine take_ (i := 10) (N := some 23) (v := ?_) (a' := ?_) #[true, true, true, true, true, true, true, true, true, true, true, false, false, false, false, false, false, false, false, false, false, false, false, false, false, false, false, false] rfl rfl (take_ofW HT_.out HW_.out (by kernel_rfl)) (fun _ _ _ h => h) (Or.inl ⟨by rfl, ?_⟩) hHeld ?_ ?_
          rotate_left
          · rintro w' ⟨s0, s1, s2, s3⟩
            go_simp
            with_reducible rfl
          rotate_left
          · simp only [Act.put, List.setIfInBounds_toArray, List.set_cons_zero, List.set_cons_succ, i64_w, i32_w]
            rfl
          refine pure_ (i := 11) (N := some 24) (v := ?_) (a' := ?_) #[true, true, true, true, true, true, true, true, true, true, true, true, false, false, false, false, false, false, false, false, false, false, false, false, false, false, false, false] rfl rfl (any_of HT_.out (by kernel_rfl)) (fun _ _ _ h => h) (Or.inl ⟨by rfl, ?_⟩) ?_ ?_
          rotate_left
          · intro w'
            go_simp
            with_reducible rfl
          rotate_left
          · simp only [Act.put, List.setIfInBounds_toArray, List.set_cons_zero, List.set_cons_succ, i64_w, i32_w]
            rfl
          refine pure_ (i := 12) (N := some 25) (v := ?_) (a' := ?_) #[true, true, true, true, true, true, true, true, true, true, true, true, true, false, false, false, false, false, false, false, false, false, false, false, false, false, false, false] rfl rfl (any_of HT_.out (by kernel_rfl)) (fun _ _ _ h => h) (Or.inl ⟨by rfl, ?_⟩) ?_ ?_
          rotate_left
          · intro w'
            go_simp
            with_reducible rfl
          rotate_left
          · simp only [Act.put, List.setIfInBounds_toArray, List.set_cons_zero, List.set_cons_succ, i64_w, i32_w]
            rfl
          refine pure_ (i := 13) (N := some 26) (v := undef) (a' := ?_) #[true, true, true, true, true, true, true, true, true, true, true, true, true, true, false, false, false, false, false, false, false, false, false, false, false, false, false, false] rfl rfl (any_of HT_.out (by kernel_rfl)) (fun _ _ _ h => h) (Or.inr ⟨by rfl, rfl⟩) ?_ ?_
          rotate_left
          · simp only [Act.put, List.setIfInBounds_toArray, List.set_cons_zero, List.set_cons_succ, i64_w, i32_w]
            rfl
          refine pure_ (i := 14) (N := some 27) (v := undef) (a' := ?_) #[true, true, true, true, true, true, true, true, true, true, true, true, true, true, true, false, false, false, false, false, false, false, false, false, false, false, false, false] rfl rfl (any_of HT_.out (by kernel_rfl)) (fun _ _ _ h => h) (Or.inr ⟨by rfl, rfl⟩) ?_ ?_
          rotate_left
          · simp only [Act.put, List.setIfInBounds_toArray, List.set_cons_zero, List.set_cons_succ, i64_w, i32_w]
            rfl
          refine pure_ (i := 15) (N := some 28) (v := undef) (a' := ?_) #[true, true, true, true, true, true, true, true, true, true, true, true, true, true, true, true, false, false, false, false, false, false, false, false, false, false, false, false] rfl rfl (any_of HT_.out (by kernel_rfl)) (fun _ _ _ h => h) (Or.inr ⟨by rfl, rfl⟩) ?_ ?_
          rotate_left
          · simp only [Act.put, List.setIfInBounds_toArray, List.set_cons_zero, List.set_cons_succ, i64_w, i32_w]
            rfl
          refine pure_ (i := 16) (N := some 29) (v := undef) (a' := ?_) #[true, true, true, true, true, true, true, true, true, true, true, true, true, true, true, true, true, false, false, false, false, false, false, false, false, false, false, false] rfl rfl (any_of HT_.out (by kernel_rfl)) (fun _ _ _ h => h) (Or.inr ⟨by rfl, rfl⟩) ?_ ?_
          rotate_left
          · simp only [Act.put, List.setIfInBounds_toArray, List.set_cons_zero, List.set_cons_succ, i64_w, i32_w]
            rfl
          refine pure_ (i := 17) (N := some 30) (v := undef) (a' := ?_) #[true, true, true, true, true, true, true, true, true, true, true, true, true, true, true, true, true, true, false, false, false, false, false, false, false, false, false, false] rfl rfl (any_of HT_.out (by kernel_rfl)) (fun _ _ _ h => h) (Or.inr ⟨by rfl, rfl⟩) ?_ ?_
          rotate_left
          · simp only [Act.put, List.setIfInBounds_toArray, List.set_cons_zero, List.set_cons_succ, i64_w, i32_w]
            rfl
          refine pure_ (i := 18) (N := some 31) (v := undef) (a' := ?_) #[true, true, true, true, true, true, true, true, true, true, true, true, true, true, true, true, true, true, true, false, false, false, false, false, false, false, false, false] rfl rfl (any_of HT_.out (by kernel_rfl)) (fun _ _ _ h => h) (Or.inr ⟨by rfl, rfl⟩) ?_ ?_
          rotate_left
          · simp only [Act.put, List.setIfInBounds_toArray, List.set_cons_zero, List.set_cons_succ, i64_w, i32_w]
            rfl
          refine pure_ (i := 19) (N := some 32) (v := undef) (a' := ?_) #[true, true, true, true, true, true, true, true, true, true, true, true, true, true, true, true, true, true, true, true, false, false, false, false, false, false, false, false] rfl rfl (any_of HT_.out (by kernel_rfl)) (fun _ _ _ h => h) (Or.inr ⟨by rfl, rfl⟩) ?_ ?_
          rotate_left
          · simp only [Act.put, List.setIfInBounds_toArray, List.set_cons_zero, List.set_cons_succ, i64_w, i32_w]
            rfl
          refine pure_ (i := 20) (N := some 33) (v := undef) (a' := ?_) #[true, true, true, true, true, true, true, true, true, true, true, true, true, true, true, true, true, true, true, true, true, false, false, false, false, false, false, false] rfl rfl (any_of HT_.out (by kernel_rfl)) (fun _ _ _ h => h) (Or.inr ⟨by rfl, rfl⟩) ?_ ?_
          rotate_left
          · simp only [Act.put, List.setIfInBounds_toArray, List.set_cons_zero, List.set_cons_succ, i64_w, i32_w]
            rfl
          refine pure_ (i := 21) (N := some 34) (v := undef) (a' := ?_) #[true, true, true, true, true, true, true, true, true, true, true, true, true, true, true, true, true, true, true, true, true, true, false, false, false, false, false, false] rfl rfl (any_of HT_.out (by kernel_rfl)) (fun _ _ _ h => h) (Or.inr ⟨by rfl, rfl⟩) ?_ ?_
          rotate_left
          · simp only [Act.put, List.setIfInBounds_toArray, List.set_cons_zero, List.set_cons_succ, i64_w, i32_w]
            rfl
          refine pure_ (i := 22) (N := some 35) (v := undef) (a' := ?_) #[true, true, true, true, true, true, true, true, true, true, true, true, true, true, true, true, true, true, true, true, true, true, true, false, false, false, false, false] rfl rfl (any_of HT_.out (by kernel_rfl)) (fun _ _ _ h => h) (Or.inr ⟨by rfl, rfl⟩) ?_ ?_
          rotate_left
          · simp only [Act.put, List.setIfInBounds_toArray, List.set_cons_zero, List.set_cons_succ, i64_w, i32_w]
            rfl
          refine pure_ (i := 23) (N := some 36) (v := undef) (a' := ?_) #[true, true, true, true, true, true, true, true, true, true, true, true, true, true, true, true, true, true, true, true, true, true, true, true, false, false, false, false] rfl rfl (any_of HT_.out (by kernel_rfl)) (fun _ _ _ h => h) (Or.inr ⟨by rfl, rfl⟩) ?_ ?_
          rotate_left
          · simp only [Act.put, List.setIfInBounds_toArray, List.set_cons_zero, List.set_cons_succ, i64_w, i32_w]
            rfl
          refine pure_ (i := 24) (N := some 37) (v := undef) (a' := ?_) #[true, true, true, true, true, true, true, true, true, true, true, true, true, true, true, true, true, true, true, true, true, true, true, true, true, false, false, false] rfl rfl (any_of HT_.out (by kernel_rfl)) (fun _ _ _ h => h) (Or.inr ⟨by rfl, rfl⟩) ?_ ?_
          rotate_left
          · simp only [Act.put, List.setIfInBounds_toArray, List.set_cons_zero, List.set_cons_succ, i64_w, i32_w]
            rfl
          refine pure_ (i := 25) (N := some 38) (v := undef) (a' := ?_) #[true, true, true, true, true, true, true, true, true, true, true, true, true, true, true, true, true, true, true, true, true, true, true, true, true, true, false, false] rfl rfl (any_of HT_.out (by kernel_rfl)) (fun _ _ _ h => h) (Or.inr ⟨by rfl, rfl⟩) ?_ ?_
          rotate_left
          · simp only [Act.put, List.setIfInBounds_toArray, List.set_cons_zero, List.set_cons_succ, i64_w, i32_w]
            rfl
          refine pure_ (i := 26) (N := some 39) (v := undef) (a' := ?_) #[true, true, true, true, true, true, true, true, true, true, true, true, true, true, true, true, true, true, true, true, true, true, true, true, true, true, true, false] rfl rfl (any_of HT_.out (by kernel_rfl)) (fun _ _ _ h => h) (Or.inr ⟨by rfl, rfl⟩) ?_ ?_
          rotate_left
          · simp only [Act.put, List.setIfInBounds_toArray, List.set_cons_zero, List.set_cons_succ, i64_w, i32_w]
            rfl
          refine pure_ (i := 27) (N := some 40) (v := ?_) (a' := ?_) #[true, true, true, true, true, true, true, true, true, true, true, true, true, true, true, true, true, true, true, true, true, true, true, true, true, true, true, true] rfl rfl (any_of HT_.out (by kernel_rfl)) (fun _ _ _ h => h) (Or.inl ⟨by rfl, ?_⟩) ?_ ?_
          rotate_left
          · intro w'
            go_simp
            with_reducible rfl
          rotate_left
          · simp only [Act.put, List.setIfInBounds_toArray, List.set_cons_zero, List.set_cons_succ, i64_w, i32_w]
            rfl
          refine done_ (done_of HT_.out (by kernel_rfl)) ?_
          have HF := Aside0.mk (show mayF N n l = true by rw [HD.out, HEB.out]; rfl)
          go_wp2
          go_ret
          exact ⟨by rw [HF.out]; first | done | rfl, L3.out⟩
        | false =>
          have z0_ := Aside0.mk (N3.out.drew)
          have z1_ := Aside0.mk (below_drew1 L3.out)
          have z2_ := Aside0.mk (Kd.R_drew RL.out)
          clear N3 L3 RL
          have N3 := z0_
          have L3 := z1_
          have RL := z2_
          clear z0_ z1_ z2_
          refine start_ (n := 28) (S := fun w' => w'.cell? ⟨X, 1, none⟩ = some (.slice (some ⟨gn, 0, none⟩) N.nul.length cn) ∧ w'.cell? ⟨X, 3, none⟩ = some (.slice (some ⟨gl, 0, none⟩) N.lst.length cl) ∧ w'.cell? ⟨gn, n - 1, none⟩ = some (.bool false) ∧ w'.cell? ⟨gl, n - 1, none⟩ = some (.slice Al (rdL N.lst ((n : Int) - 1)).length al)) (ds := []) #[false, false, false, false, false, false, false, false, false, false, false, false, false, false, false, false, false, false, false, false, false, false, false, false, false, false, false, false] (by kernel_rfl) rfl rfl ⟨hx1, hx3, hcn, hcl⟩ (fun hHeld => ?_); refine with_tabW may_end.tab4 may_end.bits4 (fun HT_ HW_ => ?_)
          clear hx1 hx3 hcn hcl
          generalize wr.drew = wq at N3 L3 RL hHeld ⊢
          refine pure_ (i := 0) (N := some 13) (v := ?_) (a' := ?_) #[true, false, false, false, false, false, false, false, false, false, false, false, false, false, false, false, false, false, false, false, false, false, false, false, false, false, false, false] rfl rfl (any_of HT_.out (by kernel_rfl)) (fun _ _ _ h => h) (Or.inl ⟨by rfl, ?_⟩) ?_ ?_
          rotate_left
          · intro w'
            go_simp
            with_reducible rfl
          rotate_left
          · simp only [Act.put, List.setIfInBounds_toArray, List.set_cons_zero, List.set_cons_succ, i64_w, i32_w]
            rfl
          refine pure_ (i := 1) (N := some 14) (v := ?_) (a' := ?_) #[true, true, false, false, false, false, false, false, false, false, false, false, false, false, false, false, false, false, false, false, false, false, false, false, false, false, false, false] rfl rfl (any_of HT_.out (by kernel_rfl)) (fun _ _ _ h => h) (Or.inl ⟨by rfl, ?_⟩) ?_ ?_
          rotate_left
          · intro w'
            go_simp
            with_reducible rfl
          rotate_left
          · simp only [Act.put, List.setIfInBounds_toArray, List.set_cons_zero, List.set_cons_succ, i64_w, i32_w]
            rfl
          (first | rw [ed] | (simp only [ed]) | skip)
          refine pure_ (i := 2) (N := some 15) (v := ?_) (a' := ?_) #[true, true, true, false, false, false, false, false, false, false, false, false, false, false, false, false, false, false, false, false, false, false, false, false, false, false, false, false] rfl rfl (any_of HT_.out (by kernel_rfl)) (fun _ _ _ h => h) (Or.inl ⟨by rfl, ?_⟩) ?_ ?_
          rotate_left
          · intro w'
            go_simp
            with_reducible rfl
          rotate_left
          · simp only [Act.put, List.setIfInBounds_toArray, List.set_cons_zero, List.set_cons_succ, i64_w, i32_w]
            rfl
          refine pure_ (i := 3) (N := some 16) (v := ?_) (a' := ?_) #[true, true, true, true, false, false, false, false, false, false, false, false, false, false, false, false, false, false, false, false, false, false, false, false, false, false, false, false] rfl rfl (any_of HT_.out (by kernel_rfl)) (fun _ _ _ h => h) (Or.inl ⟨by rfl, ?_⟩) ?_ ?_
          rotate_left
          · intro w'
            go_simp
            with_reducible rfl
          rotate_left
          · simp only [Act.put, List.setIfInBounds_toArray, List.set_cons_zero, List.set_cons_succ, i64_w, i32_w]
            rfl
          refine pure_ (i := 4) (N := some 17) (v := ?_) (a' := ?_) #[true, true, true, true, true, false, false, false, false, false, false, false, false, false, false, false, false, false, false, false, false, false, false, false, false, false, false, false] rfl rfl (any_of HT_.out (by kernel_rfl)) (fun _ _ _ h => h) (Or.inl ⟨by rfl, ?_⟩) ?_ ?_
          rotate_left
          · intro w'
            go_simp
            with_reducible rfl
          rotate_left
          · simp only [Act.put, List.setIfInBounds_toArray, List.set_cons_zero, List.set_cons_succ, i64_w, i32_w]
            rfl
          refine pure_ (i := 5) (N := some 18) (v := ?_) (a' := ?_) #[true, true, true, true, true, true, false, false, false, false, false, false, false, false, false, false, false, false, false, false, false, false, false, false, false, false, false, false] rfl rfl (any_of HT_.out (by kernel_rfl)) (fun _ _ _ h => h) (Or.inl ⟨by rfl, ?_⟩) ?_ ?_
          rotate_left
          · intro w'
            go_simp
            with_reducible rfl
          rotate_left
          · simp only [Act.put, List.setIfInBounds_toArray, List.set_cons_zero, List.set_cons_succ, i64_w, i32_w]
            rfl
          refine take_ (i := 6) (N := some 19) (v := ?_) (a' := ?_) #[true, true, true, true, true, true, true, false, false, false, false, false, false, false, false, false, false, false, false, false, false, false, false, false, false, false, false, false] rfl rfl (take_ofW HT_.out HW_.out (by kernel_rfl)) (fun _ _ _ h => h) (Or.inl ⟨by rfl, ?_⟩) hHeld ?_ ?_
          rotate_left
          · rintro w' ⟨s0, s1, s2, s3⟩
            go_simp
            with_reducible rfl
          rotate_left
          · simp only [Act.put, List.setIfInBounds_toArray, List.set_cons_zero, List.set_cons_succ, i64_w, i32_w]
            rfl
          refine pure_ (i := 7) (N := some 20) (v := ?_) (a' := ?_) #[true, true, true, true, true, true, true, true, false, false, false, false, false, false, false, false, false, false, false, false, false, false, false, false, false, false, false, false] rfl rfl (any_of HT_.out (by kernel_rfl)) (fun _ _ _ h => h) (Or.inl ⟨by rfl, ?_⟩) ?_ ?_
          rotate_left
          · intro w'
            go_simp
            with_reducible rfl
          rotate_left
          · simp only [Act.put, List.setIfInBounds_toArray, List.set_cons_zero, List.set_cons_succ, i64_w, i32_w]
            rfl
          refine one_ (i := 8) (N := some 21) #[true, true, true, true, true, true, true, true, true, false, false, false, false, false, false, false, false, false, false, false, false, false, false, false, false, false, false, false] rfl rfl (one_of HT_.out (by kernel_rfl)) (by decide) (fun K hK => ?_)
          refine goes_ Try.func43 (by kernel_rfl) rfl #[.pointer (some ⟨X, 0, none⟩)] (by rfl) rfl rfl (by (try simp only [List.map_toArray, List.map_cons, List.map_nil]); first | done | rfl) ?_
          refine (net_whole N3.out HM.out H0.out).mono ?_
          rintro e w6 ⟨rfl, hb_⟩
          refine ⟨_, rfl, ?_⟩
          obtain ⟨s1, s2, s3, s4⟩ := hHeld
          have st_ := Stp.below hb_ own (fun _ => False)
          have HS_ := Aside0.mk (show (fun w' => w'.cell? ⟨X, 1, none⟩ = some (.slice (some ⟨gn, 0, none⟩) N.nul.length cn) ∧ w'.cell? ⟨X, 3, none⟩ = some (.slice (some ⟨gl, 0, none⟩) N.lst.length cl) ∧ w'.cell? ⟨gn, n - 1, none⟩ = some (.bool false) ∧ w'.cell? ⟨gl, n - 1, none⟩ = some (.slice Al (rdL N.lst ((n : Int) - 1)).length al)) w6 from ⟨st_.cell s1 (fun h => h), st_.cell s2 (fun h => h), st_.cell s3 (fun h => h), st_.cell s4 (fun h => h)⟩)
          have z0_ := Aside0.mk (st_.net N3.out (fun _ _ h => h))
          have z1_ := Aside0.mk (below_step L3.out hb_)
          have z2_ := Aside0.mk (st_.row RL.out (fun h => h))
          clear N3 L3 RL
          have N3 := z0_
          have L3 := z1_
          have RL := z2_
          clear z0_ z1_ z2_
          clear s1 s2 s3 s4 st_ hb_
          refine hK.out _ _ HS_.out (fun hHeld => ?_)
          clear hK K
          refine norm_ (a' := ?_) ?_ ?_
          rotate_left
          · show Act.put _ (some 21) _ = _
            simp only [Act.put, List.setIfInBounds_toArray, List.set_cons_zero, List.set_cons_succ, i64_w, i32_w]
            rfl
          clear HS_
          refine pure_ (i := 9) (N := some 22) (v := ?_) (a' := ?_) #[true, true, true, true, true, true, true, true, true, true, false, false, false, false, false, false, false, false, false, false, false, false, false, false, false, false, false, false] rfl rfl (any_of HT_.out (by kernel_rfl)) (fun _ _ _ h => h) (Or.inl ⟨by rfl, ?_⟩) ?_ ?_
          rotate_left
          · intro w'
            go_simp
            with_reducible rfl
          rotate_left
          · simp only [Act.put, List.setIfInBounds_toArray, List.set_cons_zero, List.set_cons_succ, i64_w, i32_w]
            rfl
          refine take_ (i := 10) (N := some 23) (v := ?_) (a' := ?_) #[true, true, true, true, true, true, true, true, true, true, true, false, false, false, false, false, false, false, false, false, false, false, false, false, false, false, false, false] rfl rfl (take_ofW HT_.out HW_.out (by kernel_rfl)) (fun _ _ _ h => h) (Or.inl ⟨by rfl, ?_⟩) hHeld ?_ ?_
          rotate_left
          · rintro w' ⟨s0, s1, s2, s3⟩
            go_simp
            with_reducible rfl
          rotate_left
          · simp only [Act.put, List.setIfInBounds_toArray, List.set_cons_zero, List.set_cons_succ, i64_w, i32_w]
            rfl
          refine pure_ (i := 11) (N := some 24) (v := ?_) (a' := ?_) #[true, true, true, true, true, true, true, true, true, true, true, true, false, false, false, false, false, false, false, false, false, false, false, false, false, false, false, false] rfl rfl (any_of HT_.out (by kernel_rfl)) (fun _ _ _ h => h) (Or.inl ⟨by rfl, ?_⟩) ?_ ?_
          rotate_left
          · intro w'
            go_simp
            with_reducible rfl
          rotate_left
          · simp only [Act.put, List.setIfInBounds_toArray, List.set_cons_zero, List.set_cons_succ, i64_w, i32_w]
            rfl
          refine pure_ (i := 12) (N := some 25) (v := ?_) (a' := ?_) #[true, true, true, true, true, true, true, true, true, true, true, true, true, false, false, false, false, false, false, false, false, false, false, false, false, false, false, false] rfl rfl (any_of HT_.out (by kernel_rfl)) (fun _ _ _ h => h) (Or.inl ⟨by rfl, ?_⟩) ?_ ?_
          rotate_left
          · intro w'
            go_simp
            with_reducible rfl
          rotate_left
          · simp only [Act.put, List.setIfInBounds_toArray, List.set_cons_zero, List.set_cons_succ, i64_w, i32_w]
            rfl
          refine pure_ (i := 13) (N := some 26) (v := ?_) (a' := ?_) #[true, true, true, true, true, true, true, true, true, true, true, true, true, true, false, false, false, false, false, false, false, false, false, false, false, false, false, false] rfl rfl (any_of HT_.out (by kernel_rfl)) (fun _ _ _ h => h) (Or.inl ⟨by rfl, ?_⟩) ?_ ?_
          rotate_left
          · intro w'
            go_simp
            with_reducible rfl
          rotate_left
          · simp only [Act.put, List.setIfInBounds_toArray, List.set_cons_zero, List.set_cons_succ, i64_w, i32_w]
            rfl
          refine pure_ (i := 14) (N := some 27) (v := ?_) (a' := ?_) #[true, true, true, true, true, true, true, true, true, true, true, true, true, true, true, false, false, false, false, false, false, false, false, false, false, false, false, false] rfl rfl (any_of HT_.out (by kernel_rfl)) (fun _ _ _ h => h) (Or.inl ⟨by rfl, ?_⟩) ?_ ?_
          rotate_left
          · intro w'
            go_simp
            with_reducible rfl
          rotate_left
          · simp only [Act.put, List.setIfInBounds_toArray, List.set_cons_zero, List.set_cons_succ, i64_w, i32_w]
            rfl
          (first | rw [ed2] | (simp only [ed2]) | skip)
          refine pure_ (i := 15) (N := some 28) (v := ?_) (a' := ?_) #[true, true, true, true, true, true, true, true, true, true, true, true, true, true, true, true, false, false, false, false, false, false, false, false, false, false, false, false] rfl rfl (any_of HT_.out (by kernel_rfl)) (fun _ _ _ h => h) (Or.inl ⟨by rfl, ?_⟩) ?_ ?_
          rotate_left
          · intro w'
            go_simp
            with_reducible rfl
          rotate_left
          · simp only [Act.put, List.setIfInBounds_toArray, List.set_cons_zero, List.set_cons_succ, i64_w, i32_w]
            rfl
          refine pure_ (i := 16) (N := some 29) (v := undef) (a' := ?_) #[true, true, true, true, true, true, true, true, true, true, true, true, true, true, true, true, true, false, false, false, false, false, false, false, false, false, false, false] rfl rfl (any_of HT_.out (by kernel_rfl)) (fun _ _ _ h => h) (Or.inr ⟨by rfl, rfl⟩) ?_ ?_
          rotate_left
          · simp only [Act.put, List.setIfInBounds_toArray, List.set_cons_zero, List.set_cons_succ, i64_w, i32_w]
            rfl
          refine pure_ (i := 17) (N := some 30) (v := undef) (a' := ?_) #[true, true, true, true, true, true, true, true, true, true, true, true, true, true, true, true, true, true, false, false, false, false, false, false, false, false, false, false] rfl rfl (any_of HT_.out (by kernel_rfl)) (fun _ _ _ h => h) (Or.inr ⟨by rfl, rfl⟩) ?_ ?_
          rotate_left
          · simp only [Act.put, List.setIfInBounds_toArray, List.set_cons_zero, List.set_cons_succ, i64_w, i32_w]
            rfl
          refine pure_ (i := 18) (N := some 31) (v := undef) (a' := ?_) #[true, true, true, true, true, true, true, true, true, true, true, true, true, true, true, true, true, true, true, false, false, false, false, false, false, false, false, false] rfl rfl (any_of HT_.out (by kernel_rfl)) (fun _ _ _ h => h) (Or.inr ⟨by rfl, rfl⟩) ?_ ?_
          rotate_left
          · simp only [Act.put, List.setIfInBounds_toArray, List.set_cons_zero, List.set_cons_succ, i64_w, i32_w]
            rfl
          refine pure_ (i := 19) (N := some 32) (v := undef) (a' := ?_) #[true, true, true, true, true, true, true, true, true, true, true, true, true, true, true, true, true, true, true, true, false, false, false, false, false, false, false, false] rfl rfl (any_of HT_.out (by kernel_rfl)) (fun _ _ _ h => h) (Or.inr ⟨by rfl, rfl⟩) ?_ ?_
          rotate_left
          · simp only [Act.put, List.setIfInBounds_toArray, List.set_cons_zero, List.set_cons_succ, i64_w, i32_w]
            rfl
          refine pure_ (i := 20) (N := some 33) (v := undef) (a' := ?_) #[true, true, true, true, true, true, true, true, true, true, true, true, true, true, true, true, true, true, true, true, true, false, false, false, false, false, false, false] rfl rfl (any_of HT_.out (by kernel_rfl)) (fun _ _ _ h => h) (Or.inr ⟨by rfl, rfl⟩) ?_ ?_
          rotate_left
          · simp only [Act.put, List.setIfInBounds_toArray, List.set_cons_zero, List.set_cons_succ, i64_w, i32_w]
            rfl
          refine pure_ (i := 21) (N := some 34) (v := undef) (a' := ?_) #[true, true, true, true, true, true, true, true, true, true, true, true, true, true, true, true, true, true, true, true, true, true, false, false, false, false, false, false] rfl rfl (any_of HT_.out (by kernel_rfl)) (fun _ _ _ h => h) (Or.inr ⟨by rfl, rfl⟩) ?_ ?_
          rotate_left
          · simp only [Act.put, List.setIfInBounds_toArray, List.set_cons_zero, List.set_cons_succ, i64_w, i32_w]
            rfl
          refine pure_ (i := 22) (N := some 35) (v := undef) (a' := ?_) #[true, true, true, true, true, true, true, true, true, true, true, true, true, true, true, true, true, true, true, true, true, true, true, false, false, false, false, false] rfl rfl (any_of HT_.out (by kernel_rfl)) (fun _ _ _ h => h) (Or.inr ⟨by rfl, rfl⟩) ?_ ?_
          rotate_left
          · simp only [Act.put, List.setIfInBounds_toArray, List.set_cons_zero, List.set_cons_succ, i64_w, i32_w]
            rfl
          refine pure_ (i := 23) (N := some 36) (v := undef) (a' := ?_) #[true, true, true, true, true, true, true, true, true, true, true, true, true, true, true, true, true, true, true, true, true, true, true, true, false, false, false, false] rfl rfl (any_of HT_.out (by kernel_rfl)) (fun _ _ _ h => h) (Or.inr ⟨by rfl, rfl⟩) ?_ ?_
          rotate_left
          · simp only [Act.put, List.setIfInBounds_toArray, List.set_cons_zero, List.set_cons_succ, i64_w, i32_w]
            rfl
          refine pure_ (i := 24) (N := some 37) (v := undef) (a' := ?_) #[true, true, true, true, true, true, true, true, true, true, true, true, true, true, true, true, true, true, true, true, true, true, true, true, true, false, false, false] rfl rfl (any_of HT_.out (by kernel_rfl)) (fun _ _ _ h => h) (Or.inr ⟨by rfl, rfl⟩) ?_ ?_
          rotate_left
          · simp only [Act.put, List.setIfInBounds_toArray, List.set_cons_zero, List.set_cons_succ, i64_w, i32_w]
            rfl
          refine pure_ (i := 25) (N := some 38) (v := undef) (a' := ?_) #[true, true, true, true, true, true, true, true, true, true, true, true, true, true, true, true, true, true, true, true, true, true, true, true, true, true, false, false] rfl rfl (any_of HT_.out (by kernel_rfl)) (fun _ _ _ h => h) (Or.inr ⟨by rfl, rfl⟩) ?_ ?_
          rotate_left
          · simp only [Act.put, List.setIfInBounds_toArray, List.set_cons_zero, List.set_cons_succ, i64_w, i32_w]
            rfl
          refine pure_ (i := 26) (N := some 39) (v := ?_) (a' := ?_) #[true, true, true, true, true, true, true, true, true, true, true, true, true, true, true, true, true, true, true, true, true, true, true, true, true, true, true, false] rfl rfl (any_of HT_.out (by kernel_rfl)) (fun _ _ _ h => h) (Or.inl ⟨by rfl, ?_⟩) ?_ ?_
          rotate_left
          · intro w'
            go_simp
            with_reducible rfl
          rotate_left
          · simp only [Act.put, List.setIfInBounds_toArray, List.set_cons_zero, List.set_cons_succ, i64_w, i32_w]
            rfl
          refine pure_ (i := 27) (N := some 40) (v := ?_) (a' := ?_) #[true, true, true, true, true, true, true, true, true, true, true, true, true, true, true, true, true, true, true, true, true, true, true, true, true, true, true, true] rfl rfl (any_of HT_.out (by kernel_rfl)) (fun _ _ _ h => h) (Or.inl ⟨by rfl, ?_⟩) ?_ ?_
          rotate_left
          · intro w'
            go_simp
            with_reducible rfl
          rotate_left
          · simp only [Act.put, List.setIfInBounds_toArray, List.set_cons_zero, List.set_cons_succ, i64_w, i32_w]
            rfl
          refine done_ (done_of HT_.out (by kernel_rfl)) ?_
          have HF := Aside0.mk (show mayF N n l = (l.drop (i + 1)).any (endB N n) by rw [HD.out, HEB.out, Bool.false_or])
          go_wp2
          go_roundg (n1 - (i + 1))
          case measure => have := HG.out; omega
          case rel => exact ⟨i + 1, by omega, by omega, by go_num, HF, N3, L3⟩
      · have ed : decide (q < 0) = false := decide_eq_false cq
        have ed2 : decide (q ≥ 0) = true := decide_eq_true (by omega)
        have hqz : q ≥ 0 := by omega
        obtain ⟨bc, hbc⟩ : ∃ bc, decide (q ∈ rdL N.lst ((n : Int) - 1)) = bc := ⟨_, rfl⟩
        have HCN := Aside0.mk hbc
        have HEB := Aside0.mk (show endB N n q = bc by unfold endB; rw [if_neg cq]; exact hbc)
        clear hbc
        cases bc with
        | true =>
          have z0_ := Aside0.mk (N3.out.drew)
          have z1_ := Aside0.mk (below_drew1 L3.out)
          have z2_ := Aside0.mk (Kd.R_drew RL.out)
          clear N3 L3 RL
          have N3 := z0_
          have L3 := z1_
          have RL := z2_
          clear z0_ z1_ z2_
          refine start_ (n := 28) (S := fun w' => w'.cell? ⟨X, 1, none⟩ = some (.slice (some ⟨gn, 0, none⟩) N.nul.length cn) ∧ w'.cell? ⟨X, 3, none⟩ = some (.slice (some ⟨gl, 0, none⟩) N.lst.length cl) ∧ w'.cell? ⟨gn, n - 1, none⟩ = some (.bool bn) ∧ w'.cell? ⟨gl, n - 1, none⟩ = some (.slice Al (rdL N.lst ((n : Int) - 1)).length al)) (ds := []) #[false, false, false, false, false, false, false, false, false, false, false, false, false, false, false, false, false, false, false, false, false, false, false, false, false, false, false, false] (by kernel_rfl) rfl rfl ⟨hx1, hx3, hcn, hcl⟩ (fun hHeld => ?_); refine with_tabW may_end.tab4 may_end.bits4 (fun HT_ HW_ => ?_)
          clear hx1 hx3 hcn hcl
          generalize wr.drew = wq at N3 L3 RL hHeld ⊢
          refine pure_ (i := 0) (N := some 13) (v := ?_) (a' := ?_) #[true, false, false, false, false, false, false, false, false, false, false, false, false, false, false, false, false, false, false, false, false, false, false, false, false, false, false, false] rfl rfl (any_of HT_.out (by kernel_rfl)) (fun _ _ _ h => h) (Or.inl ⟨by rfl, ?_⟩) ?_ ?_
          rotate_left
          · intro w'
            go_simp
            with_reducible rfl
          rotate_left
          · simp only [Act.put, List.setIfInBounds_toArray, List.set_cons_zero, List.set_cons_succ, i64_w, i32_w]
            rfl
          refine pure_ (i := 1) (N := some 14) (v := ?_) (a' := ?_) #[true, true, false, false, false, false, false, false, false, false, false, false, false, false, false, false, false, false, false, false, false, false, false, false, false, false, false, false] rfl rfl (any_of HT_.out (by kernel_rfl)) (fun _ _ _ h => h) (Or.inl ⟨by rfl, ?_⟩) ?_ ?_
          rotate_left
          · intro w'
            go_simp
            with_reducible rfl
          rotate_left
          · simp only [Act.put, List.setIfInBounds_toArray, List.set_cons_zero, List.set_cons_succ, i64_w, i32_w]
            rfl
          (first | rw [ed] | (simp only [ed]) | skip)
          refine pure_ (i := 2) (N := some 15) (v := ?_) (a' := ?_) #[true, true, true, false, false, false, false, false, false, false, false, false, false, false, false, false, false, false, false, false, false, false, false, false, false, false, false, false] rfl rfl (any_of HT_.out (by kernel_rfl)) (fun _ _ _ h => h) (Or.inl ⟨by rfl, ?_⟩) ?_ ?_
          rotate_left
          · intro w'
            go_simp
            with_reducible rfl
          rotate_left
          · simp only [Act.put, List.setIfInBounds_toArray, List.set_cons_zero, List.set_cons_succ, i64_w, i32_w]
            rfl
          refine pure_ (i := 3) (N := some 16) (v := undef) (a' := ?_) #[true, true, true, true, false, false, false, false, false, false, false, false, false, false, false, false, false, false, false, false, false, false, false, false, false, false, false, false] rfl rfl (any_of HT_.out (by kernel_rfl)) (fun _ _ _ h => h) (Or.inr ⟨by rfl, rfl⟩) ?_ ?_
          rotate_left
          · simp only [Act.put, List.setIfInBounds_toArray, List.set_cons_zero, List.set_cons_succ, i64_w, i32_w]
            rfl
          refine pure_ (i := 4) (N := some 17) (v := undef) (a' := ?_) #[true, true, true, true, true, false, false, false, false, false, false, false, false, false, false, false, false, false, false, false, false, false, false, false, false, false, false, false] rfl rfl (any_of HT_.out (by kernel_rfl)) (fun _ _ _ h => h) (Or.inr ⟨by rfl, rfl⟩) ?_ ?_
          rotate_left
          · simp only [Act.put, List.setIfInBounds_toArray, List.set_cons_zero, List.set_cons_succ, i64_w, i32_w]
            rfl
          refine pure_ (i := 5) (N := some 18) (v := undef) (a' := ?_) #[true, true, true, true, true, true, false, false, false, false, false, false, false, false, false, false, false, false, false, false, false, false, false, false, false, false, false, false] rfl rfl (any_of HT_.out (by kernel_rfl)) (fun _ _ _ h => h) (Or.inr ⟨by rfl, rfl⟩) ?_ ?_
          rotate_left
          · simp only [Act.put, List.setIfInBounds_toArray, List.set_cons_zero, List.set_cons_succ, i64_w, i32_w]
            rfl
          refine pure_ (i := 6) (N := some 19) (v := undef) (a' := ?_) #[true, true, true, true, true, true, true, false, false, false, false, false, false, false, false, false, false, false, false, false, false, false, false, false, false, false, false, false] rfl rfl (any_of HT_.out (by kernel_rfl)) (fun _ _ _ h => h) (Or.inr ⟨by rfl, rfl⟩) ?_ ?_
          rotate_left
          · simp only [Act.put, List.setIfInBounds_toArray, List.set_cons_zero, List.set_cons_succ, i64_w, i32_w]
            rfl
          refine pure_ (i := 7) (N := some 20) (v := undef) (a' := ?_) #[true, true, true, true, true, true, true, true, false, false, false, false, false, false, false, false, false, false, false, false, false, false, false, false, false, false, false, false] rfl rfl (any_of HT_.out (by kernel_rfl)) (fun _ _ _ h => h) (Or.inr ⟨by rfl, rfl⟩) ?_ ?_
          rotate_left
          · simp only [Act.put, List.setIfInBounds_toArray, List.set_cons_zero, List.set_cons_succ, i64_w, i32_w]
            rfl
          refine pure_ (i := 8) (N := some 21) (v := undef) (a' := ?_) #[true, true, true, true, true, true, true, true, true, false, false, false, false, false, false, false, false, false, false, false, false, false, false, false, false, false, false, false] rfl rfl (any_of HT_.out (by kernel_rfl)) (fun _ _ _ h => h) (Or.inr ⟨by rfl, rfl⟩) ?_ ?_
          rotate_left
          · simp only [Act.put, List.setIfInBounds_toArray, List.set_cons_zero, List.set_cons_succ, i64_w, i32_w]
            rfl
          refine pure_ (i := 9) (N := some 22) (v := undef) (a' := ?_) #[true, true, true, true, true, true, true, true, true, true, false, false, false, false, false, false, false, false, false, false, false, false, false, false, false, false, false, false] rfl rfl (any_of HT_.out (by kernel_rfl)) (fun _ _ _ h => h) (Or.inr ⟨by rfl, rfl⟩) ?_ ?_
          rotate_left
          · simp only [Act.put, List.setIfInBounds_toArray, List.set_cons_zero, List.set_cons_succ, i64_w, i32_w]
            rfl
          refine pure_ (i := 10) (N := some 23) (v := undef) (a' := ?_) #[true, true, true, true, true, true, true, true, true, true, true, false, false, false, false, false, false, false, false, false, false, false, false, false, false, false, false, false] rfl rfl (any_of HT_.out (by kernel_rfl)) (fun _ _ _ h => h) (Or.inr ⟨by rfl, rfl⟩) ?_ ?_
          rotate_left
          · simp only [Act.put, List.setIfInBounds_toArray, List.set_cons_zero, List.set_cons_succ, i64_w, i32_w]
            rfl
          refine pure_ (i := 11) (N := some 24) (v := ?_) (a' := ?_) #[true, true, true, true, true, true, true, true, true, true, true, true, false, false, false, false, false, false, false, false, false, false, false, false, false, false, false, false] rfl rfl (any_of HT_.out (by kernel_rfl)) (fun _ _ _ h => h) (Or.inl ⟨by rfl, ?_⟩) ?_ ?_
          rotate_left
          · intro w'
            go_simp
            with_reducible rfl
          rotate_left
          · simp only [Act.put, List.setIfInBounds_toArray, List.set_cons_zero, List.set_cons_succ, i64_w, i32_w]
            rfl
          refine pure_ (i := 12) (N := some 25) (v := ?_) (a' := ?_) #[true, true, true, true, true, true, true, true, true, true, true, true, true, false, false, false, false, false, false, false, false, false, false, false, false, false, false, false] rfl rfl (any_of HT_.out (by kernel_rfl)) (fun _ _ _ h => h) (Or.inl ⟨by rfl, ?_⟩) ?_ ?_
          rotate_left
          · intro w'
            go_simp
            with_reducible rfl
          rotate_left
          · simp only [Act.put, List.setIfInBounds_toArray, List.set_cons_zero, List.set_cons_succ, i64_w, i32_w]
            rfl
          refine pure_ (i := 13) (N := some 26) (v := ?_) (a' := ?_) #[true, true, true, true, true, true, true, true, true, true, true, true, true, true, false, false, false, false, false, false, false, false, false, false, false, false, false, false] rfl rfl (any_of HT_.out (by kernel_rfl)) (fun _ _ _ h => h) (Or.inl ⟨by rfl, ?_⟩) ?_ ?_
          rotate_left
          · intro w'
            go_simp
            with_reducible rfl
          rotate_left
          · simp only [Act.put, List.setIfInBounds_toArray, List.set_cons_zero, List.set_cons_succ, i64_w, i32_w]
            rfl
          refine pure_ (i := 14) (N := some 27) (v := ?_) (a' := ?_) #[true, true, true, true, true, true, true, true, true, true, true, true, true, true, true, false, false, false, false, false, false, false, false, false, false, false, false, false] rfl rfl (any_of HT_.out (by kernel_rfl)) (fun _ _ _ h => h) (Or.inl ⟨by rfl, ?_⟩) ?_ ?_
          rotate_left
          · intro w'
            go_simp
            with_reducible rfl
          rotate_left
          · simp only [Act.put, List.setIfInBounds_toArray, List.set_cons_zero, List.set_cons_succ, i64_w, i32_w]
            rfl
          (first | rw [ed2] | (simp only [ed2]) | skip)
          refine pure_ (i := 15) (N := some 28) (v := ?_) (a' := ?_) #[true, true, true, true, true, true, true, true, true, true, true, true, true, true, true, true, false, false, false, false, false, false, false, false, false, false, false, false] rfl rfl (any_of HT_.out (by kernel_rfl)) (fun _ _ _ h => h) (Or.inl ⟨by rfl, ?_⟩) ?_ ?_
          rotate_left
          · intro w'
            go_simp
            with_reducible rfl
          rotate_left
          · simp only [Act.put, List.setIfInBounds_toArray, List.set_cons_zero, List.set_cons_succ, i64_w, i32_w]
            rfl
          refine pure_ (i := 16) (N := some 29) (v := ?_) (a' := ?_) #[true, true, true, true, true, true, true, true, true, true, true, true, true, true, true, true, true, false, false, false, false, false, false, false, false, false, false, false] rfl rfl (any_of HT_.out (by kernel_rfl)) (fun _ _ _ h => h) (Or.inl ⟨by rfl, ?_⟩) ?_ ?_
          rotate_left
          · intro w'
            go_simp
            with_reducible rfl
          rotate_left
          · simp only [Act.put, List.setIfInBounds_toArray, List.set_cons_zero, List.set_cons_succ, i64_w, i32_w]
            rfl
          refine pure_ (i := 17) (N := some 30) (v := ?_) (a' := ?_) #[true, true, true, true, true, true, true, true, true, true, true, true, true, true, true, true, true, true, false, false, false, false, false, false, false, false, false, false] rfl rfl (any_of HT_.out (by kernel_rfl)) (fun _ _ _ h => h) (Or.inl ⟨by rfl, ?_⟩) ?_ ?_
          rotate_left
          · intro w'
            go_simp
            with_reducible rfl
          rotate_left
          · simp only [Act.put, List.setIfInBounds_toArray, List.set_cons_zero, List.set_cons_succ, i64_w, i32_w]
            rfl
          refine pure_ (i := 18) (N := some 31) (v := ?_) (a' := ?_) #[true, true, true, true, true, true, true, true, true, true, true, true, true, true, true, true, true, true, true, false, false, false, false, false, false, false, false, false] rfl rfl (any_of HT_.out (by kernel_rfl)) (fun _ _ _ h => h) (Or.inl ⟨by rfl, ?_⟩) ?_ ?_
          rotate_left
          · intro w'
            go_simp
            with_reducible rfl
          rotate_left
          · simp only [Act.put, List.setIfInBounds_toArray, List.set_cons_zero, List.set_cons_succ, i64_w, i32_w]
            rfl
          refine take_ (i := 19) (N := some 32) (v := ?_) (a' := ?_) #[true, true, true, true, true, true, true, true, true, true, true, true, true, true, true, true, true, true, true, true, false, false, false, false, false, false, false, false] rfl rfl (take_ofW HT_.out HW_.out (by kernel_rfl)) (fun _ _ _ h => h) (Or.inl ⟨by rfl, ?_⟩) hHeld ?_ ?_
          rotate_left
          · rintro w' ⟨s0, s1, s2, s3⟩
            go_simp
            with_reducible rfl
          rotate_left
          · simp only [Act.put, List.setIfInBounds_toArray, List.set_cons_zero, List.set_cons_succ, i64_w, i32_w]
            rfl
          refine pure_ (i := 20) (N := some 33) (v := ?_) (a' := ?_) #[true, true, true, true, true, true, true, true, true, true, true, true, true, true, true, true, true, true, true, true, true, false, false, false, false, false, false, false] rfl rfl (any_of HT_.out (by kernel_rfl)) (fun _ _ _ h => h) (Or.inl ⟨by rfl, ?_⟩) ?_ ?_
          rotate_left
          · intro w'
            go_simp
            with_reducible rfl
          rotate_left
          · simp only [Act.put, List.setIfInBounds_toArray, List.set_cons_zero, List.set_cons_succ, i64_w, i32_w]
            rfl
          refine pure_ (i := 24) (N := some 37) (v := ?_) (a' := ?_) #[true, true, true, true, true, true, true, true, true, true, true, true, true, true, true, true, true, true, true, true, true, false, false, false, true, false, false, false] rfl rfl (any_of HT_.out (by kernel_rfl)) (fun _ _ _ h => h) (Or.inl ⟨by rfl, ?_⟩) ?_ ?_
          rotate_left
          · intro w'
            go_simp
            with_reducible rfl
          rotate_left
          · simp only [Act.put, List.setIfInBounds_toArray, List.set_cons_zero, List.set_cons_succ, i64_w, i32_w]
            rfl
          refine one_ (i := 21) (N := some 34) #[true, true, true, true, true, true, true, true, true, true, true, true, true, true, true, true, true, true, true, true, true, true, false, false, true, false, false, false] rfl rfl (one_of HT_.out (by kernel_rfl)) (by decide) (fun K hK => ?_)
          refine goes_ Try.func43 (by kernel_rfl) rfl #[.pointer (some ⟨X, 0, none⟩)] (by rfl) rfl rfl (by (try simp only [List.map_toArray, List.map_cons, List.map_nil]); first | done | rfl) ?_
          refine (net_whole N3.out HM.out H0.out).mono ?_
          rintro e w6 ⟨rfl, hb_⟩
          refine ⟨_, rfl, ?_⟩
          obtain ⟨s1, s2, s3, s4⟩ := hHeld
          have st_ := Stp.below hb_ own (fun _ => False)
          have HS_ := Aside0.mk (show (fun w' => w'.cell? ⟨X, 1, none⟩ = some (.slice (some ⟨gn, 0, none⟩) N.nul.length cn) ∧ w'.cell? ⟨X, 3, none⟩ = some (.slice (some ⟨gl, 0, none⟩) N.lst.length cl) ∧ w'.cell? ⟨gn, n - 1, none⟩ = some (.bool bn) ∧ w'.cell? ⟨gl, n - 1, none⟩ = some (.slice Al (rdL N.lst ((n : Int) - 1)).length al)) w6 from ⟨st_.cell s1 (fun h => h), st_.cell s2 (fun h => h), st_.cell s3 (fun h => h), st_.cell s4 (fun h => h)⟩)
          have z0_ := Aside0.mk (st_.net N3.out (fun _ _ h => h))
          have z1_ := Aside0.mk (below_step L3.out hb_)
          have z2_ := Aside0.mk (st_.row RL.out (fun h => h))
          clear N3 L3 RL
          have N3 := z0_
          have L3 := z1_
          have RL := z2_
          clear z0_ z1_ z2_
          clear s1 s2 s3 s4 st_ hb_
          refine hK.out _ _ HS_.out (fun hHeld => ?_)
          clear hK K
          refine norm_ (a' := ?_) ?_ ?_
          rotate_left
          · show Act.put _ (some 34) _ = _
            simp only [Act.put, List.setIfInBounds_toArray, List.set_cons_zero, List.set_cons_succ, i64_w, i32_w]
            rfl
          clear HS_
          refine pure_ (i := 22) (N := some 35) (v := ?_) (a' := ?_) #[true, true, true, true, true, true, true, true, true, true, true, true, true, true, true, true, true, true, true, true, true, true, true, false, true, false, false, false] rfl rfl (any_of HT_.out (by kernel_rfl)) (fun _ _ _ h => h) (Or.inl ⟨by rfl, ?_⟩) ?_ ?_
          rotate_left
          · intro w'
            go_simp
            with_reducible rfl
          rotate_left
          · simp only [Act.put, List.setIfInBounds_toArray, List.set_cons_zero, List.set_cons_succ, i64_w, i32_w]
            rfl
          refine take_ (i := 23) (N := some 36) (v := ?_) (a' := ?_) #[true, true, true, true, true, true, true, true, true, true, true, true, true, true, true, true, true, true, true, true, true, true, true, true, true, false, false, false] rfl rfl (take_ofW HT_.out HW_.out (by kernel_rfl)) (fun _ _ _ h => h) (Or.inl ⟨by rfl, ?_⟩) hHeld ?_ ?_
          rotate_left
          · rintro w' ⟨s0, s1, s2, s3⟩
            go_simp
            with_reducible rfl
          rotate_left
          · simp only [Act.put, List.setIfInBounds_toArray, List.set_cons_zero, List.set_cons_succ, i64_w, i32_w]
            rfl
          refine one_ (i := 25) (N := some 38) #[true, true, true, true, true, true, true, true, true, true, true, true, true, true, true, true, true, true, true, true, true, true, true, true, true, true, false, false] rfl rfl (one_of HT_.out (by kernel_rfl)) (by decide) (fun K hK => ?_)
          refine goes_ Try.func71 (by kernel_rfl) rfl #[.slice Al (rdL N.lst ((n : Int) - 1)).length al, .int .i64 q] (by rfl) rfl rfl (by (try simp only [List.map_toArray, List.map_cons, List.map_nil]); first | done | rfl) ?_
          refine (contains_ints Al al (rdL N.lst ((n : Int) - 1)) q _ (Kd.R_reads' RL.out).2.2 (Kd.R_reads' RL.out).2.1).mono ?_
          rintro e wt ⟨rfl, hw_⟩
          have hw2_ := hw_.symm
          subst hw2_
          clear hw_
          refine ⟨_, rfl, ?_⟩
          rw [HCN.out]
          refine hK.out _ _ hHeld (fun hHeld => ?_)
          clear hK K
          refine norm_ (a' := ?_) ?_ ?_
          rotate_left
          · show Act.put _ (some 38) _ = _
            simp only [Act.put, List.setIfInBounds_toArray, List.set_cons_zero, List.set_cons_succ, i64_w, i32_w]
            rfl
          refine pure_ (i := 26) (N := some 39) (v := ?_) (a' := ?_) #[true, true, true, true, true, true, true, true, true, true, true, true, true, true, true, true, true, true, true, true, true, true, true, true, true, true, true, false] rfl rfl (any_of HT_.out (by kernel_rfl)) (fun _ _ _ h => h) (Or.inl ⟨by rfl, ?_⟩) ?_ ?_
          rotate_left
          · intro w'
            go_simp
            with_reducible rfl
          rotate_left
          · simp only [Act.put, List.setIfInBounds_toArray, List.set_cons_zero, List.set_cons_succ, i64_w, i32_w]
            rfl
          refine pure_ (i := 27) (N := some 40) (v := ?_) (a' := ?_) #[true, true, true, true, true, true, true, true, true, true, true, true, true, true, true, true, true, true, true, true, true, true, true, true, true, true, true, true] rfl rfl (any_of HT_.out (by kernel_rfl)) (fun _ _ _ h => h) (Or.inl ⟨by rfl, ?_⟩) ?_ ?_
          rotate_left
          · intro w'
            go_simp
            with_reducible rfl
          rotate_left
          · simp only [Act.put, List.setIfInBounds_toArray, List.set_cons_zero, List.set_cons_succ, i64_w, i32_w]
            rfl
          refine done_ (done_of HT_.out (by kernel_rfl)) ?_
          have HF := Aside0.mk (show mayF N n l = true by rw [HD.out, HEB.out]; rfl)
          go_wp2
          go_ret
          exact ⟨by rw [HF.out]; first | done | rfl, L3.out⟩
        | false =>
          have z0_ := Aside0.mk (N3.out.drew)
          have z1_ := Aside0.mk (below_drew1 L3.out)
          have z2_ := Aside0.mk (Kd.R_drew RL.out)
          clear N3 L3 RL
          have N3 := z0_
          have L3 := z1_
          have RL := z2_
          clear z0_ z1_ z2_
          refine start_ (n := 28) (S := fun w' => w'.cell? ⟨X, 1, none⟩ = some (.slice (some ⟨gn, 0, none⟩) N.nul.length cn) ∧ w'.cell? ⟨X, 3, none⟩ = some (.slice (some ⟨gl, 0, none⟩) N.lst.length cl) ∧ w'.cell? ⟨gn, n - 1, none⟩ = some (.bool bn) ∧ w'.cell? ⟨gl, n - 1, none⟩ = some (.slice Al (rdL N.lst ((n : Int) - 1)).length al)) (ds := []) #[false, false, false, false, false, false, false, false, false, false, false, false, false, false, false, false, false, false, false, false, false, false, false, false, false, false, false, false] (by kernel_rfl) rfl rfl ⟨hx1, hx3, hcn, hcl⟩ (fun hHeld => ?_); refine with_tabW may_end.tab4 may_end.bits4 (fun HT_ HW_ => ?_)
          clear hx1 hx3 hcn hcl
          generalize wr.drew = wq at N3 L3 RL hHeld ⊢
          refine pure_ (i := 0) (N := some 13) (v := ?_) (a' := ?_) #[true, false, false, false, false, false, false, false, false, false, false, false, false, false, false, false, false, false, false, false, false, false, false, false, false, false, false, false] rfl rfl (any_of HT_.out (by kernel_rfl)) (fun _ _ _ h => h) (Or.inl ⟨by rfl, ?_⟩) ?_ ?_
          rotate_left
          · intro w'
            go_simp
            with_reducible rfl
          rotate_left
          · simp only [Act.put, List.setIfInBounds_toArray, List.set_cons_zero, List.set_cons_succ, i64_w, i32_w]
            rfl
          refine pure_ (i := 1) (N := some 14) (v := ?_) (a' := ?_) #[true, true, false, false, false, false, false, false, false, false, false, false, false, false, false, false, false, false, false, false, false, false, false, false, false, false, false, false] rfl rfl (any_of HT_.out (by kernel_rfl)) (fun _ _ _ h => h) (Or.inl ⟨by rfl, ?_⟩) ?_ ?_
          rotate_left
          · intro w'
            go_simp
            with_reducible rfl
          rotate_left
          · simp only [Act.put, List.setIfInBounds_toArray, List.set_cons_zero, List.set_cons_succ, i64_w, i32_w]
            rfl
          (first | rw [ed] | (simp only [ed]) | skip)
          refine pure_ (i := 2) (N := some 15) (v := ?_) (a' := ?_) #[true, true, true, false, false, false, false, false, false, false, false, false, false, false, false, false, false, false, false, false, false, false, false, false, false, false, false, false] rfl rfl (any_of HT_.out (by kernel_rfl)) (fun _ _ _ h => h) (Or.inl ⟨by rfl, ?_⟩) ?_ ?_
          rotate_left
          · intro w'
            go_simp
            with_reducible rfl
          rotate_left
          · simp only [Act.put, List.setIfInBounds_toArray, List.set_cons_zero, List.set_cons_succ, i64_w, i32_w]
            rfl
          refine pure_ (i := 3) (N := some 16) (v := undef) (a' := ?_) #[true, true, true, true, false, false, false, false, false, false, false, false, false, false, false, false, false, false, false, false, false, false, false, false, false, false, false, false] rfl rfl (any_of HT_.out (by kernel_rfl)) (fun _ _ _ h => h) (Or.inr ⟨by rfl, rfl⟩) ?_ ?_
          rotate_left
          · simp only [Act.put, List.setIfInBounds_toArray, List.set_cons_zero, List.set_cons_succ, i64_w, i32_w]
            rfl
          refine pure_ (i := 4) (N := some 17) (v := undef) (a' := ?_) #[true, true, true, true, true, false, false, false, false, false, false, false, false, false, false, false, false, false, false, false, false, false, false, false, false, false, false, false] rfl rfl (any_of HT_.out (by kernel_rfl)) (fun _ _ _ h => h) (Or.inr ⟨by rfl, rfl⟩) ?_ ?_
          rotate_left
          · simp only [Act.put, List.setIfInBounds_toArray, List.set_cons_zero, List.set_cons_succ, i64_w, i32_w]
            rfl
          refine pure_ (i := 5) (N := some 18) (v := undef) (a' := ?_) #[true, true, true, true, true, true, false, false, false, false, false, false, false, false, false, false, false, false, false, false, false, false, false, false, false, false, false, false] rfl rfl (any_of HT_.out (by kernel_rfl)) (fun _ _ _ h => h) (Or.inr ⟨by rfl, rfl⟩) ?_ ?_
          rotate_left
          · simp only [Act.put, List.setIfInBounds_toArray, List.set_cons_zero, List.set_cons_succ, i64_w, i32_w]
            rfl
          refine pure_ (i := 6) (N := some 19) (v := undef) (a' := ?_) #[true, true, true, true, true, true, true, false, false, false, false, false, false, false, false, false, false, false, false, false, false, false, false, false, false, false, false, false] rfl rfl (any_of HT_.out (by kernel_rfl)) (fun _ _ _ h => h) (Or.inr ⟨by rfl, rfl⟩) ?_ ?_
          rotate_left
          · simp only [Act.put, List.setIfInBounds_toArray, List.set_cons_zero, List.set_cons_succ, i64_w, i32_w]
            rfl
          refine pure_ (i := 7) (N := some 20) (v := undef) (a' := ?_) #[true, true, true, true, true, true, true, true, false, false, false, false, false, false, false, false, false, false, false, false, false, false, false, false, false, false, false, false] rfl rfl (any_of HT_.out (by kernel_rfl)) (fun _ _ _ h => h) (Or.inr ⟨by rfl, rfl⟩) ?_ ?_
          rotate_left
          · simp only [Act.put, List.setIfInBounds_toArray, List.set_cons_zero, List.set_cons_succ, i64_w, i32_w]
            rfl
          refine pure_ (i := 8) (N := some 21) (v := undef) (a' := ?_) #[true, true, true, true, true, true, true, true, true, false, false, false, false, false, false, false, false, false, false, false, false, false, false, false, false, false, false, false] rfl rfl (any_of HT_.out (by kernel_rfl)) (fun _ _ _ h => h) (Or.inr ⟨by rfl, rfl⟩) ?_ ?_
          rotate_left
          · simp only [Act.put, List.setIfInBounds_toArray, List.set_cons_zero, List.set_cons_succ, i64_w, i32_w]
            rfl
          refine pure_ (i := 9) (N := some 22) (v := undef) (a' := ?_) #[true, true, true, true, true, true, true, true, true, true, false, false, false, false, false, false, false, false, false, false, false, false, false, false, false, false, false, false] rfl rfl (any_of HT_.out (by kernel_rfl)) (fun _ _ _ h => h) (Or.inr ⟨by rfl, rfl⟩) ?_ ?_
          rotate_left
          · simp only [Act.put, List.setIfInBounds_toArray, List.set_cons_zero, List.set_cons_succ, i64_w, i32_w]
            rfl
          refine pure_ (i := 10) (N := some 23) (v := undef) (a' := ?_) #[true, true, true, true, true, true, true, true, true, true, true, false, false, false, false, false, false, false, false, false, false, false, false, false, false, false, false, false] rfl rfl (any_of HT_.out (by kernel_rfl)) (fun _ _ _ h => h) (Or.inr ⟨by rfl, rfl⟩) ?_ ?_
          rotate_left
          · simp only [Act.put, List.setIfInBounds_toArray, List.set_cons_zero, List.set_cons_succ, i64_w, i32_w]
            rfl
          refine pure_ (i := 11) (N := some 24) (v := ?_) (a' := ?_) #[true, true, true, true, true, true, true, true, true, true, true, true, false, false, false, false, false, false, false, false, false, false, false, false, false, false, false, false] rfl rfl (any_of HT_.out (by kernel_rfl)) (fun _ _ _ h => h) (Or.inl ⟨by rfl, ?_⟩) ?_ ?_
          rotate_left
          · intro w'
            go_simp
            with_reducible rfl
          rotate_left
          · simp only [Act.put, List.setIfInBounds_toArray, List.set_cons_zero, List.set_cons_succ, i64_w, i32_w]
            rfl
          refine pure_ (i := 12) (N := some 25) (v := ?_) (a' := ?_) #[true, true, true, true, true, true, true, true, true, true, true, true, true, false, false, false, false, false, false, false, false, false, false, false, false, false, false, false] rfl rfl (any_of HT_.out (by kernel_rfl)) (fun _ _ _ h => h) (Or.inl ⟨by rfl, ?_⟩) ?_ ?_
          rotate_left
          · intro w'
            go_simp
            with_reducible rfl
          rotate_left
          · simp only [Act.put, List.setIfInBounds_toArray, List.set_cons_zero, List.set_cons_succ, i64_w, i32_w]
            rfl
          refine pure_ (i := 13) (N := some 26) (v := ?_) (a' := ?_) #[true, true, true, true, true, true, true, true, true, true, true, true, true, true, false, false, false, false, false, false, false, false, false, false, false, false, false, false] rfl rfl (any_of HT_.out (by kernel_rfl)) (fun _ _ _ h => h) (Or.inl ⟨by rfl, ?_⟩) ?_ ?_
          rotate_left
          · intro w'
            go_simp
            with_reducible rfl
          rotate_left
          · simp only [Act.put, List.setIfInBounds_toArray, List.set_cons_zero, List.set_cons_succ, i64_w, i32_w]
            rfl
          refine pure_ (i := 14) (N := some 27) (v := ?_) (a' := ?_) #[true, true, true, true, true, true, true, true, true, true, true, true, true, true, true, false, false, false, false, false, false, false, false, false, false, false, false, false] rfl rfl (any_of HT_.out (by kernel_rfl)) (fun _ _ _ h => h) (Or.inl ⟨by rfl, ?_⟩) ?_ ?_
          rotate_left
          · intro w'
            go_simp
            with_reducible rfl
          rotate_left
          · simp only [Act.put, List.setIfInBounds_toArray, List.set_cons_zero, List.set_cons_succ, i64_w, i32_w]
            rfl
          (first | rw [ed2] | (simp only [ed2]) | skip)
          refine pure_ (i := 15) (N := some 28) (v := ?_) (a' := ?_) #[true, true, true, true, true, true, true, true, true, true, true, true, true, true, true, true, false, false, false, false, false, false, false, false, false, false, false, false] rfl rfl (any_of HT_.out (by kernel_rfl)) (fun _ _ _ h => h) (Or.inl ⟨by rfl, ?_⟩) ?_ ?_
          rotate_left
          · intro w'
            go_simp
            with_reducible rfl
          rotate_left
          · simp only [Act.put, List.setIfInBounds_toArray, List.set_cons_zero, List.set_cons_succ, i64_w, i32_w]
            rfl
          refine pure_ (i := 16) (N := some 29) (v := ?_) (a' := ?_) #[true, true, true, true, true, true, true, true, true, true, true, true, true, true, true, true, true, false, false, false, false, false, false, false, false, false, false, false] rfl rfl (any_of HT_.out (by kernel_rfl)) (fun _ _ _ h => h) (Or.inl ⟨by rfl, ?_⟩) ?_ ?_
          rotate_left
          · intro w'
            go_simp
            with_reducible rfl
          rotate_left
          · simp only [Act.put, List.setIfInBounds_toArray, List.set_cons_zero, List.set_cons_succ, i64_w, i32_w]
            rfl
          refine pure_ (i := 17) (N := some 30) (v := ?_) (a' := ?_) #[true, true, true, true, true, true, true, true, true, true, true, true, true, true, true, true, true, true, false, false, false, false, false, false, false, false, false, false] rfl rfl (any_of HT_.out (by kernel_rfl)) (fun _ _ _ h => h) (Or.inl ⟨by rfl, ?_⟩) ?_ ?_
          rotate_left
          · intro w'
            go_simp
            with_reducible rfl
          rotate_left
          · simp only [Act.put, List.setIfInBounds_toArray, List.set_cons_zero, List.set_cons_succ, i64_w, i32_w]
            rfl
          refine pure_ (i := 18) (N := some 31) (v := ?_) (a' := ?_) #[true, true, true, true, true, true, true, true, true, true, true, true, true, true, true, true, true, true, true, false, false, false, false, false, false, false, false, false] rfl rfl (any_of HT_.out (by kernel_rfl)) (fun _ _ _ h => h) (Or.inl ⟨by rfl, ?_⟩) ?_ ?_
          rotate_left
          · intro w'
            go_simp
            with_reducible rfl
          rotate_left
          · simp only [Act.put, List.setIfInBounds_toArray, List.set_cons_zero, List.set_cons_succ, i64_w, i32_w]
            rfl
          refine take_ (i := 19) (N := some 32) (v := ?_) (a' := ?_) #[true, true, true, true, true, true, true, true, true, true, true, true, true, true, true, true, true, true, true, true, false, false, false, false, false, false, false, false] rfl rfl (take_ofW HT_.out HW_.out (by kernel_rfl)) (fun _ _ _ h => h) (Or.inl ⟨by rfl, ?_⟩) hHeld ?_ ?_
          rotate_left
          · rintro w' ⟨s0, s1, s2, s3⟩
            go_simp
            with_reducible rfl
          rotate_left
          · simp only [Act.put, List.setIfInBounds_toArray, List.set_cons_zero, List.set_cons_succ, i64_w, i32_w]
            rfl
          refine pure_ (i := 20) (N := some 33) (v := ?_) (a' := ?_) #[true, true, true, true, true, true, true, true, true, true, true, true, true, true, true, true, true, true, true, true, true, false, false, false, false, false, false, false] rfl rfl (any_of HT_.out (by kernel_rfl)) (fun _ _ _ h => h) (Or.inl ⟨by rfl, ?_⟩) ?_ ?_
          rotate_left
          · intro w'
            go_simp
            with_reducible rfl
          rotate_left
          · simp only [Act.put, List.setIfInBounds_toArray, List.set_cons_zero, List.set_cons_succ, i64_w, i32_w]
            rfl
          refine pure_ (i := 24) (N := some 37) (v := ?_) (a' := ?_) #[true, true, true, true, true, true, true, true, true, true, true, true, true, true, true, true, true, true, true, true, true, false, false, false, true, false, false, false] rfl rfl (any_of HT_.out (by kernel_rfl)) (fun _ _ _ h => h) (Or.inl ⟨by rfl, ?_⟩) ?_ ?_
          rotate_left
          · intro w'
            go_simp
            with_reducible rfl
          rotate_left
          · simp only [Act.put, List.setIfInBounds_toArray, List.set_cons_zero, List.set_cons_succ, i64_w, i32_w]
            rfl
          refine one_ (i := 21) (N := some 34) #[true, true, true, true, true, true, true, true, true, true, true, true, true, true, true, true, true, true, true, true, true, true, false, false, true, false, false, false] rfl rfl (one_of HT_.out (by kernel_rfl)) (by decide) (fun K hK => ?_)
          refine goes_ Try.func43 (by kernel_rfl) rfl #[.pointer (some ⟨X, 0, none⟩)] (by rfl) rfl rfl (by (try simp only [List.map_toArray, List.map_cons, List.map_nil]); first | done | rfl) ?_
          refine (net_whole N3.out HM.out H0.out).mono ?_
          rintro e w6 ⟨rfl, hb_⟩
          refine ⟨_, rfl, ?_⟩
          obtain ⟨s1, s2, s3, s4⟩ := hHeld
          have st_ := Stp.below hb_ own (fun _ => False)
          have HS_ := Aside0.mk (show (fun w' => w'.cell? ⟨X, 1, none⟩ = some (.slice (some ⟨gn, 0, none⟩) N.nul.length cn) ∧ w'.cell? ⟨X, 3, none⟩ = some (.slice (some ⟨gl, 0, none⟩) N.lst.length cl) ∧ w'.cell? ⟨gn, n - 1, none⟩ = some (.bool bn) ∧ w'.cell? ⟨gl, n - 1, none⟩ = some (.slice Al (rdL N.lst ((n : Int) - 1)).length al)) w6 from ⟨st_.cell s1 (fun h => h), st_.cell s2 (fun h => h), st_.cell s3 (fun h => h), st_.cell s4 (fun h => h)⟩)
          have z0_ := Aside0.mk (st_.net N3.out (fun _ _ h => h))
          have z1_ := Aside0.mk (below_step L3.out hb_)
          have z2_ := Aside0.mk (st_.row RL.out (fun h => h))
          clear N3 L3 RL
          have N3 := z0_
          have L3 := z1_
          have RL := z2_
          clear z0_ z1_ z2_
          clear s1 s2 s3 s4 st_ hb_
          refine hK.out _ _ HS_.out (fun hHeld => ?_)
          clear hK K
          refine norm_ (a' := ?_) ?_ ?_
          rotate_left
          · show Act.put _ (some 34) _ = _
            simp only [Act.put, List.setIfInBounds_toArray, List.set_cons_zero, List.set_cons_succ, i64_w, i32_w]
            rfl
          clear HS_
          refine pure_ (i := 22) (N := some 35) (v := ?_) (a' := ?_) #[true, true, true, true, true, true, true, true, true, true, true, true, true, true, true, true, true, true, true, true, true, true, true, false, true, false, false, false] rfl rfl (any_of HT_.out (by kernel_rfl)) (fun _ _ _ h => h) (Or.inl ⟨by rfl, ?_⟩) ?_ ?_
          rotate_left
          · intro w'
            go_simp
            with_reducible rfl
          rotate_left
          · simp only [Act.put, List.setIfInBounds_toArray, List.set_cons_zero, List.set_cons_succ, i64_w, i32_w]
            rfl
          refine take_ (i := 23) (N := some 36) (v := ?_) (a' := ?_) #[true, true, true, true, true, true, true, true, true, true, true, true, true, true, true, true, true, true, true, true, true, true, true, true, true, false, false, false] rfl rfl (take_ofW HT_.out HW_.out (by kernel_rfl)) (fun _ _ _ h => h) (Or.inl ⟨by rfl, ?_⟩) hHeld ?_ ?_
          rotate_left
          · rintro w' ⟨s0, s1, s2, s3⟩
            go_simp
            with_reducible rfl
          rotate_left
          · simp only [Act.put, List.setIfInBounds_toArray, List.set_cons_zero, List.set_cons_succ, i64_w, i32_w]
            rfl
          refine one_ (i := 25) (N := some 38) #[true, true, true, true, true, true, true, true, true, true, true, true, true, true, true, true, true, true, true, true, true, true, true, true, true, true, false, false] rfl rfl (one_of HT_.out (by kernel_rfl)) (by decide) (fun K hK => ?_)
          refine goes_ Try.func71 (by kernel_rfl) rfl #[.slice Al (rdL N.lst ((n : Int) - 1)).length al, .int .i64 q] (by rfl) rfl rfl (by (try simp only [List.map_toArray, List.map_cons, List.map_nil]); first | done | rfl) ?_
          refine (contains_ints Al al (rdL N.lst ((n : Int) - 1)) q _ (Kd.R_reads' RL.out).2.2 (Kd.R_reads' RL.out).2.1).mono ?_
          rintro e wt ⟨rfl, hw_⟩
          have hw2_ := hw_.symm
          subst hw2_
          clear hw_
          refine ⟨_, rfl, ?_⟩
          rw [HCN.out]
          refine hK.out _ _ hHeld (fun hHeld => ?_)
          clear hK K
          refine norm_ (a' := ?_) ?_ ?_
          rotate_left
          · show Act.put _ (some 38) _ = _
            simp only [Act.put, List.setIfInBounds_toArray, List.set_cons_zero, List.set_cons_succ, i64_w, i32_w]
            rfl
          refine pure_ (i := 26) (N := some 39) (v := ?_) (a' := ?_) #[true, true, true, true, true, true, true, true, true, true, true, true, true, true, true, true, true, true, true, true, true, true, true, true, true, true, true, false] rfl rfl (any_of HT_.out (by kernel_rfl)) (fun _ _ _ h => h) (Or.inl ⟨by rfl, ?_⟩) ?_ ?_
          rotate_left
          · intro w'
            go_simp
            with_reducible rfl
          rotate_left
          · simp only [Act.put, List.setIfInBounds_toArray, List.set_cons_zero, List.set_cons_succ, i64_w, i32_w]
            rfl
          refine pure_ (i := 27) (N := some 40) (v := ?_) (a' := ?_) #[true, true, true, true, true, true, true, true, true, true, true, true, true, true, true, true, true, true, true, true, true, true, true, true, true, true, true, true] rfl rfl (any_of HT_.out (by kernel_rfl)) (fun _ _ _ h => h) (Or.inl ⟨by rfl, ?_⟩) ?_ ?_
          rotate_left
          · intro w'
            go_simp
            with_reducible rfl
          rotate_left
          · simp only [Act.put, List.setIfInBounds_toArray, List.set_cons_zero, List.set_cons_succ, i64_w, i32_w]
            rfl
          refine done_ (done_of HT_.out (by kernel_rfl)) ?_
          have HF := Aside0.mk (show mayF N n l = (l.drop (i + 1)).any (endB N n) by rw [HD.out, HEB.out, Bool.false_or])
          go_wp2
          go_roundg (n1 - (i + 1))
          case measure => have := HG.out; omega
          case rel => exact ⟨i + 1, by omega, by omega, by go_num, HF, N3, L3⟩
    · have hlz : ¬ ((i : Int) < (n1 : Int)) := by omega
      have : i = n1 := by omega
      subst this
      have HF := Aside0.mk (show mayF N n l = false by rw [GQ.out, ← HN1.out, List.drop_length]; rfl)
      go_wp2
      go_ret
      exact ⟨by rw [HF.out]; first | done | rfl, L3.out⟩
def stepOk (N : NetV) (n : Nat) (at_ : List Int) : Prop := (∀ q ∈ at_, q < (N.fol.length : Int) ∧ inB n (nextF N n q)) ∧ sumN N n at_ < LIMK
instance (N : NetV) (n : Nat) (at_ : List Int) : Decidable (stepOk N n at_) := inferInstanceAs (Decidable ((∀ q ∈ at_, q < (N.fol.length : Int) ∧ inB n (nextF N n q)) ∧ sumN N n at_ < LIMK))
def runO (p : List (S49)) (N : NetV) (n : Nat) : List ByteArray → List Int → Option (List Int)
  | [], at_ => some at_
  | nm :: names, at_ => if stepOk N n at_ then runO p N n names (stepF p N n nm at_) else none
def impl_Accepts.f (k : Nat) (l0 : List (S49)) (l1 : List ByteArray) : Option Bool :=
  (impl_ParticleOk.f k l0).bind fun t => if t = true then (if l1.length ≤ 200 then ((netOfF l0).bind fun N => if 0 < l0.length ∧ N.fst.length = l0.length ∧ (∀ l ∈ N.fst, l.length < LIMK) ∧ N.nul.length = l0.length ∧ N.lst.length = l0.length then (runO l0 N l0.length l1 [-1]).map (mayF N l0.length) else none) else some false) else some false
set_option maxHeartbeats 1000000 in
theorem net_start (w : World) : Calls Try.prog 53 #[] w (StepPost w [-1]) := by
  have L3 := Aside0.mk (Below.refl w.heap.size w)
  go_enter Try.func53, Try.ntmps53
  go_wp2_with (first | ((with_reducible refine gate_dst (N := 1) rfl ?_); refine lit_ints (w0 := w) (W := w) (own := fun _ => 0) ?hg (N := 1) ?hd [-1] 5 ?hr L3.out (by simp) ?_; (case hd => rfl); (case hg => rfl); (case hr => first | (go_simp; done) | (go_simp; rfl)); intro v7 w4 own4 hv_ st_ hb_; have R5 := Aside0.mk hv_; have z_ := Aside0.mk hb_; clear L3; have L3 := z_; clear z_ hv_ st_ hb_))
  go_ret
  exact ⟨_, rfl, Kd.R_mono R5.out (fun _ _ => trivial), L3.out⟩
theorem drop_str {l : List ByteArray} {i : Nat} (h : i < l.length) : l.drop i = rdOf ByteArray.empty l (i : Int) :: l.drop (i + 1) := by
  rw [List.drop_eq_getElem_cons h]
  unfold rdOf
  rw [Int.toNat_natCast, List.getD_eq_getElem?_getD, List.getElem?_eq_getElem h]
  rfl
set_option maxHeartbeats 4000000 in
set_option maxRecDepth 100000 in
theorem impl_Accepts.calls (k : Nat) (A0 : Option Addr) (c0 : Nat) (l0 : List (S49)) (A1 : Option Addr) (c1 : Nat) (l1 : List ByteArray) (r : Bool) (w : World) (hr0 : Kd.C k49 w A0 l0.length l0) (hc0 : l0.length ≤ c0) (hr1 : Kd.C Kd.string w A1 l1.length l1) (hc1 : l1.length ≤ c1) (h : impl_Accepts.f k l0 l1 = some r) :
    Calls Try.prog 31 #[.slice A0 l0.length c0, .slice A1 l1.length c1] w fun e w' => e = .returned (.bool r) ∧ Below w.heap.size w w' := by
  unfold impl_Accepts.f at h
  obtain ⟨t, ht, h⟩ := Option.bind_eq_some_iff.1 h
  have HT := Aside0.mk ht
  have HR := Aside0.mk hr0
  have HC := Aside0.mk hc0
  have H1 := Aside0.mk hr1
  have HC1 := Aside0.mk hc1
  have HB := Aside0.mk (Below.refl w.heap.size w)
  have hm1 : l1.length ≤ 9223372036854775807 := Kd.C_max hr1
  clear ht hr0 hc0 hr1
  cases t with
  | true =>
    simp only [if_true] at h
    by_cases hlen : l1.length ≤ 200
    · rw [if_pos hlen] at h
      obtain ⟨N, hN, h⟩ := Option.bind_eq_some_iff.1 h
      by_cases hg : 0 < l0.length ∧ N.fst.length = l0.length ∧ (∀ l ∈ N.fst, l.length < LIMK) ∧ N.nul.length = l0.length ∧ N.lst.length = l0.length
      · rw [if_pos hg] at h
        obtain ⟨fin, hfin, hr⟩ := Option.map_eq_some_iff.1 h
        have HNF := Aside0.mk hN
        have HG := Lib.hid hg
        have HFIN := Aside0.mk hfin
        have HRV := Aside0.mk hr
        have hgt : decide ((l1.length : Int) > 200) = false := decide_eq_false (by omega)
        have hgt2 : ¬ ((l1.length : Int) > 200) := by omega
        clear hN hg h hfin hr
        obtain ⟨n1, hn1⟩ : ∃ n, l1.length = n := ⟨_, rfl⟩
        rw [hn1] at hc1 hm1 hgt hgt2 hlen ⊢
        have HN1 := Aside0.mk hn1
        clear hn1
        go_enter Try.func31, Try.ntmps31
        go_wp2_with (first | ((with_reducible refine gate_callee (f := 37) rfl ?_); refine goesL_ (some 10) rfl rfl Try.func37 (by kernel_rfl) rfl #[.slice A0 l0.length c0] rfl (by (try simp only [List.map_toArray, List.map_cons, List.map_nil]); first | done | rfl) ?_; (with_reducible refine (impl_ParticleOk.calls k A0 c0 l0 true _ (Kd.C_below HR.out HB.out) HC.out HT.out).mono ?_); rintro e w1 ⟨rfl, hb_⟩; refine ⟨_, rfl, ?_⟩; have z_ := Aside0.mk (below_step HB.out hb_); clear HB hb_; have HB := z_; clear z_) | ((with_reducible refine gate_callee (f := 38) rfl ?_); refine goesL_ (some 18) rfl rfl Try.func38 (by kernel_rfl) rfl #[.slice A0 l0.length c0] rfl (by (try simp only [List.map_toArray, List.map_cons, List.map_nil]); first | done | rfl) ?_; (with_reducible refine (net_of A0 c0 l0 _ (Kd.C_below HR.out HB.out) HC.out N HNF.out).mono ?_); rintro e w2 ⟨X, own, nv, fv, lv, wv, ms, rfl, hn_, hb_⟩; refine ⟨_, rfl, ?_⟩; have HN3 := Aside0.mk hn_; have z_ := Aside0.mk (below_step HB.out hb_); clear HB hb_ hn_; have HB := z_; clear z_) | ((with_reducible refine gate_callee (f := 53) rfl ?_); refine goesL_ (some 19) rfl rfl Try.func53 (by kernel_rfl) rfl #[] rfl (by (try simp only [List.map_toArray, List.map_cons, List.map_nil]); first | done | rfl) ?_; (with_reducible refine (net_start _).mono ?_); rintro e w3 ⟨vs, rfl, hr_, hb_⟩; refine ⟨_, rfl, ?_⟩; have RA := Aside0.mk (Kd.R_lower hr_ HB.out.size); have st_ := Stp.below hb_ own (fun _ => False); have z0_ := Aside0.mk (st_.net HN3.out (fun _ _ h => h)); have z1_ := Aside0.mk (below_step HB.out hb_); clear HN3 HB; have HN3 := z0_; have HB := z1_; clear z0_ z1_; clear hb_ hr_ st_))
        go_loopg [6, 22] n1 (fun gg s6 s22 wr => ∃ (i : Nat) (v : Value) (at_ : List Int), i ≤ n1 ∧ n1 - i ≤ gg ∧ s6 = v ∧ s22 = .int .i64 i ∧ Aside0 (runO l0 N l0.length (l1.drop i) at_ = some fin) ∧ Aside0 (Kd.R (Kd.int .i64) 2 wr w.heap.size (fun _ => True) v at_) ∧ Aside0 (NetW wr w1.heap.size X own (.slice A0 l0.length c0) nv fv lv wv N ms) ∧ Aside0 (Below w.heap.size w wr))
        case atStart => exact ⟨0, _, [-1], Nat.zero_le _, by omega, rfl, rfl, HFIN, RA, HN3, HB⟩
        case round =>
          obtain ⟨i, v, at_, hi, hgg, rfl, rfl, GF, RA', N3', L3'⟩ := hrel
          clear RA HN3 HB
          have RA := RA'
          have N3 := N3'
          have L3 := L3'
          clear RA' N3' L3'
          obtain ⟨Aa, ca, eo⟩ := Kd.R_slice RA.out
          subst eo
          by_cases hlt : i < n1
          · have hlz : (i : Int) < (n1 : Int) := by omega
            have hl : i < l1.length := by have := HN1.out; omega
            obtain ⟨ad1, e, hcell⟩ := Kd.at_string H1.out (i : Int) (by omega) (by omega)
            subst e
            rw [Int.toNat_natCast] at hcell
            replace hcell := (L3.out.cell (World.block_lt_of_cell? w _ hcell)).trans hcell
            have hd := drop_str hl
            obtain ⟨nm, hnm⟩ : ∃ nm, rdOf ByteArray.empty l1 (i : Int) = nm := ⟨_, rfl⟩
            rw [hnm] at hcell hd
            have hF := GF.out
            rw [hd] at hF
            unfold runO at hF
            by_cases hst : stepOk N l0.length at_
            · rw [if_pos hst] at hF
              have HF := Aside0.mk hF
              have HST := Aside0.mk (show (∀ q ∈ at_, q < (N.fol.length : Int) ∧ inB l0.length (nextF N l0.length q)) ∧ sumN N l0.length at_ < LIMK from hst)
              have HGG := Aside0.mk hgg
              clear hnm hd hF hst hgg hl GF
              go_wp2_with (first | ((with_reducible refine gate_callee (f := 54) rfl ?_); refine goesL_ (some 29) rfl rfl Try.func54 (by kernel_rfl) rfl #[.pointer (some ⟨X, 0, none⟩), .slice Aa at_.length ca, .string nm] rfl (by (try simp only [List.map_toArray, List.map_cons, List.map_nil]); first | done | rfl) ?_; (with_reducible refine (net_step w1 _ X own nv fv lv wv N ms A0 l0.length c0 l0 Aa ca at_ nm N3.out (Kd.C_below HR.out L3.out) rfl (Kd.R_reads' RA.out).2.2 (Kd.R_reads' RA.out).2.1 HG.out.1 HG.out.2.1 HG.out.2.2.1 HST.out.1 HST.out.2).mono ?_); rintro e w5 ⟨vn, rfl, hr_, hb_⟩; refine ⟨_, rfl, ?_⟩; have RN := Aside0.mk (Kd.R_lower hr_ L3.out.size); have st_ := Stp.below hb_ own (fun _ => False); have z0_ := Aside0.mk (st_.net N3.out (fun _ _ h => h)); have z1_ := Aside0.mk (below_step L3.out hb_); clear N3 L3; have N3 := z0_; have L3 := z1_; clear z0_ z1_; clear hb_ hr_ st_))
              go_roundg (n1 - (i + 1))
              case measure => have := HGG.out; omega
              case rel => exact ⟨i + 1, _, _, by omega, by omega, rfl, by go_num, HF, RN, N3, L3⟩
            · rw [if_neg hst] at hF
              cases hF
          · have hlz : ¬ ((i : Int) < (n1 : Int)) := by omega
            have : i = n1 := by omega
            subst this
            have hF := GF.out
            rw [← HN1.out, List.drop_length] at hF
            have hfe : at_ = fin := Option.some.inj hF
            have HRE := Aside0.mk (show r = mayF N l0.length at_ by rw [← HRV.out, hfe])
            clear hF hfe GF
            go_wp2_with (first | ((with_reducible refine gate_callee (f := 56) rfl ?_); refine goesL_ (some 33) rfl rfl Try.func56 (by kernel_rfl) rfl #[.pointer (some ⟨X, 0, none⟩), .slice Aa at_.length ca] rfl (by (try simp only [List.map_toArray, List.map_cons, List.map_nil]); first | done | rfl) ?_; (with_reducible refine (net_mayend w1 _ X own nv fv lv wv N ms A0 l0.length c0 Aa ca at_ N3.out (Kd.C_max HR.out) HG.out.1 (Kd.R_reads' RA.out).2.2 (Kd.R_reads' RA.out).2.1 HG.out.2.2.2.1 HG.out.2.1 HG.out.2.2.2.2).mono ?_); rintro e w5 ⟨rfl, hb_⟩; refine ⟨_, rfl, ?_⟩; have z0_ := Aside0.mk (below_step L3.out hb_); clear L3; have L3 := z0_; clear z0_; clear hb_))
            go_ret
            exact ⟨by rw [HRE.out]; first | done | rfl, L3.out⟩
      · rw [if_neg hg] at h
        cases h
    · rw [if_neg hlen] at h
      obtain rfl := Option.some.inj h
      have hgt : decide ((l1.length : Int) > 200) = true := decide_eq_true (by omega)
      have hgt2 : (l1.length : Int) > 200 := by omega
      clear h hlen
      go_enter Try.func31, Try.ntmps31
      go_wp2_with (first | ((with_reducible refine gate_callee (f := 37) rfl ?_); refine goesL_ (some 10) rfl rfl Try.func37 (by kernel_rfl) rfl #[.slice A0 l0.length c0] rfl (by (try simp only [List.map_toArray, List.map_cons, List.map_nil]); first | done | rfl) ?_; (with_reducible refine (impl_ParticleOk.calls k A0 c0 l0 true _ (Kd.C_below HR.out HB.out) HC.out HT.out).mono ?_); rintro e w1 ⟨rfl, hb_⟩; refine ⟨_, rfl, ?_⟩; have z_ := Aside0.mk (below_step HB.out hb_); clear HB hb_; have HB := z_; clear z_))
      go_ret
      exact ⟨rfl, HB.out⟩
  | false =>
    simp only [Bool.false_eq_true, if_false, Option.some.injEq] at h
    subst h
    go_enter Try.func31, Try.ntmps31
    go_wp2_with (first | ((with_reducible refine gate_callee (f := 37) rfl ?_); refine goesL_ (some 10) rfl rfl Try.func37 (by kernel_rfl) rfl #[.slice A0 l0.length c0] rfl (by (try simp only [List.map_toArray, List.map_cons, List.map_nil]); first | done | rfl) ?_; (with_reducible refine (impl_ParticleOk.calls k A0 c0 l0 false _ (Kd.C_below HR.out HB.out) HC.out HT.out).mono ?_); rintro e w1 ⟨rfl, hb_⟩; refine ⟨_, rfl, ?_⟩; have z_ := Aside0.mk (below_step HB.out hb_); clear HB hb_; have HB := z_; clear z_))
    go_ret
    exact ⟨rfl, HB.out⟩
end Go.Proofs.Ytejkkdjfiebmfaa.L
