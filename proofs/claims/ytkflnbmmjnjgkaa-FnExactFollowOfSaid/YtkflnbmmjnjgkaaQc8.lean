/- Words and contracts for the row RowFnExactFollowOf: what the Go functions answer that it calls; printed by programs of the kit and of this session, and merged. -/
import Derived.Test.YtkflnbmmjnjgkaaQc7
import Derived.Shelf.SortM.Plain
import Derived.Shelf.SortM.SortNone
import Derived.Test.YtkflnbmmjnjgkaaProg
import Derived.Sort.Walk0
import Derived.Sort.OwnSortedInts
import Derived.Lib.Hide
import Derived.Outline
namespace Go.Proofs
open Go.Shelf
def Try.laysSlM5_f44_ren : Go.Shelf.Ren := ⟨fun | 5 => 44 | 8 => 69 | 7 => 68 | 19 => 85 | 20 => 86 | 10 => 76 | 11 => 77 | 12 => 78 | 13 => 79 | 14 => 80 | 15 => 81 | 16 => 82 | 17 => 83 | 18 => 84 | 30 => 90 | 31 => 91 | 32 => 92 | 33 => 93 | 34 => 94 | 35 => 95 | 40 => 96 | n => n, fun | 23 => 24 | 25 => 2 | 3 => 3 | 32 => 78 | 22 => 24 | 0 => 0 | 44 => 92 | 46 => 94 | 4 => 4 | 36 => 84 | 35 => 83 | 41 => 89 | 5 => 5 | 9 => 9 | 53 => 96 | 57 => 100 | 63 => 103 | 64 => 104 | n => n, fun | n => n⟩
theorem Try.laysSlM5_f44 : Go.Proofs.SlLaysM.n5 Try.prog Try.laysSlM5_f44_ren := {
  mixed := by kernel_rfl
  f5 := ⟨Try.f44.name, by decide, Try.func44.trans (congrArg some (by kernel_rfl))⟩
  f7 := ⟨Try.f68.name, by decide, Try.func68.trans (congrArg some (by kernel_rfl))⟩
  f8 := Try.func69.trans (congrArg some (by kernel_rfl))
  f10 := ⟨Try.f76.name, by decide, Try.func76.trans (congrArg some (by kernel_rfl))⟩
  f11 := ⟨Try.f77.name, by decide, Try.func77.trans (congrArg some (by kernel_rfl))⟩
  f12 := ⟨Try.f78.name, by decide, Try.func78.trans (congrArg some (by kernel_rfl))⟩
  f13 := ⟨Try.f79.name, by decide, Try.func79.trans (congrArg some (by kernel_rfl))⟩
  f14 := ⟨Try.f80.name, by decide, Try.func80.trans (congrArg some (by kernel_rfl))⟩
  f15 := ⟨Try.f81.name, by decide, Try.func81.trans (congrArg some (by kernel_rfl))⟩
  f16 := ⟨Try.f82.name, by decide, Try.func82.trans (congrArg some (by kernel_rfl))⟩
  f17 := ⟨Try.f83.name, by decide, Try.func83.trans (congrArg some (by kernel_rfl))⟩
  f18 := ⟨Try.f84.name, by decide, Try.func84.trans (congrArg some (by kernel_rfl))⟩
  f19 := Try.func85.trans (congrArg some (by kernel_rfl))
  f20 := Try.func86.trans (congrArg some (by kernel_rfl))
  f30 := ⟨Try.f90.name, by decide, Try.func90.trans (congrArg some (by kernel_rfl))⟩
  f31 := Try.func91.trans (congrArg some (by kernel_rfl))
  f32 := Try.func92.trans (congrArg some (by kernel_rfl))
  f33 := ⟨Try.f93.name, by decide, Try.func93.trans (congrArg some (by kernel_rfl))⟩
  f34 := ⟨Try.f94.name, by decide, Try.func94.trans (congrArg some (by kernel_rfl))⟩
  f35 := ⟨Try.f95.name, by decide, Try.func95.trans (congrArg some (by kernel_rfl))⟩
  f40 := ⟨Try.f96.name, by decide, Try.func96.trans (congrArg some (by kernel_rfl))⟩
  t0 := Try.underlying0
  a0 := Try.isAgg0
  z0 := Try.sizeOf0
  v0 := Try.zeroValue0
  t3 := Try.underlying3
  a3 := Try.isAgg3
  z3 := Try.sizeOf3
  v3 := Try.zeroValue3
  t4 := Try.underlying4
  a4 := Try.isAgg4
  z4 := Try.sizeOf4
  v4 := Try.zeroValue4
  t5 := Try.underlying5
  a5 := Try.isAgg5
  z5 := Try.sizeOf5
  v5 := Try.zeroValue5
  t9 := Try.underlying9
  a9 := Try.isAgg9
  z9 := Try.sizeOf9
  v9 := Try.zeroValue9
  t22 := Try.underlying24
  a22 := Try.isAgg24
  z22 := Try.sizeOf24
  v22 := Try.zeroValue24
  t23 := Try.underlying24
  a23 := Try.isAgg24
  z23 := Try.sizeOf24
  v23 := Try.zeroValue24
  t25 := Try.underlying2
  a25 := Try.isAgg2
  z25 := Try.sizeOf2
  v25 := Try.zeroValue2
  t32 := Try.underlying78
  a32 := Try.isAgg78
  z32 := Try.sizeOf78
  v32 := Try.zeroValue78
  t35 := Try.underlying83
  a35 := Try.isAgg83
  z35 := Try.sizeOf83
  v35 := Try.zeroValue83
  t36 := Try.underlying84
  a36 := Try.isAgg84
  z36 := Try.sizeOf84
  v36 := Try.zeroValue84
  t41 := Try.underlying89
  a41 := Try.isAgg89
  z41 := Try.sizeOf89
  v41 := Try.zeroValue89
  t44 := Try.underlying92
  a44 := Try.isAgg92
  z44 := Try.sizeOf92
  v44 := Try.zeroValue92
  t46 := Try.underlying94
  a46 := Try.isAgg94
  z46 := Try.sizeOf94
  v46 := Try.zeroValue94
  t53 := Try.underlying96
  a53 := Try.isAgg96
  z53 := Try.sizeOf96
  v53 := Try.zeroValue96
  t57 := Try.underlying100
  a57 := Try.isAgg100
  z57 := Try.sizeOf100
  v57 := Try.zeroValue100
  t63 := Try.underlying103
  a63 := Try.isAgg103
  z63 := Try.sizeOf103
  v63 := Try.zeroValue103
  t64 := Try.underlying104
  a64 := Try.isAgg104
  z64 := Try.sizeOf104
  v64 := Try.zeroValue104 }
open Go.Sort Go.RowKit in
theorem Try.slices_Sort_int (blk off cap : Nat) (zs : List Int) (w : World) (hH : Holds (Value.int .i64) w blk off zs.toArray) (hblk : blk < w.heap.size) (hsz : zs.length < 4611686018427387904) :
    Calls Try.prog 44 #[.slice (some ⟨blk, off, none⟩) zs.length cap] w fun e w' =>
      e = .returned (.tuple #[]) ∧ ∃ n os, w' = grow (putRow (Value.int .i64) (Sort.ahead w n) blk off (zs.mergeSort fun x y => decide (x ≤ y)).toArray) os := AnyM.slices_Sort_int Try.laysSlM5_f44 blk off cap zs w hH hblk hsz
open Go.RowKit Go.Sort in
/-- .. and plain. (LAID AT THE INSTANCE 'slices.Sort[[]int64,int64]': no walk: one application.) -/
theorem Try.slices_Sort_int_none (p : Option Addr) (cap : Nat) (w : World) :
    Calls Try.prog 44 #[.slice p 0 cap] w fun e w' => e = .returned (.tuple #[]) ∧ w' = w := AnyM.slices_Sort_int_none Try.laysSlM5_f44 p cap w
end Go.Proofs

namespace Go.Proofs.Ytkflnbmmjnjgkaa.Pure
open Go.RowKit Go.Proofs.Ytkflnbmmjnjgkaa.L Go.Proofs.YtkflnbmmjnjgkaaW.PrintWords Go.Proofs.YtkflnbmmjnjgkaaW.PrintLast Go.Proofs.YtkflnbmmjnjgkaaW.PrintMore
set_option linter.unusedVariables false
set_option linter.unusedSimpArgs false

theorem sz (a : ByteArray) : a.size = a.data.toList.length := (data_length a).symm
theorem w64 {n : Int} (h : -9223372036854775808 ≤ n) (h' : n ≤ 9223372036854775807) : wrap64 n = n := by unfold wrap64; omega
theorem bt_nat (s : ByteArray) (i : Nat) (h : i < s.data.toList.length) : bt s (i : Int) = ((s.data.toList[i]).toNat : Int) := by
  have h' : i < s.size := by rw [sz]; exact h
  unfold bt
  rw [dif_pos (by simpa using h')]
  simp only [Int.toNat_natCast]
  rfl
theorem first_bt (s : ByteArray) (b : UInt8) (l : List UInt8) (h : s.data.toList = b :: l) : bt s 0 = (b.toNat : Int) := by
  have := bt_nat s 0 (by rw [h]; simp)
  simp only [h, Int.ofNat_zero, List.getElem_cons_zero] at this
  simpa using this
end Go.Proofs.Ytkflnbmmjnjgkaa.Pure

namespace Go.Proofs.Ytkflnbmmjnjgkaa.Pure
set_option linter.unusedVariables false
set_option linter.unusedSimpArgs false

namespace MT
def Ris (l : List Int) : Prop := l.Pairwise (· < ·)
theorem up_ext : ∀ {a b : List Int}, Ris a → Ris b → (∀ x, x ∈ a ↔ x ∈ b) → a = b
  | [], [], _, _, _ => rfl
  | [], y :: b, _, _, h => absurd ((h y).2 (by simp)) (by simp)
  | x :: a, [], _, _, h => absurd ((h x).1 (by simp)) (by simp)
  | x :: a, y :: b, ha, hb, h => by
    unfold Ris at ha hb
    rw [List.pairwise_cons] at ha hb
    have e : x = y := by
      rcases List.mem_cons.1 ((h x).1 (by simp)) with h1 | h1
      · exact h1
      · rcases List.mem_cons.1 ((h y).2 (by simp)) with h2 | h2
        · exact h2.symm
        · have := hb.1 x h1
          have := ha.1 y h2
          omega
    subst e
    rw [up_ext ha.2 hb.2 (fun z => ?_)]
    constructor
    · intro hz
      rcases List.mem_cons.1 ((h z).1 (by simp [hz])) with h1 | h1
      · have := ha.1 z hz
        omega
      · exact h1
    · intro hz
      rcases List.mem_cons.1 ((h z).2 (by simp [hz])) with h1 | h1
      · have := hb.1 z hz
        omega
      · exact h1
/-- Put in at its place, once. -/
def put1 (x : Int) : List Int → List Int
  | [] => [x]
  | y :: l => if y < x then y :: put1 x l else if y = x then y :: l else x :: y :: l
def srt (l : List Int) : List Int := l.foldl (fun a x => put1 x a) []
theorem mem_put1 {x z : Int} : ∀ {l : List Int}, z ∈ put1 x l ↔ z = x ∨ z ∈ l
  | [] => by simp [put1]
  | y :: l => by
    unfold put1
    split
    · rw [List.mem_cons, mem_put1, List.mem_cons]
      constructor
      · rintro (h | h | h)
        · exact .inr (.inl h)
        · exact .inl h
        · exact .inr (.inr h)
      · rintro (h | h | h)
        · exact .inr (.inl h)
        · exact .inl h
        · exact .inr (.inr h)
    · split
      · rename_i e
        subst e
        simp
      · simp
theorem up_put1 {x : Int} : ∀ {l : List Int}, Ris l → Ris (put1 x l)
  | [], _ => by simp [put1, Ris]
  | y :: l, h => by
    unfold Ris at h
    rw [List.pairwise_cons] at h
    unfold put1
    split
    · rename_i c
      refine List.pairwise_cons.2 ⟨fun z hz => ?_, up_put1 h.2⟩
      rcases mem_put1.1 hz with rfl | hz
      · exact c
      · exact h.1 z hz
    · split
      · exact List.pairwise_cons.2 h
      · refine List.pairwise_cons.2 ⟨fun z hz => ?_, List.pairwise_cons.2 h⟩
        rcases List.mem_cons.1 hz with rfl | hz
        · omega
        · have := h.1 z hz
          omega
theorem srt_from : ∀ (l a : List Int), Ris a → Ris (l.foldl (fun a x => put1 x a) a) ∧ ∀ z, z ∈ l.foldl (fun a x => put1 x a) a ↔ z ∈ a ∨ z ∈ l
  | [], a, h => ⟨h, by simp⟩
  | x :: l, a, h => by
    obtain ⟨h1, h2⟩ := srt_from l (put1 x a) (up_put1 h)
    refine ⟨h1, fun z => ?_⟩
    rw [List.foldl_cons, h2, mem_put1, List.mem_cons]
    constructor
    · rintro ((h | h) | h)
      · exact .inr (.inl h)
      · exact .inl h
      · exact .inr (.inr h)
    · rintro (h | h | h)
      · exact .inl (.inr h)
      · exact .inl (.inl h)
      · exact .inr h
theorem up_srt (l : List Int) : Ris (srt l) := (srt_from l [] .nil).1
theorem mem_srt {l : List Int} {z : Int} : z ∈ srt l ↔ z ∈ l := by
  rw [srt, (srt_from l [] .nil).2]
  simp
theorem srt_of {a l : List Int} (h : Ris a) (hm : ∀ z, z ∈ a ↔ z ∈ l) : a = srt l := up_ext h (up_srt l) (fun z => by rw [hm, mem_srt])
theorem srt_congr {a b : List Int} (h : ∀ z, z ∈ a ↔ z ∈ b) : srt a = srt b := up_ext (up_srt a) (up_srt b) (fun z => by rw [mem_srt, mem_srt, h])
end MT
end Go.Proofs.Ytkflnbmmjnjgkaa.Pure

namespace Go.Proofs.Ytkflnbmmjnjgkaa.L
open Go.RowKit Go.Proofs.YtkflnbmmjnjgkaaW.PrintWords Go.Proofs.YtkflnbmmjnjgkaaW.PrintLast Go.Proofs.YtkflnbmmjnjgkaaW.PrintMore
set_option linter.unusedVariables false
set_option linter.unusedSimpArgs false

def isort (xs : List Int) : List Int := xs.mergeSort fun x y => decide (x ≤ y)
theorem isort_length (xs : List Int) : (isort xs).length = xs.length := List.length_mergeSort _
theorem mem_isort {xs : List Int} {x : Int} : x ∈ isort xs ↔ x ∈ xs := List.mem_mergeSort
theorem sort_ints (w : World) (base : Nat) (ok : Nat → Prop) (v : Value) (xs : List Int) (HO : Kd.R (Kd.int .i64) 2 w base ok v xs) (hl : xs.length < 4611686018427387904) :
    Calls Try.prog 44 #[v] w fun e w' => e = .returned (.tuple #[]) ∧ Kd.R (Kd.int .i64) 2 w' base ok v (isort xs) ∧ w.grownBy w' v.ownBlock := by
  have h := Kd.own_of_R (enc := Value.int .i64) (h1 := fun _ => rfl) HO
  rcases h.2 with ⟨rfl, h0⟩ | ⟨g, cap, cur, rfl, hg, hh, hnc, hcm, hcs, ht⟩
  · have hx : xs = [] := List.eq_nil_of_length_eq_zero h0
    subst hx
    refine (Try.slices_Sort_int_none none 0 w).mono ?_
    rintro e w' ⟨rfl, rfl⟩
    exact ⟨rfl, (by rw [show isort [] = [] by simp [isort]]; exact HO), ⟨rfl, rfl, rfl, Nat.le_refl _, fun _ _ _ => rfl⟩⟩
  · have ht' : cur.toList.take xs.length = xs.map (Value.int .i64) := by simpa [Kd.scalar, encs] using ht
    refine (Try.slices_Sort_int g 0 cap xs w (holds_of_blockI hh ht') (blk_lt hh) hl).mono ?_
    rintro e w' ⟨rfl, n, os, rfl⟩
    refine ⟨rfl, ?_, grownBy_sortedI _⟩
    have h2 := ownsRow_sortedI (base := base) (n := n) (os := os) (ss := xs) (ts := isort xs) (isort_length xs) hg hh hnc hcm (by simpa using hcs)
    refine Kd.R_of_own (enc := Value.int .i64) (h1 := fun _ => rfl) ?_ HO.1
    rw [isort_length]
    exact h2
open Pure.MT in
theorem isort_up {xs : List Int} (hn : xs.Nodup) : Ris (isort xs) := by
  have h1 : (isort xs).Pairwise (fun x y => decide (x ≤ y) = true) := List.pairwise_mergeSort (fun a b c h1 h2 => by simp only [decide_eq_true_eq] at *; omega) (fun a b => by simp only [Bool.or_eq_true, decide_eq_true_eq]; omega) xs
  have h2 : (isort xs).Nodup := (List.mergeSort_perm xs _).nodup_iff.2 hn
  exact (List.pairwise_and_iff.2 ⟨h1, h2⟩).imp (fun {a b} h => by have := of_decide_eq_true h.1; have := h.2; omega)
open Pure.MT in
/-- Of a row without repeats: the one order. -/
theorem isort_srt {xs l : List Int} (hn : xs.Nodup) (h : ∀ x, x ∈ xs ↔ x ∈ l) : isort xs = srt l := srt_of (isort_up hn) (fun z => by rw [mem_isort, h])
def nextF (N : NetV) (n : Nat) (q : Int) : List Int := if q < 0 then isort (rdL N.fst ((n : Int) - 1)) else Pure.MT.srt (rdL N.fol q)
section
variable {w w1 : World} {base X : Nat} {own own' : Tags} {nv fv lv wv : Value} {N : NetV} {ms : List Nat} {A0 : Option Addr} {n c0 : Nat}
theorem net_whole (hN : NetW w base X own (.slice A0 n c0) nv fv lv wv N ms) (hn : n ≤ 9223372036854775807) (h0 : 0 < n) :
    Calls Try.prog 43 #[.pointer (some ⟨X, 0, none⟩)] w fun e w' => e = .returned (.int .i64 ((n : Int) - 1)) ∧ Below w.heap.size w w' := by
  obtain ⟨hx0, -, -, -, -, -⟩ := hN.cellAt
  clear hN
  go_enter Try.func43, Try.ntmps43
  go_wp2
  go_ret
  exact ⟨rfl, Below.refl _ _⟩
theorem Going.step {b r : Nat} {l done : List Int} (h : Going w b r l done) (hb : w1.heap[b]? = w.heap[b]?) (hr : w1.heap[r]? = w.heap[r]?) : Going w1 b r l done ∧ w1.rangeLeft b r = w.rangeLeft b r := by
  obtain ⟨D, left, cnt, ⟨es, clock, since, seen, q, h1, h2, h3, h4, h5, h6⟩, h7⟩ := h
  refine ⟨⟨D, left, cnt, ⟨es, clock, since, seen, q, hb.trans h1, h2, h3, h4, hr.trans h5, h6⟩, h7⟩, ?_⟩
  unfold World.rangeLeft
  rw [hb, hr]
theorem Going.rlt {b r : Nat} {l done : List Int} (h : Going w b r l done) : r < w.heap.size := by
  obtain ⟨D, left, cnt, h1, _⟩ := h
  exact h1.lt
theorem Going.small {b r : Nat} {l done : List Int} (h : Going w b r l done) : done.length ≤ 4096 := by
  obtain ⟨D, left, cnt, _, _, hr, _, hn, hs⟩ := h
  have := pigeon 4096 (done.map Int.toNat) (List.pairwise_map.2 (hn.imp_of_mem (fun {a c} ha hc hne e => hne (by have := hr a (hs a ha); have := hr c (hs c hc); omega)))) (fun z hz => by
    obtain ⟨x, hx, rfl⟩ := List.mem_map.1 hz
    have := hr x (hs x hx)
    omega)
  rwa [List.length_map] at this
end
def net_next.T3 : Bool × List (List Nat × List Nat) := (true, [([], []), ([], []), ([1], [1]), ([2], [2]), ([3], [3]), ([], []), ([5], [5]), ([4, 6], [4, 6]), ([7], [7]), ([0, 8, 6], [0, 8]), ([9, 9, 0, 1, 2, 3, 4, 5, 6, 7, 8, 9], [0, 9])])
def net_next.B3 : List Nat := [0, 0, 2, 6, 14, 0, 32, 126, 254, 511, 1023]
theorem net_next.tab3 : rtab .any (opsOf Try.f39 3) = net_next.T3 := by kernel_rfl
theorem net_next.bits3 : waitsOk net_next.T3.2 net_next.B3 = true := by kernel_rfl

def NextPost (w : World) (r : List Int) (e : Ending) (w' : World) : Prop := ∃ v, e = .returned v ∧ Kd.R (Kd.int .i64) 2 w' w.heap.size (fun _ => True) v r ∧ Below w.heap.size w w'
set_option maxHeartbeats 4000000 in
set_option maxRecDepth 100000 in
theorem net_next (w : World) (base X : Nat) (own : Tags) (nv fv lv wv : Value) (N : NetV) (ms : List Nat) (A0 : Option Addr) (n c0 : Nat) (q : Int) (hN : NetW w base X own (.slice A0 n c0) nv fv lv wv N ms) (hm : n ≤ 9223372036854775807) (h0 : 0 < n)
    (hf : N.fst.length = n) (hl : ∀ l ∈ N.fst, l.length < LIMK) (hq : q < N.fol.length) :
    Calls Try.prog 39 #[.pointer (some ⟨X, 0, none⟩), .int .i64 q] w (NextPost w (nextF N n q)) := by
  have N3 := Aside0.mk hN
  have HF := Aside0.mk hf
  have HL := Aside0.mk hl
  have L3 := Aside0.mk (Below.refl w.heap.size w)
  clear hN hf hl
  by_cases hneg : q < 0
  · have hneg2 : decide (q < 0) = true := decide_eq_true hneg
    rw [show nextF N n q = isort (rdL N.fst ((n : Int) - 1)) from if_pos hneg]
    have hnz : 0 ≤ (n : Int) - 1 := by omega
    have hnz1 : 1 ≤ (n : Int) := by omega
    go_enter Try.func39, Try.ntmps39
    go_upto_region 3 with (first | ((with_reducible refine gate_dst (N := 7) rfl ?_); refine lit_ints (w0 := w) (W := w) (own := own) ?hg (N := 7) ?hd [] 5 ?hr L3.out (by simp) ?_; (case hd => rfl); (case hg => rfl); (case hr => first | (go_simp; done) | (go_simp; rfl)); intro v7 w4 own4 hv_ st_ hb_; have R5 := Aside0.mk hv_; have z0_ := Aside0.mk (st_.net N3.out (fun _ _ h => h)); have z1_ := Aside0.mk (hb_); clear N3 L3; have N3 := z0_; have L3 := z1_; clear z0_ z1_; clear hv_ st_ hb_))
    obtain ⟨gf, cf, vk, e2, hcf, hRf⟩ := rows_at N3.out.f ((n : Int) - 1) hnz (by have := HF.out; omega)
    have hof : own4 gf = 2 := by have q_ := N3.out.f.1; rw [e2] at q_; exact q_ gf rfl
    subst e2
    obtain ⟨Af, af, e3⟩ := Kd.R_slice hRf
    subst e3
    rw [show ((n : Int) - 1).toNat = n - 1 by omega] at hcf
    obtain ⟨-, -, hx2, -, -, -⟩ := N3.out.cellAt
    have RF := Aside0.mk hRf
    have OF := Aside0.mk hof
    have XO := Aside0.mk N3.out.xo
    have HLK : Aside0 ((rdL N.fst ((n : Int) - 1)).length < LIMK) := ⟨HL.out _ (by unfold rdL rdOf; rw [List.getD_eq_getElem?_getD, List.getElem?_eq_getElem (by have := HF.out; omega)]; exact List.getElem_mem _)⟩
    have hfz : ((n : Int) - 1 : Int) < (N.fst.length : Int) := by have := HF.out; omega
    clear hRf hof
    have z0_ := Aside0.mk (N3.out.drew)
    have z1_ := Aside0.mk (below_drew1 L3.out)
    have z2_ := Aside0.mk (Kd.R_drew R5.out)
    have z3_ := Aside0.mk (Kd.R_drew RF.out)
    clear N3 L3 R5 RF
    have N3 := z0_
    have L3 := z1_
    have R5 := z2_
    have RF := z3_
    clear z0_ z1_ z2_ z3_
    refine start_ (n := 11) (S := fun w' => w'.cell? ⟨X, 2, none⟩ = some (.slice (some ⟨gf, 0, none⟩) N.fst.length cf) ∧ w'.cell? ⟨gf, n - 1, none⟩ = some (.slice Af (rdL N.fst ((n : Int) - 1)).length af)) (ds := []) #[false, false, false, false, false, false, false, false, false, false, false] (by kernel_rfl) rfl rfl ⟨hx2, hcf⟩ (fun hHeld => ?_); refine with_tabW net_next.tab3 net_next.bits3 (fun HT_ HW_ => ?_)
    clear hx2 hcf
    generalize w4.drew = w5 at N3 L3 R5 RF hHeld ⊢
    refine pure_ (i := 0) (N := some 10) (v := ?_) (a' := ?_) #[true, false, false, false, false, false, false, false, false, false, false] rfl rfl (any_of HT_.out (by kernel_rfl)) (fun _ _ _ h => h) (Or.inl ⟨by rfl, ?_⟩) ?_ ?_
    rotate_left
    · intro w'
      go_simp
      with_reducible rfl
    rotate_left
    · simp only [Act.put, List.setIfInBounds_toArray, List.set_cons_zero, List.set_cons_succ, i64_w, i32_w]
      rfl
    refine pure_ (i := 1) (N := some 11) (v := ?_) (a' := ?_) #[true, true, false, false, false, false, false, false, false, false, false] rfl rfl (any_of HT_.out (by kernel_rfl)) (fun _ _ _ h => h) (Or.inl ⟨by rfl, ?_⟩) ?_ ?_
    rotate_left
    · intro w'
      go_simp
      with_reducible rfl
    rotate_left
    · simp only [Act.put, List.setIfInBounds_toArray, List.set_cons_zero, List.set_cons_succ, i64_w, i32_w]
      rfl
    refine pure_ (i := 2) (N := some 12) (v := ?_) (a' := ?_) #[true, true, true, false, false, false, false, false, false, false, false] rfl rfl (any_of HT_.out (by kernel_rfl)) (fun _ _ _ h => h) (Or.inl ⟨by rfl, ?_⟩) ?_ ?_
    rotate_left
    · intro w'
      go_simp
      with_reducible rfl
    rotate_left
    · simp only [Act.put, List.setIfInBounds_toArray, List.set_cons_zero, List.set_cons_succ, i64_w, i32_w]
      rfl
    refine pure_ (i := 3) (N := some 13) (v := ?_) (a' := ?_) #[true, true, true, true, false, false, false, false, false, false, false] rfl rfl (any_of HT_.out (by kernel_rfl)) (fun _ _ _ h => h) (Or.inl ⟨by rfl, ?_⟩) ?_ ?_
    rotate_left
    · intro w'
      go_simp
      with_reducible rfl
    rotate_left
    · simp only [Act.put, List.setIfInBounds_toArray, List.set_cons_zero, List.set_cons_succ, i64_w, i32_w]
      rfl
    refine take_ (i := 4) (N := some 14) (v := ?_) (a' := ?_) #[true, true, true, true, true, false, false, false, false, false, false] rfl rfl (take_ofW HT_.out HW_.out (by kernel_rfl)) (fun _ _ _ h => h) (Or.inl ⟨by rfl, ?_⟩) hHeld ?_ ?_
    rotate_left
    · rintro w' ⟨s0, s1⟩
      go_simp
      with_reducible rfl
    rotate_left
    · simp only [Act.put, List.setIfInBounds_toArray, List.set_cons_zero, List.set_cons_succ, i64_w, i32_w]
      rfl
    refine pure_ (i := 5) (N := some 15) (v := ?_) (a' := ?_) #[true, true, true, true, true, true, false, false, false, false, false] rfl rfl (any_of HT_.out (by kernel_rfl)) (fun _ _ _ h => h) (Or.inl ⟨by rfl, ?_⟩) ?_ ?_
    rotate_left
    · intro w'
      go_simp
      with_reducible rfl
    rotate_left
    · simp only [Act.put, List.setIfInBounds_toArray, List.set_cons_zero, List.set_cons_succ, i64_w, i32_w]
      rfl
    refine one_ (i := 6) (N := some 16) #[true, true, true, true, true, true, true, false, false, false, false] rfl rfl (one_of HT_.out (by kernel_rfl)) (by decide) (fun K hK => ?_)
    refine goes_ Try.func43 (by kernel_rfl) rfl #[.pointer (some ⟨X, 0, none⟩)] (by rfl) rfl rfl (by (try simp only [List.map_toArray, List.map_cons, List.map_nil]); first | done | rfl) ?_
    refine (net_whole N3.out hm h0).mono ?_
    rintro e w6 ⟨rfl, hb_⟩
    refine ⟨_, rfl, ?_⟩
    obtain ⟨s1, s2⟩ := hHeld
    have st_ := Stp.below hb_ own4 (fun _ => False)
    have HS_ := Aside0.mk (show (fun w' => w'.cell? ⟨X, 2, none⟩ = some (.slice (some ⟨gf, 0, none⟩) N.fst.length cf) ∧ w'.cell? ⟨gf, n - 1, none⟩ = some (.slice Af (rdL N.fst ((n : Int) - 1)).length af)) w6 from ⟨st_.cell s1 (fun h => h), st_.cell s2 (fun h => h)⟩)
    have z0_ := Aside0.mk (st_.net N3.out (fun _ _ h => h))
    have z1_ := Aside0.mk (below_step L3.out hb_)
    have z2_ := Aside0.mk (st_.row R5.out (fun h => h))
    have z3_ := Aside0.mk (st_.row RF.out (fun h => h))
    clear N3 L3 R5 RF
    have N3 := z0_
    have L3 := z1_
    have R5 := z2_
    have RF := z3_
    clear z0_ z1_ z2_ z3_
    clear s1 s2 st_ hb_
    refine hK.out _ _ HS_.out (fun hHeld => ?_)
    clear hK K
    refine norm_ (a' := ?_) ?_ ?_
    rotate_left
    · show Act.put _ (some 16) _ = _
      simp only [Act.put, List.setIfInBounds_toArray, List.set_cons_zero, List.set_cons_succ, i64_w, i32_w]
      rfl
    clear HS_
    refine pure_ (i := 7) (N := some 17) (v := ?_) (a' := ?_) #[true, true, true, true, true, true, true, true, false, false, false] rfl rfl (any_of HT_.out (by kernel_rfl)) (fun _ _ _ h => h) (Or.inl ⟨by rfl, ?_⟩) ?_ ?_
    rotate_left
    · intro w'
      go_simp
      with_reducible rfl
    rotate_left
    · simp only [Act.put, List.setIfInBounds_toArray, List.set_cons_zero, List.set_cons_succ, i64_w, i32_w]
      rfl
    refine take_ (i := 8) (N := some 18) (v := ?_) (a' := ?_) #[true, true, true, true, true, true, true, true, true, false, false] rfl rfl (take_ofW HT_.out HW_.out (by kernel_rfl)) (fun _ _ _ h => h) (Or.inl ⟨by rfl, ?_⟩) hHeld ?_ ?_
    rotate_left
    · rintro w' ⟨s0, s1⟩
      go_simp
      with_reducible rfl
    rotate_left
    · simp only [Act.put, List.setIfInBounds_toArray, List.set_cons_zero, List.set_cons_succ, i64_w, i32_w]
      rfl
    refine one_ (i := 9) (N := some 19) #[true, true, true, true, true, true, true, true, true, true, false] rfl rfl (one_of HT_.out (by kernel_rfl)) (by decide) (fun K hK => ?_)
    refine app_ints_step (w0 := w) (W := w6) (own := own4) (v := v7) (t := 5) (by rfl) (.tmp 10) (.tmp 18) rfl [] (rdL N.fst ((n : Int) - 1)) (A := Af) (m := (rdL N.fst ((n : Int) - 1)).length) (c := af) rfl rfl R5.out (Kd.R_reads' RF.out).2.2 L3.out (by have := HLK.out; unfold LIMK at this; simp only [List.length_nil]; omega) ?_
    intro v19 w7 own7 hv_ st_ hb_
    obtain ⟨s1, s2⟩ := hHeld
    have HS_ := Aside0.mk (show (fun w' => w'.cell? ⟨X, 2, none⟩ = some (.slice (some ⟨gf, 0, none⟩) N.fst.length cf) ∧ w'.cell? ⟨gf, n - 1, none⟩ = some (.slice Af (rdL N.fst ((n : Int) - 1)).length af)) w7 from ⟨st_.cell s1 (by rw [XO.out]; decide), st_.cell s2 (by rw [OF.out]; decide)⟩)
    have z0_ := Aside0.mk (st_.net N3.out mine5)
    have z1_ := Aside0.mk (hb_)
    have z2_ := Aside0.mk (hv_)
    clear N3 L3 R5
    have N3 := z0_
    have L3 := z1_
    have R5 := z2_
    clear z0_ z1_ z2_
    clear s1 s2 st_ hv_ hb_
    refine hK.out _ _ HS_.out (fun hHeld => ?_)
    clear hK K
    refine norm_ (a' := ?_) ?_ ?_
    rotate_left
    · show Act.put _ (some 19) _ = _
      simp only [Act.put, List.setIfInBounds_toArray, List.set_cons_zero, List.set_cons_succ, i64_w, i32_w]
      rfl
    clear HS_
    refine pure_ (i := 10) (N := some 5) (v := ?_) (a' := ?_) #[true, true, true, true, true, true, true, true, true, true, true] rfl rfl (any_of HT_.out (by kernel_rfl)) (fun _ _ _ h => h) (Or.inl ⟨by rfl, ?_⟩) ?_ ?_
    rotate_left
    · intro w'
      go_simp
      with_reducible rfl
    rotate_left
    · simp only [Act.put, List.setIfInBounds_toArray, List.set_cons_zero, List.set_cons_succ, i64_w, i32_w]
      rfl
    refine done_ (done_of HT_.out (by kernel_rfl)) ?_
    rw [List.nil_append] at R5
    go_wp2_with (first | ((with_reducible refine gate_callee (f := 44) rfl ?_); refine goesL_ (some 37) rfl rfl Try.func44 (by kernel_rfl) rfl #[v19] rfl (by (try simp only [List.map_toArray, List.map_cons, List.map_nil]); first | done | rfl) ?_; (with_reducible refine (sort_ints _ _ _ _ _ R5.out (by have := HLK.out; unfold LIMK at this; omega)).mono ?_); rintro e w9 ⟨rfl, hr_, hg_⟩; refine ⟨_, rfl, ?_⟩; have z0_ := Aside0.mk (grown_low L3.out hg_ R5.out); have z1_ := Aside0.mk (hr_); clear L3 R5; have L3 := z0_; have R5 := z1_; clear z0_ z1_; clear hr_ hg_))
    go_ret
    exact ⟨_, rfl, Kd.R_mono R5.out (fun _ _ => trivial), L3.out⟩
  · have hneg2 : decide (q < 0) = false := decide_eq_false hneg
    rw [show nextF N n q = Pure.MT.srt (rdL N.fol q) from if_neg hneg]
    have hqz : 0 ≤ q := by omega
    obtain ⟨g, c, b, e, hgc, hmc, hms, hmi⟩ := N3.out.map_at q hqz hq
    subst e
    obtain ⟨l, hlq⟩ : ∃ l, rdL N.fol q = l := ⟨_, rfl⟩
    rw [hlq]
    have hms2 : MapSet w b l := by rw [← hlq]; exact hms
    have og : own g = 4 := N3.out.wv_.1 g rfl
    have ob : own b = 8 := N3.out.m.own_ b (List.mem_of_getElem? hmi)
    have OG := Aside0.mk og
    have OB := Aside0.mk ob
    have HMS := Aside0.mk hms2
    clear hms hms2 hmi og ob hlq
    go_enter Try.func39, Try.ntmps39
    go_upto_region 5 with (first | ((with_reducible refine gate_dst (N := 7) rfl ?_); refine lit_ints (w0 := w) (W := w) (own := own) ?hg (N := 7) ?hd [] 5 ?hr L3.out (by simp) ?_; (case hd => rfl); (case hg => rfl); (case hr => first | (go_simp; done) | (go_simp; rfl)); intro v7 w4 own4 hv_ st_ hb_; have R5 := Aside0.mk hv_; have hc4 := st_.cell hmc (fun h => h); have OB4 := Aside0.mk ((st_.tag b HMS.out.lt (fun h => h)).trans OB.out); have HM4 := Aside0.mk (HMS.out.step (st_.blk b HMS.out.lt (fun h => h))); have z0_ := Aside0.mk (st_.net N3.out (fun _ _ h => h)); have z1_ := Aside0.mk (hb_); clear N3 L3; have N3 := z0_; have L3 := z1_; clear z0_ z1_; clear hv_ st_ hb_ hmc; obtain ⟨-, -, -, -, hx4, -⟩ := N3.out.cellAt) | (at_range; have L4_ := L3.out.size; refine set_range rfl _ rfl b l rfl HM4.out ?_; intro w5 hgo_ hg_ hsz_; have hb_ : Below w4.heap.size w4 w5 := ⟨hg_.os, hg_.tape, hg_.output, hg_.size, fun k hk => hg_.block k hk (by simp)⟩; obtain ⟨own5, ho9, hot⟩ := fresh_tag w4 own4 (Nat.le_refl w4.heap.size) 9; have st_ : Stp w4 w5 own4 own5 (fun _ => False) := Stp.fresh hb_ hot _; obtain ⟨r, hr9⟩ : ∃ r, w4.heap.size = r := ⟨_, rfl⟩; have GO := Aside0.mk hgo_; have O9 := Aside0.mk ho9; have OB5 := Aside0.mk ((st_.tag b HM4.out.lt (fun h => h)).trans OB4.out); have z0_ := Aside0.mk (st_.net N3.out (fun _ _ h => h)); have z1_ := Aside0.mk (below_step L3.out hb_); have z2_ := Aside0.mk (st_.row R5.out (fun h => h)); clear N3 L3 R5; have N3 := z0_; have L3 := z1_; have R5 := z2_; clear z0_ z1_ z2_; rw [hr9] at GO O9; have HR9 := Lib.hid hr9; have HW4 := Lib.hid L4_; clear L4_ hgo_ hg_ hsz_ hb_ hot st_ ho9 hx4 hc4))
    go_loopg [5] (w5.rangeLeft b r) (fun gg s5 wr => ∃ (done : List Int) (ow : Tags) (v : Value), s5 = v ∧ wr.rangeLeft b r ≤ gg ∧ Aside0 (Going wr b r l done) ∧ Aside0 (Kd.R (Kd.int .i64) 2 wr w.heap.size (fun k => ow k = 5) v done) ∧ Aside0 (ow r = 9) ∧ Aside0 (ow b = 8) ∧ Aside0 (Below w.heap.size w wr))
    case atStart => exact ⟨[], own5, v7, rfl, Nat.le_refl _, GO, R5, O9, OB5, L3⟩
    case round =>
      clear GO R5 O9 OB5 L3 N3
      obtain ⟨done, ow, v, rfl, hgg, GO, R5, O9, OB5, L3⟩ := hrel
      obtain ⟨Av, cv, e4⟩ := Kd.R_slice R5.out
      subst e4
      have HGG := Lib.hid hgg
      clear hgg
      go_wp2_with (at_next; refine set_next rfl _ rfl b r l done rfl GO.out ?_ ?_)
      · intro hall_ hnd_
        have HALL := Lib.hid hall_
        have HND := Aside0.mk hnd_
        clear hall_ hnd_
        go_wp2_with (first | ((with_reducible refine gate_callee (f := 44) rfl ?_); refine goesL_ (some 37) rfl rfl Try.func44 (by kernel_rfl) rfl #[.slice Av done.length cv] rfl (by (try simp only [List.map_toArray, List.map_cons, List.map_nil]); first | done | rfl) ?_; (with_reducible refine (sort_ints _ _ _ _ _ R5.out (by have := GO.out.small; omega)).mono ?_); rintro e w9 ⟨rfl, hr_, hg_⟩; refine ⟨_, rfl, ?_⟩; have z0_ := Aside0.mk (grown_low L3.out hg_ R5.out); have z1_ := Aside0.mk (hr_); clear L3 R5; have L3 := z0_; have R5 := z1_; clear z0_ z1_; clear hr_ hg_))
        go_ret
        exact ⟨_, rfl, by rw [← isort_srt HND.out HALL.out]; exact Kd.R_mono R5.out (fun _ _ => trivial), L3.out⟩
      · intro x cx w6 hxl hxd hx0 hx1 hgo_ hlt_ hg_ hsz_ hen_
        have st_ : Stp wr w6 ow ow (fun t => t = 9) := ⟨hg_.size, fun k hk hn => hg_.block k hk (fun e => hn (by injection e with e; rw [e]; exact O9.out)), fun _ _ _ => rfl⟩
        have z0_ := Aside0.mk (st_.row R5.out (by decide))
        have z1_ := Aside0.mk (pw_below_grown L3.out (some r) L3.out.size hg_ (fun k hk => by injection hk with hk; have := HR9.out; have := HW4.out; omega))
        have HLT := Lib.hid hlt_
        clear R5 L3 GO hg_ st_ hlt_ hxl hxd hsz_
        have R5 := z0_
        have L3 := z1_
        have GO := Aside0.mk hgo_
        clear z0_ z1_ hgo_
        go_wp2_with (first | ((with_reducible refine gate_dst (N := 34) rfl ?_); refine lit_one (W := w6) ?hg (N := 34) ?hd (.int .i64 x) 2 ?hr ?_; (case hd => rfl); (case hg => rfl); (case hr => first | (go_simp; done) | (go_simp; rfl)); intro g7 w7 hg7 hbk hb_; have HK7 := Aside0.mk hbk; have st_ : Stp w6 w7 ow ow (fun _ => False) := Stp.below hb_ _ _; have hq_ := GO.out.step (st_.blk b GO.out.set_.lt (fun h => h)) (st_.blk r (GO.out.rlt) (fun h => h)); have HLE7 := Lib.hid hq_.2; have z0_ := Aside0.mk (hq_.1); have z1_ := Aside0.mk (st_.row R5.out (fun h => h)); have z2_ := Aside0.mk (below_step L3.out hb_); clear GO R5 L3; have GO := z0_; have R5 := z1_; have L3 := z2_; clear z0_ z1_ z2_; clear hbk hg7 st_ hb_ hq_) | ((with_reducible refine gate_builtin (b := .append) (xs := #[.tmp 32, .tmp 34]) rfl ?_); at_builtin; refine app_ints (w0 := w) (W := w7) (own := ow) (v := .slice Av done.length cv) (t := 5) ?hg (.tmp 32) (.tmp 34) ?ho done [x] (A := some ⟨g7, 0, none⟩) (m := 1) (c := 1) ?hs ?hx R5.out (one_row HK7.out rfl) L3.out (by have := GO.out.small; rw [List.length_append] at this; omega) ?_; (case hg => rfl); (case ho => rfl); (case hs => rfl); (case hx => rfl); intro v35 w8 own8 hv_ st_ hb_; have hq_ := GO.out.step (st_.blk b GO.out.set_.lt (by rw [OB5.out]; decide)) (st_.blk r (GO.out.rlt) (by rw [O9.out]; decide)); have HLE := Lib.hid (hq_.2.trans HLE7.out); have z0_ := Aside0.mk ((st_.tag r GO.out.rlt (by rw [O9.out]; decide)).trans O9.out); have z1_ := Aside0.mk ((st_.tag b GO.out.set_.lt (by rw [OB5.out]; decide)).trans OB5.out); have z2_ := Aside0.mk (hv_); have z3_ := Aside0.mk (hb_); have z4_ := Aside0.mk (hq_.1); clear O9 OB5 R5 L3 GO; have O9 := z0_; have OB5 := z1_; have R5 := z2_; have L3 := z3_; have GO := z4_; clear z0_ z1_ z2_ z3_ z4_; clear hv_ st_ hb_ hq_))
        go_roundg (w8.rangeLeft b r)
        case measure => have := HLE.out; have := HLT.out; have := HGG.out; omega
        case rel => exact ⟨done ++ [x], own8, v35, rfl, Nat.le_refl _, GO, R5, O9, OB5, L3⟩
def impl_FollowOf.f (k : Nat) (l0 : List (S49)) (a1 : Int) : Option (List Int) :=
  (impl_ParticleOk.f k l0).bind fun t => if t = true then (if 0 ≤ a1 ∧ a1 ≤ (l0.length : Int) - 1 then (if posB (rd_T49 l0 a1) = true then ((netOfF l0).bind fun N => if 0 < l0.length ∧ N.fst.length = l0.length ∧ (∀ l ∈ N.fst, l.length < LIMK) ∧ a1 < (N.fol.length : Int) then some (nextF N l0.length a1) else none) else some []) else some []) else some []
set_option maxHeartbeats 4000000 in
set_option maxRecDepth 100000 in
theorem impl_FollowOf.calls (k : Nat) (A0 : Option Addr) (c0 : Nat) (l0 : List (S49)) (a1 : Int) (r : List Int) (w : World) (hr0 : Kd.C k49 w A0 l0.length l0) (hc0 : l0.length ≤ c0) (h : impl_FollowOf.f k l0 a1 = some r) :
    Calls Try.prog 21 #[.slice A0 l0.length c0, .int .i64 a1] w fun e w' => ∃ v0_ : Value, e = .returned (v0_) ∧ Kd.R (Kd.int .i64) 2 w' w.heap.size (fun _ => True) v0_ r ∧ Below w.heap.size w w' := by
  unfold impl_FollowOf.f at h
  obtain ⟨t, ht, h⟩ := Option.bind_eq_some_iff.1 h
  have HT := Aside0.mk ht
  have HR := Aside0.mk hr0
  have HC := Aside0.mk hc0
  have HB := Aside0.mk (Below.refl w.heap.size w)
  have hmx : l0.length ≤ 9223372036854775807 := Kd.C_max hr0
  clear ht hr0 hc0
  cases t with
  | true =>
    simp only [if_true] at h
    by_cases hin : 0 ≤ a1 ∧ a1 ≤ (l0.length : Int) - 1
    · rw [if_pos hin] at h
      have HI : Aside0 (impl_in.f a1 0 ((l0.length : Int) - 1) = some true) := ⟨by unfold impl_in.f; rw [if_pos hin.1, decide_eq_true hin.2]⟩
      obtain ⟨ad, A2, c2, e, hx0, hx1, hx2, hx3, hl2, hi2⟩ := at_T49 HR.out a1 hin.1 (by omega)
      subst e
      have hz0 : 0 ≤ a1 := hin.1
      have hz1 : a1 < (l0.length : Int) := by omega
      generalize rd_T49 l0 a1 = nd at hx0 hx1 hx2 hx3 hl2 hi2 h
      obtain ⟨kd, nm, ks, oc⟩ := nd
      dsimp only at hx0 hx1 hx2 hx3 hl2 hi2
      have HL2 := Aside0.mk hl2
      have HI2 := Aside0.mk hi2
      have H0 := Lib.hid hx0
      have H1 := Lib.hid hx1
      have H2 := Lib.hid hx2
      have H3 := Lib.hid hx3
      clear hl2 hi2 hin
      clear hx0 hx1 hx2 hx3
      obtain ⟨pb, hpb⟩ : ∃ b, posB ⟨kd, nm, ks, oc⟩ = b := ⟨_, rfl⟩
      have HP := Aside0.mk ((pos_f ⟨kd, nm, ks, oc⟩).trans (congrArg some hpb))
      rw [hpb] at h
      clear hpb
      cases pb with
      | true =>
        simp only [if_true] at h
        obtain ⟨N, hN, h⟩ := Option.bind_eq_some_iff.1 h
        by_cases hg : 0 < l0.length ∧ N.fst.length = l0.length ∧ (∀ l ∈ N.fst, l.length < LIMK) ∧ a1 < (N.fol.length : Int)
        · rw [if_pos hg] at h
          obtain rfl := Option.some.inj h
          have HNF := Aside0.mk hN
          have HG := Lib.hid hg
          clear hN hg h
          go_enter Try.func21, Try.ntmps21
          go_wp2_with (first | (go_at_call 37; (with_reducible refine (impl_ParticleOk.calls k _ c0 l0 true _ (Kd.C_below HR.out HB.out) HC.out HT.out).mono ?_); rintro e w1 ⟨rfl, hb_⟩; have z_ := Aside0.mk (below_step HB.out hb_); clear HB hb_; have HB := z_; clear z_) | (go_at_call 47; (with_reducible refine (impl_in.calls a1 0 ((l0.length : Int) - 1) true _ HI.out).mono ?_); rintro e w5 ⟨rfl, ⟨nd, rfl⟩⟩; have z_ := Aside0.mk (pw_below_drewN HB.out nd); clear HB; have HB := z_; clear z_; have hx0 := (HB.out.cell (World.block_lt_of_cell? w _ H0.out)).trans H0.out; have hx1 := (HB.out.cell (World.block_lt_of_cell? w _ H1.out)).trans H1.out; have hx2 := (HB.out.cell (World.block_lt_of_cell? w _ H2.out)).trans H2.out; have hx3 := (HB.out.cell (World.block_lt_of_cell? w _ H3.out)).trans H3.out) | (go_at_call 48; (with_reducible refine (impl_PNode_isPosition.calls kd nm A2 c2 ks oc true _ (Kd.C_below HI2.out HB.out) HL2.out HP.out).mono ?_); rintro e w6 ⟨rfl, hb_⟩; have z_ := Aside0.mk (below_step HB.out hb_); clear HB hb_; have HB := z_; clear z_) | ((with_reducible refine gate_callee (f := 38) rfl ?_); refine goesL_ (some 25) rfl rfl Try.func38 (by kernel_rfl) rfl #[.slice (some ad) l0.length c0] rfl (by (try simp only [List.map_toArray, List.map_cons, List.map_nil]); first | done | rfl) ?_; (with_reducible refine (net_of _ c0 l0 _ (Kd.C_below HR.out HB.out) HC.out N HNF.out).mono ?_); rintro e w2 ⟨X, own, nv, fv, lv, wv, ms, rfl, hn_, hb_⟩; refine ⟨_, rfl, ?_⟩; have HN3 := Aside0.mk hn_; have z_ := Aside0.mk (below_step HB.out hb_); clear HB hb_ hn_; have HB := z_; clear z_) | ((with_reducible refine gate_callee (f := 39) rfl ?_); refine goesL_ (some 27) rfl rfl Try.func39 (by kernel_rfl) rfl #[.pointer (some ⟨X, 0, none⟩), .int .i64 a1] rfl (by (try simp only [List.map_toArray, List.map_cons, List.map_nil]); first | done | rfl) ?_; (with_reducible refine (net_next _ _ X own nv fv lv wv N ms (some ad) l0.length c0 a1 HN3.out (Kd.C_max HR.out) HG.out.1 HG.out.2.1 HG.out.2.2.1 HG.out.2.2.2).mono ?_); rintro e w3 ⟨v, rfl, hr_, hb_⟩; refine ⟨_, rfl, ?_⟩; have HO := Aside0.mk (Kd.R_lower hr_ HB.out.size); have z_ := Aside0.mk (below_step HB.out hb_); clear HB hb_ hr_; have HB := z_; clear z_))
          go_ret
          exact ⟨_, rfl, HO.out, HB.out⟩
        · rw [if_neg hg] at h
          cases h
      | false =>
        simp only [Bool.false_eq_true, if_false, Option.some.injEq] at h
        subst h
        go_enter Try.func21, Try.ntmps21
        go_wp2_with (first | (go_at_call 37; (with_reducible refine (impl_ParticleOk.calls k _ c0 l0 true _ (Kd.C_below HR.out HB.out) HC.out HT.out).mono ?_); rintro e w1 ⟨rfl, hb_⟩; have z_ := Aside0.mk (below_step HB.out hb_); clear HB hb_; have HB := z_; clear z_) | (go_at_call 47; (with_reducible refine (impl_in.calls a1 0 ((l0.length : Int) - 1) true _ HI.out).mono ?_); rintro e w5 ⟨rfl, ⟨nd, rfl⟩⟩; have z_ := Aside0.mk (pw_below_drewN HB.out nd); clear HB; have HB := z_; clear z_; have hx0 := (HB.out.cell (World.block_lt_of_cell? w _ H0.out)).trans H0.out; have hx1 := (HB.out.cell (World.block_lt_of_cell? w _ H1.out)).trans H1.out; have hx2 := (HB.out.cell (World.block_lt_of_cell? w _ H2.out)).trans H2.out; have hx3 := (HB.out.cell (World.block_lt_of_cell? w _ H3.out)).trans H3.out) | (go_at_call 48; (with_reducible refine (impl_PNode_isPosition.calls kd nm A2 c2 ks oc false _ (Kd.C_below HI2.out HB.out) HL2.out HP.out).mono ?_); rintro e w6 ⟨rfl, hb_⟩; have z_ := Aside0.mk (below_step HB.out hb_); clear HB hb_; have HB := z_; clear z_))
        go_ret
        exact ⟨_, rfl, Kd.R_nil _ _ _ _ _, HB.out⟩
    · rw [if_neg hin] at h
      obtain rfl := Option.some.inj h
      have HI : Aside0 (impl_in.f a1 0 ((l0.length : Int) - 1) = some false) := ⟨by
        unfold impl_in.f
        by_cases h0 : 0 ≤ a1
        · rw [if_pos h0, decide_eq_false (fun h1 => hin ⟨h0, h1⟩)]
        · rw [if_neg h0]⟩
      clear hin h
      go_enter Try.func21, Try.ntmps21
      go_wp2_with (first | (go_at_call 37; (with_reducible refine (impl_ParticleOk.calls k _ c0 l0 true _ (Kd.C_below HR.out HB.out) HC.out HT.out).mono ?_); rintro e w1 ⟨rfl, hb_⟩; have z_ := Aside0.mk (below_step HB.out hb_); clear HB hb_; have HB := z_; clear z_) | (go_at_call 47; (with_reducible refine (impl_in.calls a1 0 ((l0.length : Int) - 1) false _ HI.out).mono ?_); rintro e w5 ⟨rfl, ⟨nd, rfl⟩⟩; have z_ := Aside0.mk (pw_below_drewN HB.out nd); clear HB; have HB := z_; clear z_))
      go_ret
      exact ⟨_, rfl, Kd.R_nil _ _ _ _ _, HB.out⟩
  | false =>
    simp only [Bool.false_eq_true, if_false, Option.some.injEq] at h
    subst h
    go_enter Try.func21, Try.ntmps21
    go_wp2_with (first | (go_at_call 37; (with_reducible refine (impl_ParticleOk.calls k A0 c0 l0 false _ (Kd.C_below HR.out HB.out) HC.out HT.out).mono ?_); rintro e w1 ⟨rfl, hb_⟩; have z_ := Aside0.mk (below_step HB.out hb_); clear HB hb_; have HB := z_; clear z_))
    go_ret
    exact ⟨_, rfl, Kd.R_nil _ _ _ _ _, HB.out⟩
end Go.Proofs.Ytkflnbmmjnjgkaa.L

namespace Go.Proofs.Ytkflnbmmjnjgkaa.L
open Go.RowKit Go.Proofs.YtkflnbmmjnjgkaaW.PrintWords Go.Proofs.YtkflnbmmjnjgkaaW.PrintLast Go.Proofs.YtkflnbmmjnjgkaaW.PrintMore
attribute [local go_sem] max2_int min2_int max_two min_two max_three min_three max_four min_four
set_option linter.unusedVariables false
set_option linter.unusedSimpArgs false

/-! ### laws_markText: function 41 -/
def laws_markText.l0 : Nat → Int → ByteArray → Option (ByteArray)
 | 0, _, _ => none
 | k + 1, x0, x3 => if x0 > 0 then ((some (([(wrap64 (48 + (Int.tmod x0 10))) % 256] : List Int) : List Int)).bind fun y266 => (if (strOfNums y266).size + x3.size ≤ 9223372036854775807 then (laws_markText.l0 k (wrap64 (Int.tdiv x0 10)) ((strOfNums y266) ++ x3)) else (none))) else (if 1 + x3.size ≤ 9223372036854775807 then (some ((⟨#[109]⟩ : ByteArray) ++ x3)) else (none))
def laws_markText.f (k : Nat) (a0 : Int) : Option (ByteArray) := if a0 ≤ 0 then (some (⟨#[109, 48]⟩ : ByteArray)) else (laws_markText.l0 k a0 (⟨#[]⟩ : ByteArray))
set_option maxHeartbeats 8000000 in
set_option maxRecDepth 100000 in
theorem laws_markText.calls (k : Nat) (a0 : Int) (r : ByteArray) (w : World) (h : laws_markText.f k a0 = some r) :
  Calls Try.prog 41 #[.int .i64 a0] w fun e w' => e = .returned (.string r) ∧ Below w.heap.size w w' := by
 have HB := Aside0.mk (Below.refl w.heap.size w)
 have H : (if a0 ≤ 0 then (some (⟨#[109, 48]⟩ : ByteArray)) else (laws_markText.l0 k a0 (⟨#[]⟩ : ByteArray))) = some r := h
 clear h
 by_cases c2 : a0 ≤ 0
 ·rw [if_pos c2] at H
  have c2b0 := decide_eq_true c2
  clear c2
  obtain rfl := Option.some.inj H
  go_enter Try.func41, Try.ntmps41
  go_wp2
  go_ret
  exact ⟨dq22, dq20⟩
 rw [if_neg c2] at H
 have c2b0 := decide_eq_false c2
 clear c2
 have H' := Aside0.mk H
 clear H
 go_enter Try.func41, Try.ntmps41
 go_wp2
 go_loopg [0, 3] k (fun kq v0 v3 w' => ∃ (x0_1 : Int) (x3_1 : ByteArray), v0 = .int .i64 x0_1 ∧ v3 = .string x3_1 ∧ Aside0 (laws_markText.l0 kq x0_1 x3_1 = some r) ∧ Aside0 (kq ≤ k) ∧ Aside0 (Below w.heap.size w w'))
 case atStart => exact ⟨(a0), ((⟨#[]⟩ : ByteArray)), dq18, dq18, H', ⟨Nat.le_refl _⟩, ⟨dq20⟩⟩
 clear H'
 try clear c2
 try clear c2b0
 try clear p2
 obtain ⟨x0_1, x3_1, rfl, rfl, HA, HK1, HB⟩ := hrel
 cases gk with
 | zero => exact absurd HA.out (by simp [laws_markText.l0])
 | succ k1 =>
  have H := HA.out
  clear HA
  simp only [laws_markText.l0] at H
  by_cases c3 : x0_1 > 0
  rotate_left
  ·rw [if_neg c3] at H
   have c3b0 : decide (0 < x0_1) = false := decide_eq_false c3
   clear c3
   by_cases c8 : 1 + x3_1.size ≤ 9223372036854775807
   rotate_left
   ·rw [if_neg c8] at H
    exact absurd H dq27
   rw [if_pos c8] at H
   have c8b0 := eq_true c8
   have c8b1 := decide_eq_true c8
   try have c8b2 : (9223372036854775807 < 1 + x3_1.size) = False := eq_false (Nat.not_lt.2 c8)
   obtain rfl := Option.some.inj H
   go_wp2
   go_ret
   exact ⟨dq22, dq20⟩
  rw [if_pos c3] at H
  have c3b0 : decide (0 < x0_1) = true := decide_eq_true c3
  clear c3
  obtain ⟨y266, hy266⟩ : ∃ y_ : List Int, y_ = (([(wrap64 (48 + (Int.tmod x0_1 10))) % 256] : List Int)) := ⟨_, rfl⟩
  replace H : (if (strOfNums y266).size + x3_1.size ≤ 9223372036854775807 then (laws_markText.l0 k1 (wrap64 (Int.tdiv x0_1 10)) ((strOfNums y266) ++ x3_1)) else (none)) = some r := by first | (rw [hy266]; with_reducible exact H) | (have H2_ := (Option.bind_some _ _).symm.trans H; rw [hy266]; with_reducible exact H2_) | (have H2_ := (Option.bind_some _ _).symm.trans H; with_reducible exact H2_) | with_reducible exact H | (rw [hy266]; exact H) | exact H
  have Ny266 := Aside0.mk hy266
  clear hy266
  by_cases c4 : (strOfNums y266).size + x3_1.size ≤ 9223372036854775807
  rotate_left
  ·rw [if_neg c4] at H
   exact absurd H dq27
  rw [if_pos c4] at H
  have c4b0 := eq_true c4
  have c4b1 := decide_eq_true c4
  try have c4b2 : (9223372036854775807 < (strOfNums y266).size + x3_1.size) = False := eq_false (Nat.not_lt.2 c4)
  have H' := Aside0.mk H
  clear H
  go_wp2_with (first | ((with_reducible refine gate_dst (N := 12) rfl ?_); refine Kd.R_lit (Kd.int .u8) _ 5 ?hg (N := 12) ?hd (xs := ([(wrap64 (48 + (Int.tmod x0_1 10))) % 256] : List Int)) (inner := [.int .u8 ((wrap64 (48 + (Int.tmod x0_1 10))) % 256)]) (ok := fun _ => True) (okp := fun _ => True) ?hr ?hp (fun _ hk => hk) trivial (Below.refl _ _) (Nat.le_refl _) dq27 ?_; (case hd => rfl); (case hg => rfl); (case hr => exact dq0); (case hp => exact (Reps.one (show Kd.M (Kd.int .u8) _ _ _ ((wrap64 (48 + (Int.tmod x0_1 10))) % 256) [.int .u8 ((wrap64 (48 + (Int.tmod x0_1 10))) % 256)] from rfl) (Reps.none _ _))); intro v267 w5 ho6 hb hg_ hnew_; clear hg_ hnew_; (first | rw [← Ny266.out] at ho6 | (simp only [Int.reduceToNat] at ho6; rw [← Ny266.out] at ho6)); have n0_ := Aside0.mk (Kd.R_lower ho6 (below_size dq20)); have n1_ := Aside0.mk (below_step dq20 hb); clear HB; have HO268 := n0_; have HB := n1_; clear n0_ n1_; clear hb ho6; have hcv7 := own_string (P := Try.prog) Try.underlying75 Try.underlying5 Try.underlying9 (Kd.own_of_R HO268.out)))
  go_roundg k1
  case measure => have := HK1.out; omega
  case rel => exact ⟨(wrap64 (Int.tdiv x0_1 10)), ((strOfNums y266) ++ x3_1), dq18, dq18, H', ⟨dq26⟩, ⟨dq20⟩⟩

end Go.Proofs.Ytkflnbmmjnjgkaa.L

namespace Go.Proofs.Ytkflnbmmjnjgkaa.L
open Go.RowKit Go.Proofs.YtkflnbmmjnjgkaaW.PrintWords Go.Proofs.YtkflnbmmjnjgkaaW.PrintLast Go.Proofs.YtkflnbmmjnjgkaaW.PrintMore
set_option linter.unusedVariables false
set_option linter.unusedSimpArgs false

abbrev SPn : Type := S49
def laws_markPNodeS.go (k : Nat) : List SPn → Int → Option Int
  | [], a => some a
  | x :: l, a => (laws_markText.f k (wrap64 (a + 1))).bind fun _ => (laws_markInt64S.f k x.f2 (wrap64 (wrap64 (a + 1) + 1))).bind fun p => laws_markPNodeS.go k l (wrap64 (p.1 + 1))
def laws_markPNodeS.f (k : Nat) (l0 : List SPn) (a1 : Int) : Option Int := laws_markPNodeS.go k l0 a1
theorem kept_set {w W : World} {S : Nat → Prop} {g j : Nat} {v : Value} (h : Kept w W S) (hg : S g ∨ w.heap.size ≤ g) : Kept w (W.setCell ⟨g, j, none⟩ v) S :=
  ⟨by have := h.1; simpa [World.setCell] using this, fun i hi hS => (Below.heap_setCell W ⟨g, j, none⟩ v i (fun e => by
    have e : i = g := e
    subst e
    exact hg.elim hS (fun h => by omega))).trans (h.2 i hi hS)⟩
theorem drop_set {α : Type} (l : List α) (i : Nat) (x : α) : (l.set i x).drop (i + 1) = l.drop (i + 1) := by
  rw [List.drop_set, if_pos (by omega)]
/-- One node of a row of one's own: its cells, and what a store into one of them leaves. -/
theorem pnode_at {W : World} {base g n cap : Nat} {ok : Nat → Prop} {cur : List SPn} (HS : Kd.S k49 49 W base ok (.slice (some ⟨g, 0, none⟩) n cap) cur) (i : Nat) (hi : i < n) (hc : i < cur.length) :
    ∃ v2, W.cell? ⟨g, i * 4, none⟩ = some (.int .i64 cur[i].f0) ∧ W.cell? ⟨g, i * 4 + 1, none⟩ = some (.string cur[i].f1) ∧ W.cell? ⟨g, i * 4 + 2, none⟩ = some v2 ∧ W.cell? ⟨g, i * 4 + 3, none⟩ = some (.int .i64 cur[i].f3) ∧ (∀ j, W.frozen? ⟨g, i * 4 + j, none⟩ = false) ∧
      (∀ z, Kd.S k49 49 (W.setCell ⟨g, i * 4, none⟩ (.int .i64 z)) base ok (.slice (some ⟨g, 0, none⟩) n cap) (cur.set i ⟨z, cur[i].f1, cur[i].f2, cur[i].f3⟩)) ∧
      (∀ z, Kd.S k49 49 (W.setCell ⟨g, i * 4 + 1, none⟩ (.string z)) base ok (.slice (some ⟨g, 0, none⟩) n cap) (cur.set i ⟨cur[i].f0, z, cur[i].f2, cur[i].f3⟩)) ∧
      (∀ z, Kd.S k49 49 (W.setCell ⟨g, i * 4 + 3, none⟩ (.int .i64 z)) base ok (.slice (some ⟨g, 0, none⟩) n cap) (cur.set i ⟨cur[i].f0, cur[i].f1, cur[i].f2, z⟩)) ∧
      ∃ oki, (∀ j, oki j → ok j) ∧ (Kd.int .i64).R 2 W base oki v2 cur[i].f2 ∧ (∀ (w1 : World) (r : List Int), (∀ j, ok j → ¬ oki j → j < W.heap.size → w1.heap[j]? = W.heap[j]?) → (Kd.int .i64).R 2 w1 base (fun j => oki j ∨ W.heap.size ≤ j) v2 r → (∀ j, W.heap.size ≤ j → ok j) → Kd.S k49 49 w1 base ok (.slice (some ⟨g, 0, none⟩) n cap) (cur.set i ⟨cur[i].f0, cur[i].f1, r, cur[i].f3⟩)) := by
  have h0 : (0 : Int) ≤ (i : Int) := by omega
  have h1 : (i : Int) < n := by omega
  have ex : cur.getD (i : Int).toNat z49 = cur[i] := by rw [Int.toNat_natCast, List.getD_eq_getElem?_getD, List.getElem?_eq_getElem hc]; rfl
  obtain ⟨oki, ce, hcl, hM, hcc, hfr, hok, hH⟩ := Kd.S_elem HS z49 (i : Int) h0 h1
  rw [ex] at hM
  simp only [Int.toNat_natCast] at hcc hfr
  obtain ⟨v2, rfl, hR⟩ := k49_openM hM
  have S0 := fun (seg : Value) (j : Nat) (x' : SPn) (hj : j + [seg].length ≤ (k49).sz) (hM' : (k49).M W base oki x' (([.int .i64 cur[i].f0, .string cur[i].f1, v2, .int .i64 cur[i].f3] : List Value).take j ++ [seg] ++ ([.int .i64 cur[i].f0, .string cur[i].f1, v2, .int .i64 cur[i].f3] : List Value).drop (j + [seg].length))) => (Kd.S_seg0 hH h0 h1 (seg := [seg]) (j := j) hj (x' := x') hM' (fun _ hk => hk)).1
  refine ⟨v2, hcc 0 _ rfl, hcc 1 _ rfl, hcc 2 _ rfl, hcc 3 _ rfl, hfr, fun z => ?_, fun z => ?_, fun z => ?_, oki, fun j hj => (hok j hj).1, hR, fun w1 r hw hr hn => ?_⟩
  · have := S0 (.int .i64 z) 0 ⟨z, cur[i].f1, cur[i].f2, cur[i].f3⟩ (show 0 + 1 ≤ 4 by decide) (k49_mkM _ _ _ (⟨z, cur[i].f1, cur[i].f2, cur[i].f3⟩ : SPn) hR)
    simp only [Int.toNat_natCast] at this
    exact this
  · have := S0 (.string z) 1 ⟨cur[i].f0, z, cur[i].f2, cur[i].f3⟩ (show 1 + 1 ≤ 4 by decide) (k49_mkM _ _ _ (⟨cur[i].f0, z, cur[i].f2, cur[i].f3⟩ : SPn) hR)
    simp only [Int.toNat_natCast] at this
    exact this
  · have := S0 (.int .i64 z) 3 ⟨cur[i].f0, cur[i].f1, cur[i].f2, z⟩ (show 3 + 1 ≤ 4 by decide) (k49_mkM _ _ _ (⟨cur[i].f0, cur[i].f1, cur[i].f2, z⟩ : SPn) hR)
    simp only [Int.toNat_natCast] at this
    exact this
  · have hH2 := Kd.H_step (Kd.H_widen hH) (w1 := w1) (fun j hj hnj hlt => hw j hj (fun h => hnj (.inl h)) hlt)
    have := Kd.H_back hH2 (x' := ⟨cur[i].f0, cur[i].f1, r, cur[i].f3⟩) (k49_mkM _ _ _ (⟨cur[i].f0, cur[i].f1, r, cur[i].f3⟩ : SPn) hr) (fun j hj => hj.elim .inl (fun h => .inr ⟨hn j h, h⟩))
    simp only [Int.toNat_natCast] at this
    exact this
/-- The row in the midst of a round: node i's kids, and what stands behind it, are as they were. -/
structure Mid (W : World) (base g n cap : Nat) (ok : Nat → Prop) (i : Nat) (a : List Int) (d cur : List SPn) : Prop where
  s : Kd.S k49 49 W base ok (.slice (some ⟨g, 0, none⟩) n cap) cur
  len : cur.length = n
  at_ : ∀ h : i < cur.length, cur[i].f2 = a
  rest : cur.drop (i + 1) = d
theorem Mid.below {W w1 : World} {base g n cap i : Nat} {ok : Nat → Prop} {a : List Int} {d cur : List SPn} (h : Mid W base g n cap ok i a d cur) (hb : Below W.heap.size W w1) : Mid w1 base g n cap ok i a d cur := ⟨Kd.S_below h.s hb, h.len, h.at_, h.rest⟩
theorem mid_set {W : World} {base g n cap i : Nat} {ok : Nat → Prop} {a : List Int} {d cur : List SPn} {x : SPn} (hx : x.f2 = a) (len : cur.length = n) (rest : cur.drop (i + 1) = d) (s : Kd.S k49 49 W base ok (.slice (some ⟨g, 0, none⟩) n cap) (cur.set i x)) : Mid W base g n cap ok i a d (cur.set i x) :=
  ⟨s, by rw [List.length_set, len], fun h => by rw [List.getElem_set_self]; exact hx, by rw [drop_set, rest]⟩
/-- Its cells; a store into one of the numbers or the name; its kids lent. -/
theorem Mid.open_ {W : World} {base g n cap i : Nat} {ok : Nat → Prop} {a : List Int} {d cur : List SPn} (h : Mid W base g n cap ok i a d cur) (hi : i < n) :
    ∃ (z y : Int) (s1 : ByteArray) (v2 : Value), W.cell? ⟨g, i * 4, none⟩ = some (.int .i64 z) ∧ W.cell? ⟨g, i * 4 + 1, none⟩ = some (.string s1) ∧ W.cell? ⟨g, i * 4 + 2, none⟩ = some v2 ∧ W.cell? ⟨g, i * 4 + 3, none⟩ = some (.int .i64 y) ∧ (∀ j, W.frozen? ⟨g, i * 4 + j, none⟩ = false) ∧
      (∀ z, ∃ c2, Mid (W.setCell ⟨g, i * 4, none⟩ (.int .i64 z)) base g n cap ok i a d c2) ∧ (∀ z, ∃ c2, Mid (W.setCell ⟨g, i * 4 + 1, none⟩ (.string z)) base g n cap ok i a d c2) ∧ (∀ z, ∃ c2, Mid (W.setCell ⟨g, i * 4 + 3, none⟩ (.int .i64 z)) base g n cap ok i a d c2) ∧
      ∃ oki, (∀ j, oki j → ok j) ∧ (Kd.int .i64).R 2 W base oki v2 a ∧ (∀ (w1 : World) (r : List Int), (∀ j, ok j → ¬ oki j → j < W.heap.size → w1.heap[j]? = W.heap[j]?) → (Kd.int .i64).R 2 w1 base (fun j => oki j ∨ W.heap.size ≤ j) v2 r → (∀ j, W.heap.size ≤ j → ok j) → ∃ c2 : List SPn, Mid w1 base g n cap ok i r d c2) := by
  have hc : i < cur.length := by rw [h.len]; exact hi
  have ea := h.at_ hc
  obtain ⟨v2, q0, q1, q2, q3, qf, S0, S1, S2, oki, ho1, hR, hback⟩ := pnode_at h.s i hi hc
  rw [ea] at hR
  refine ⟨_, _, _, v2, q0, q1, q2, q3, qf, fun z => ⟨_, mid_set (x := ⟨z, cur[i].f1, cur[i].f2, cur[i].f3⟩) ea h.len h.rest (S0 z)⟩, fun z => ⟨_, mid_set (x := ⟨cur[i].f0, z, cur[i].f2, cur[i].f3⟩) ea h.len h.rest (S1 z)⟩, fun z => ⟨_, mid_set (x := ⟨cur[i].f0, cur[i].f1, cur[i].f2, z⟩) ea h.len h.rest (S2 z)⟩, oki, ho1, hR, fun w1 r h1 h2 h3 => ⟨_, mid_set (x := ⟨cur[i].f0, cur[i].f1, r, cur[i].f3⟩) rfl h.len h.rest (hback w1 r h1 h2 h3)⟩⟩
set_option maxHeartbeats 4000000 in
set_option maxRecDepth 100000 in
theorem laws_markPNodeS.marks (k : Nat) (P0 : Nat → Prop) (u : Value) (l0 : List SPn) (a1 r : Int) (w0 w : World) (hB : Below w0.heap.size w0 w) (ho : Kd.S k49 49 w w0.heap.size P0 u l0) (h : laws_markPNodeS.f k l0 a1 = some r) :
    Calls Try.prog 15 #[u, .int .i64 a1] w fun e w' => e = .returned (.int .i64 r) ∧ (∃ l1, Kd.S k49 49 w' w0.heap.size (fun j => P0 j ∨ w.heap.size ≤ j) u l1) ∧ Below w0.heap.size w0 w' ∧ Kept w w' (fun j => P0 j) := by
  obtain ⟨A, c, rfl⟩ := Kd.S_slice ho
  have HO0 := Aside0.mk (Kd.S_mono (ok' := fun j => P0 j ∨ w.heap.size ≤ j) ho (fun _ hk => .inl hk))
  have HK0 := Aside0.mk (Kept.refl w (fun j => P0 j))
  have HB0 := Aside0.mk hB
  have HA0 := Aside0.mk h
  clear hB h ho
  obtain ⟨n, hn⟩ : ∃ n, l0.length = n := ⟨_, rfl⟩
  have HN := Lib.hid hn
  rw [hn]
  rw [hn] at HO0
  clear hn
  have hnm : n ≤ 9223372036854775807 := by have := (Kd.S_reads' HO0.out).2.2.2.1; have e := HN.out; omega
  go_enter Try.func15, Try.ntmps15
  go_wp2
  go_loopg [1, 5] n (fun gg s1 s5 wr => ∃ (i : Nat) (x1 : Int) (cur : List SPn), i ≤ n ∧ n - i ≤ gg ∧ s1 = .int .i64 x1 ∧ s5 = .int .i64 i ∧ Aside0 (cur.length = n) ∧ Aside0 (cur.drop i = l0.drop i) ∧ Aside0 (laws_markPNodeS.go k (l0.drop i) x1 = some r) ∧ Aside0 (Kd.S k49 49 wr w0.heap.size (fun j => P0 j ∨ w.heap.size ≤ j) (.slice A n c) cur) ∧ Aside0 (Kept w wr (fun j => P0 j)) ∧ Aside0 (Below w0.heap.size w0 wr))
  case atStart => exact ⟨0, a1, l0, Nat.zero_le _, by omega, rfl, rfl, ⟨HN.out⟩, ⟨rfl⟩, ⟨HA0.out⟩, HO0, HK0, HB0⟩
  case round =>
    obtain ⟨i, x1, cur, hi, hg, rfl, rfl, HL, HD, HA, HO, HK, HB⟩ := hrel
    clear HO0 HK0 HB0 HA0
    by_cases hlt : i < n
    · have hlz : (i : Int) < (n : Int) := by omega
      have hl : i < l0.length := by have := HN.out; omega
      have hc : i < cur.length := by have := HL.out; omega
      have hdd : cur.drop i = cur[i] :: cur.drop (i + 1) := List.drop_eq_getElem_cons hc
      have hdl : l0.drop i = l0[i] :: l0.drop (i + 1) := List.drop_eq_getElem_cons hl
      have hd := HD.out
      rw [hdd, hdl] at hd
      injection hd with hxe hde
      have ha := HA.out
      rw [hdl] at ha
      clear hdd hdl HA HD
      simp only [laws_markPNodeS.go, Option.bind_eq_some_iff] at ha
      obtain ⟨t1, ht1, ⟨p1, p2⟩, ht3, ha⟩ := ha
      obtain ⟨aa, haa⟩ : ∃ aa, l0[i].f2 = aa := ⟨_, rfl⟩
      rw [haa] at ht3
      have hAA := Aside0.mk ((congrArg (fun x : SPn => x.f2) hxe).trans haa)
      clear haa
      obtain ⟨g, cap, e, gb, gl, _⟩ := Kd.S_form HO.out (by omega)
      injection e with e1 e2 e3
      subst e1
      subst e3
      clear e2
      have hX := Aside0.mk hxe
      have hE := Aside0.mk hde
      have hT1 := Aside0.mk ht1
      have hT3 := Aside0.mk ht3
      have hA := Aside0.mk ha
      have hGB := Aside0.mk gb
      clear hxe hde ht1 ht3 ha gb gl
      have M0 : Mid wr w0.heap.size g n c (fun j => P0 j ∨ w.heap.size ≤ j) i aa (l0.drop (i + 1)) cur := ⟨HO.out, HL.out, fun _ => hAA.out, hE.out⟩
      obtain ⟨z0, y0, s1, v2, q0, q1, q2, q3, qf, P0', P1', P3', _⟩ := M0.open_ hlt
      have f0 : wr.frozen? ⟨g, i * 4, none⟩ = false := qf 0
      obtain ⟨c2, M1⟩ := P0' x1
      have M1 := Aside0.mk M1
      have hG0 : Aside0 (P0 g ∨ w.heap.size ≤ g) := ⟨(Kd.S_R HO.out).1 g rfl⟩
      have HK' := Aside0.mk (kept_set (g := g) (j := i * 4) (v := .int .i64 x1) HK.out hG0.out)
      have HB' := Aside0.mk (below_set (g := g) (j := i * 4) (v := .int .i64 x1) HB.out hGB.out)
      clear HK HB
      have HK := HK'
      have HB := HB'
      clear HK' HB' qf P0' P1' P3' M0 q1 q2 q3 HO HL hX hE hAA hl hc
      go_wp2_with (first | ((with_reducible refine gate_callee (f := 41) rfl ?_); refine goesL_ (some 22) rfl rfl Try.func41 (by kernel_rfl) rfl #[.int .i64 (wrap64 (x1 + 1))] rfl (by (try simp only [List.map_toArray, List.map_cons, List.map_nil]); first | done | rfl) ?_; (with_reducible refine (laws_markText.calls k (wrap64 (x1 + 1)) t1 _ hT1.out).mono ?_); rintro e w2 ⟨rfl, hb⟩; refine ⟨_, rfl, ?_⟩; obtain ⟨z0, y0, s1, v2, q0, q1, q2, q3, qf, P0', P1', P3', _⟩ := (M1.out.below hb).open_ hlt; clear M1; obtain ⟨c2, M2⟩ := P1' t1; have M1 := Aside0.mk M2; clear M2; have f0 : w2.frozen? ⟨g, i * 4 + 1, none⟩ = false := qf 1; have HK' := Aside0.mk (kept_set (g := g) (j := i * 4 + 1) (v := .string t1) (Kept.below HK.out hb) hG0.out); have HB' := Aside0.mk (below_set (g := g) (j := i * 4 + 1) (v := .string t1) (below_step HB.out hb) hGB.out); clear HK HB; have HK := HK'; have HB := HB'; clear HK' HB'; have q3a := Aside0.mk q2; clear q3 q2; obtain ⟨_, _, _, v2b, _, _, q2b, _, _, _, _, _, oki, ho1, hR, hback⟩ := M1.out.open_ hlt; have e3_ : (w2.setCell ⟨g, i * 4 + 1, none⟩ (.string t1)).cell? ⟨g, i * 4 + 2, none⟩ = w2.cell? ⟨g, i * 4 + 2, none⟩ := (by apply World.cell?_setCell_other; intro h_; injection h_ with _ h2_ _; omega); obtain rfl : v2b = v2 := Option.some.inj (q2b.symm.trans (e3_.trans q3a.out)); clear e3_; have q2 := q3a.out; have q3c := Aside0.mk q2b; clear q2b q3a; have hok1 := Aside0.mk ho1; have hR1 := Aside0.mk hR; have hbk := Aside0.mk hback; clear ho1 hR hback M1; clear qf P0' P1' P3' hb) | ((with_reducible refine gate_callee (f := 16) rfl ?_); refine goesL_ (some 33) rfl rfl Try.func16 (by kernel_rfl) rfl #[v2b, .int .i64 (wrap64 (wrap64 (x1 + 1) + 1))] rfl (by (try simp only [List.map_toArray, List.map_cons, List.map_nil]); first | done | rfl) ?_; (with_reducible refine (laws_markInt64S.calls k oki v2b aa _ p1 p2 w0 _ HB.out hR1.out hT3.out).mono ?_); rintro e w3 ⟨rfl, hr3, hb3, hk3⟩; refine ⟨_, rfl, ?_⟩; obtain ⟨c3, M3⟩ := hbk.out w3 p2 (fun j _ hnj hlt => hk3.2 j hlt hnj) hr3 (fun j hj => .inr (Nat.le_trans HK.out.1 hj)); have HK' := Aside0.mk (HK.out.then_ hk3 (fun j hj => hok1.out j hj)); have HB' := Aside0.mk hb3; clear HK HB hr3 hb3 hk3; have HK := HK'; have HB := HB'; clear HK' HB'; obtain ⟨z0, y0, s1, v2, q0, q1, q2, q3, qf, P0', P1', P3', _⟩ := M3.open_ hlt; have f0 : w3.frozen? ⟨g, i * 4 + 3, none⟩ = false := qf 3; have PP := Lib.hid P3'; clear P0' P1' P3' qf M3 q0 q1 q2))
      obtain ⟨c4, M4⟩ := PP.out p1
      have hk4 := kept_set (g := g) (j := i * 4 + 3) (v := .int .i64 p1) HK.out hG0.out
      have hb4 := below_set (g := g) (j := i * 4 + 3) (v := .int .i64 p1) HB.out hGB.out
      go_roundg (n - (i + 1))
      case measure => omega
      case rel => exact ⟨i + 1, wrap64 (p1 + 1), c4, by omega, by omega, rfl, by go_num, ⟨M4.len⟩, ⟨M4.rest⟩, hA, ⟨M4.s⟩, ⟨hk4⟩, ⟨hb4⟩⟩
    · have hz : l0.drop i = [] := List.drop_of_length_le (by have := HN.out; omega)
      have ha := HA.out
      rw [hz] at ha
      obtain rfl := Option.some.inj ha
      clear ha hz HA
      have hlt2 : ¬ ((i : Int) < (n : Int)) := by omega
      go_wp2
      go_ret
      exact ⟨rfl, ⟨cur, HO.out⟩, HB.out, HK.out⟩
end Go.Proofs.Ytkflnbmmjnjgkaa.L

namespace Go.Proofs.Ytkflnbmmjnjgkaa.L
open Go.RowKit Go.Proofs.YtkflnbmmjnjgkaaW.PrintWords Go.Proofs.YtkflnbmmjnjgkaaW.PrintLast Go.Proofs.YtkflnbmmjnjgkaaW.PrintMore
attribute [local go_sem] max2_int min2_int max_two min_two max_three min_three max_four min_four
set_option linter.unusedVariables false
set_option linter.unusedSimpArgs false

/-! ### laws_FnExactFollowOf: function 5 -/
theorem R_pmarked {W w1 : World} {base : Nat} {ok P0 : Nat → Prop} {v : Value} {xs : List Int} (h : Kd.R (Kd.int .i64) 2 W base ok v xs) (hk : Kept W w1 P0) (hne : ∀ k, P0 k → some k ≠ v.ownBlock) : Kd.R (Kd.int .i64) 2 w1 base ok v xs :=
 Kd.R_mono (Kd.R_step (Kd.R_tight2 rfl h) (fun k hk_ hlt => hk.2 k hlt (fun hp => hne k hp hk_.1))) (fun _ hk => hk.2)
def laws_FnExactFollowOf.j0 : Nat → List (S46) → Int → List Int → List Int → Bool → Option (Bool)
 | 0, _, _, _, _, _ => none
 | k + 1, x0, x1, x6, x8, x46 => if x46 = true then (some false) else ((laws_markInt64S.f k x8 1).bind fun bt410 => ((laws_heldInt64S.f k bt410.2 1).bind fun t412 => (if t412 < 0 then (some false) else (if t412 = bt410.1 then ((laws_toPNodeS.f k x0).bind fun t413 => ((impl_FollowOf.f k t413 x1).bind fun t416 => ((laws_eqInt64S.f k t416 x6).bind fun t419 => (if t419 = true then ((laws_heldInt64S.f k bt410.2 1).bind fun t420 => (if t420 < 0 then (some false) else (if t420 = bt410.1 then (some true) else (some false)))) else (some false))))) else (some false)))))
def laws_FnExactFollowOf.f (k : Nat) (l0 : List (S46)) (a1 : Int) : Option (Bool) := (laws_szPNodeS.f k l0 1048576).bind fun t390 => (if t390 < 0 then (some true) else ((laws_toPNodeS.f k l0).bind fun t391 => ((spec_FollowOf.f k t391 a1).bind fun t394 => ((laws_toPNodeS.f k l0).bind fun t397 => ((impl_FollowOf.f k t397 a1).bind fun t400 => ((laws_eqInt64S.f k t400 t394).bind fun t403 => (if t403 = true then ((laws_toPNodeS.f k l0).bind fun t404 => ((laws_eqPNodeS.f k t397 t404).bind fun t407 => (if t407 = true then ((laws_markPNodeS.f k t397 1).bind fun t408 => (if t408 < 0 then (laws_FnExactFollowOf.j0 k l0 a1 t394 t400 true) else ((laws_eqInt64S.f k t400 t394).bind fun t409 => (laws_FnExactFollowOf.j0 k l0 a1 t394 t400 (!t409))))) else (some false)))) else (some false))))))))
set_option maxHeartbeats 8000000 in
set_option maxRecDepth 100000 in
theorem laws_FnExactFollowOf.calls (k : Nat) (A0 : Option Addr) (c0 : Nat) (l0 : List (S46)) (a1 : Int) (r : Bool) (w : World) (hr0 : Kd.C k46 w A0 l0.length l0) (hc0 : l0.length ≤ c0) (h : laws_FnExactFollowOf.f k l0 a1 = some r) :
  Calls Try.prog 5 #[.slice A0 l0.length c0, .int .i64 a1] w fun e w' => e = .returned (.bool r) ∧ Below w.heap.size w w' := by
 have HR0 := Aside0.mk hr0
 have HC0 := Aside0.mk hc0
 clear hr0 hc0
 have HB := Aside0.mk (Below.refl w.heap.size w)
 have H : ((laws_szPNodeS.f k l0 1048576).bind fun t390 => (if t390 < 0 then (some true) else ((laws_toPNodeS.f k l0).bind fun t391 => ((spec_FollowOf.f k t391 a1).bind fun t394 => ((laws_toPNodeS.f k l0).bind fun t397 => ((impl_FollowOf.f k t397 a1).bind fun t400 => ((laws_eqInt64S.f k t400 t394).bind fun t403 => (if t403 = true then ((laws_toPNodeS.f k l0).bind fun t404 => ((laws_eqPNodeS.f k t397 t404).bind fun t407 => (if t407 = true then ((laws_markPNodeS.f k t397 1).bind fun t408 => (if t408 < 0 then (laws_FnExactFollowOf.j0 k l0 a1 t394 t400 true) else ((laws_eqInt64S.f k t400 t394).bind fun t409 => (laws_FnExactFollowOf.j0 k l0 a1 t394 t400 (!t409))))) else (some false)))) else (some false))))))))) = some r := h
 clear h
 replace H := Option.bind_eq_some_iff.mp H
 obtain ⟨t390, A30, H⟩ := H
 replace H : (if t390 < 0 then (some true) else ((laws_toPNodeS.f k l0).bind fun t391 => ((spec_FollowOf.f k t391 a1).bind fun t394 => ((laws_toPNodeS.f k l0).bind fun t397 => ((impl_FollowOf.f k t397 a1).bind fun t400 => ((laws_eqInt64S.f k t400 t394).bind fun t403 => (if t403 = true then ((laws_toPNodeS.f k l0).bind fun t404 => ((laws_eqPNodeS.f k t397 t404).bind fun t407 => (if t407 = true then ((laws_markPNodeS.f k t397 1).bind fun t408 => (if t408 < 0 then (laws_FnExactFollowOf.j0 k l0 a1 t394 t400 true) else ((laws_eqInt64S.f k t400 t394).bind fun t409 => (laws_FnExactFollowOf.j0 k l0 a1 t394 t400 (!t409))))) else (some false)))) else (some false)))))))) = some r := H
 have A3 := Aside0.mk A30
 clear A30
 by_cases c4 : t390 < 0
 ·rw [if_pos c4] at H
  have c4b0 := decide_eq_true c4
  clear c4
  obtain rfl := Option.some.inj H
  go_enter Try.func5, Try.ntmps5
  go_wp2_with (first | ((with_reducible refine gate_callee (f := 9) rfl ?_); refine goesL_ (some 15) rfl rfl Try.func9 dq24 rfl #[.slice A0 l0.length c0, .int .i64 1048576] rfl dq23 ?_; (with_reducible refine (laws_szPNodeS.calls k _ _ l0 1048576 t390 _ ?side1 ?side2 A3.out).mono ?_); (case side1 => exact dq3); (case side2 => exact dq4); rintro e w5 ⟨rfl, hb⟩; refine ⟨_, rfl, ?_⟩; have n0_ := Aside0.mk (below_step dq20 hb); clear HB; have HB := n0_; clear n0_; (try clear hb); (try clear hb2); (try clear hk); (try clear hi)))
  go_ret
  exact ⟨dq22, dq20⟩
 rw [if_neg c4] at H
 have c4b0 := decide_eq_false c4
 clear c4
 replace H := Option.bind_eq_some_iff.mp H
 obtain ⟨t391, A60, H⟩ := H
 replace H : ((spec_FollowOf.f k t391 a1).bind fun t394 => ((laws_toPNodeS.f k l0).bind fun t397 => ((impl_FollowOf.f k t397 a1).bind fun t400 => ((laws_eqInt64S.f k t400 t394).bind fun t403 => (if t403 = true then ((laws_toPNodeS.f k l0).bind fun t404 => ((laws_eqPNodeS.f k t397 t404).bind fun t407 => (if t407 = true then ((laws_markPNodeS.f k t397 1).bind fun t408 => (if t408 < 0 then (laws_FnExactFollowOf.j0 k l0 a1 t394 t400 true) else ((laws_eqInt64S.f k t400 t394).bind fun t409 => (laws_FnExactFollowOf.j0 k l0 a1 t394 t400 (!t409))))) else (some false)))) else (some false)))))) = some r := H
 have A6 := Aside0.mk A60
 clear A60
 replace H := Option.bind_eq_some_iff.mp H
 obtain ⟨t394, A70, H⟩ := H
 replace H : ((laws_toPNodeS.f k l0).bind fun t397 => ((impl_FollowOf.f k t397 a1).bind fun t400 => ((laws_eqInt64S.f k t400 t394).bind fun t403 => (if t403 = true then ((laws_toPNodeS.f k l0).bind fun t404 => ((laws_eqPNodeS.f k t397 t404).bind fun t407 => (if t407 = true then ((laws_markPNodeS.f k t397 1).bind fun t408 => (if t408 < 0 then (laws_FnExactFollowOf.j0 k l0 a1 t394 t400 true) else ((laws_eqInt64S.f k t400 t394).bind fun t409 => (laws_FnExactFollowOf.j0 k l0 a1 t394 t400 (!t409))))) else (some false)))) else (some false))))) = some r := H
 have A7 := Aside0.mk A70
 clear A70
 replace H := Option.bind_eq_some_iff.mp H
 obtain ⟨t397, A80, H⟩ := H
 replace H : ((impl_FollowOf.f k t397 a1).bind fun t400 => ((laws_eqInt64S.f k t400 t394).bind fun t403 => (if t403 = true then ((laws_toPNodeS.f k l0).bind fun t404 => ((laws_eqPNodeS.f k t397 t404).bind fun t407 => (if t407 = true then ((laws_markPNodeS.f k t397 1).bind fun t408 => (if t408 < 0 then (laws_FnExactFollowOf.j0 k l0 a1 t394 t400 true) else ((laws_eqInt64S.f k t400 t394).bind fun t409 => (laws_FnExactFollowOf.j0 k l0 a1 t394 t400 (!t409))))) else (some false)))) else (some false)))) = some r := H
 have A8 := Aside0.mk A80
 clear A80
 replace H := Option.bind_eq_some_iff.mp H
 obtain ⟨t400, A90, H⟩ := H
 replace H : ((laws_eqInt64S.f k t400 t394).bind fun t403 => (if t403 = true then ((laws_toPNodeS.f k l0).bind fun t404 => ((laws_eqPNodeS.f k t397 t404).bind fun t407 => (if t407 = true then ((laws_markPNodeS.f k t397 1).bind fun t408 => (if t408 < 0 then (laws_FnExactFollowOf.j0 k l0 a1 t394 t400 true) else ((laws_eqInt64S.f k t400 t394).bind fun t409 => (laws_FnExactFollowOf.j0 k l0 a1 t394 t400 (!t409))))) else (some false)))) else (some false))) = some r := H
 have A9 := Aside0.mk A90
 clear A90
 replace H := Option.bind_eq_some_iff.mp H
 obtain ⟨t403, A100, H⟩ := H
 replace H : (if t403 = true then ((laws_toPNodeS.f k l0).bind fun t404 => ((laws_eqPNodeS.f k t397 t404).bind fun t407 => (if t407 = true then ((laws_markPNodeS.f k t397 1).bind fun t408 => (if t408 < 0 then (laws_FnExactFollowOf.j0 k l0 a1 t394 t400 true) else ((laws_eqInt64S.f k t400 t394).bind fun t409 => (laws_FnExactFollowOf.j0 k l0 a1 t394 t400 (!t409))))) else (some false)))) else (some false)) = some r := H
 have A10 := Aside0.mk A100
 clear A100
 by_cases c11 : t403 = true
 rotate_left
 ·replace c11 := Bool.eq_false_iff.mpr c11
  subst c11
  have H1 : (some false) = some r := by rw [if_neg (show ¬ (false = true) by decide)] at H; exact H
  clear H
  have H := H1
  clear H1
  obtain rfl := Option.some.inj H
  go_enter Try.func5, Try.ntmps5
  go_wp2_with (first | ((with_reducible refine gate_callee (f := 9) rfl ?_); refine goesL_ (some 15) rfl rfl Try.func9 dq24 rfl #[.slice A0 l0.length c0, .int .i64 1048576] rfl dq23 ?_; (with_reducible refine (laws_szPNodeS.calls k _ _ l0 1048576 t390 _ ?side1 ?side2 A3.out).mono ?_); (case side1 => exact dq3); (case side2 => exact dq4); rintro e w78 ⟨rfl, hb⟩; refine ⟨_, rfl, ?_⟩; have n0_ := Aside0.mk (below_step dq20 hb); clear HB; have HB := n0_; clear n0_; (try clear hb); (try clear hb2); (try clear hk); (try clear hi)) | ((with_reducible refine gate_callee (f := 11) rfl ?_); refine goesL_ (some 19) rfl rfl Try.func11 dq24 rfl #[.slice A0 l0.length c0] rfl dq23 ?_; (with_reducible refine (laws_toPNodeS.calls k _ _ l0 t391 _ ?side1 ?side2 A6.out).mono ?_); (case side1 => exact dq5); (case side2 => exact dq4); rintro e w79 ⟨v392, rfl, ho0, hb⟩; refine ⟨_, rfl, ?_⟩; have n0_ := Aside0.mk (Kd.S_lower ho0 (below_size dq20)); have n1_ := Aside0.mk (below_step dq20 hb); clear HB; have HO393 := n0_; have HB := n1_; clear n0_ n1_; (try clear hb); (try clear hb2); (try clear hk); (try clear hi); (try clear ho0); obtain ⟨Ao80, co80, eo80⟩ := Kd.S_slice HO393.out; subst eo80) | ((with_reducible refine gate_callee (f := 20) rfl ?_); refine goesL_ (some 21) rfl rfl Try.func20 dq24 rfl #[.slice Ao80 t391.length co80, .int .i64 a1] rfl dq23 ?_; (with_reducible refine (spec_FollowOf.calls k _ _ t391 a1 t394 _ ?side1 ?side2 A7.out).mono ?_); (case side1 => exact dq7); (case side2 => exact (Kd.S_reads' HO393.out).2.1); rintro e w81 ⟨v395, rfl, ho0, hb⟩; refine ⟨_, rfl, ?_⟩; have n0_ := Aside0.mk (Kd.S_elder' dq103 (Kd.R_base ho0) hb); have n1_ := Aside0.mk (Kd.R_lower ho0 (below_size dq20)); have n2_ := Aside0.mk (below_step dq20 hb); clear HO393; clear HB; have HO393 := n0_; have HO396 := n1_; have HB := n2_; clear n0_ n1_ n2_; (try clear hb); (try clear hb2); (try clear hk); (try clear hi); (try clear ho0)) | ((with_reducible refine gate_callee (f := 11) rfl ?_); refine goesL_ (some 23) rfl rfl Try.func11 dq24 rfl #[.slice A0 l0.length c0] rfl dq23 ?_; (with_reducible refine (laws_toPNodeS.calls k _ _ l0 t397 _ ?side1 ?side2 A8.out).mono ?_); (case side1 => exact dq5); (case side2 => exact dq4); rintro e w82 ⟨v398, rfl, ho0, hb⟩; refine ⟨_, rfl, ?_⟩; have n0_ := Aside0.mk (Kd.S_elder' dq103 (Kd.S_base ho0) hb); have n1_ := Aside0.mk (Kd.R_below dq101 hb); have n2_ := Aside0.mk (Kd.S_lower (Kd.S_new' (Kd.S_new' ho0 (Kd.S_lt dq103)) (Kd.R_lt dq101)) (below_size dq20)); have n3_ := Aside0.mk (below_step dq20 hb); clear HO393; clear HO396; clear HB; have HO393 := n0_; have HO396 := n1_; have HO399 := n2_; have HB := n3_; clear n0_ n1_ n2_ n3_; (try clear hb); (try clear hb2); (try clear hk); (try clear hi); (try clear ho0); obtain ⟨Ao83, co83, eo83⟩ := Kd.S_slice HO399.out; subst eo83) | ((with_reducible refine gate_callee (f := 21) rfl ?_); refine goesL_ (some 26) rfl rfl Try.func21 dq24 rfl #[.slice Ao83 t397.length co83, .int .i64 a1] rfl dq23 ?_; (with_reducible refine (impl_FollowOf.calls k _ _ t397 a1 t400 _ ?side1 ?side2 A9.out).mono ?_); (case side1 => exact dq8); (case side2 => exact (Kd.S_reads' HO399.out).2.1); rintro e w84 ⟨v401, rfl, ho0, hb⟩; refine ⟨_, rfl, ?_⟩; have n0_ := Aside0.mk (Kd.S_elder' dq103 (Kd.R_base ho0) hb); have n1_ := Aside0.mk (Kd.R_elder' dq101 (Kd.R_base ho0) hb); have n2_ := Aside0.mk (Kd.S_elder' dq102 (Kd.R_base ho0) hb); have n3_ := Aside0.mk (Kd.R_lower (Kd.R_new' ho0 (Kd.R_lt dq101)) (below_size dq20)); have n4_ := Aside0.mk (below_step dq20 hb); clear HO393; clear HO396; clear HO399; clear HB; have HO393 := n0_; have HO396 := n1_; have HO399 := n2_; have HO402 := n3_; have HB := n4_; clear n0_ n1_ n2_ n3_ n4_; (try clear hb); (try clear hb2); (try clear hk); (try clear hi); (try clear ho0); obtain ⟨Ao85, co85, eo85⟩ := Kd.R_slice HO402.out; subst eo85; obtain ⟨Ao86, co86, eo86⟩ := Kd.R_slice HO396.out; subst eo86) | ((with_reducible refine gate_callee (f := 13) rfl ?_); refine goesL_ (some 29) rfl rfl Try.func13 dq24 rfl #[.slice Ao85 t400.length co85, .slice Ao86 t394.length co86] rfl dq23 ?_; (with_reducible refine (laws_eqInt64S.calls k _ _ t400 _ _ t394 false _ ?side1 ?side2 ?side3 ?side4 A10.out).mono ?_); (case side1 => exact dq9); (case side2 => exact (Kd.R_reads' HO402.out).2.1); (case side3 => exact dq10); (case side4 => exact (Kd.R_reads' HO396.out).2.1); rintro e w' ⟨rfl, ⟨nd, rfl⟩⟩; refine ⟨_, rfl, ?_⟩))
  go_ret
  exact ⟨dq22, dq20⟩
 subst c11
 have H1 : ((laws_toPNodeS.f k l0).bind fun t404 => ((laws_eqPNodeS.f k t397 t404).bind fun t407 => (if t407 = true then ((laws_markPNodeS.f k t397 1).bind fun t408 => (if t408 < 0 then (laws_FnExactFollowOf.j0 k l0 a1 t394 t400 true) else ((laws_eqInt64S.f k t400 t394).bind fun t409 => (laws_FnExactFollowOf.j0 k l0 a1 t394 t400 (!t409))))) else (some false)))) = some r := by rw [if_pos rfl] at H; exact H
 clear H
 have H := H1
 clear H1
 replace H := Option.bind_eq_some_iff.mp H
 obtain ⟨t404, A120, H⟩ := H
 replace H : ((laws_eqPNodeS.f k t397 t404).bind fun t407 => (if t407 = true then ((laws_markPNodeS.f k t397 1).bind fun t408 => (if t408 < 0 then (laws_FnExactFollowOf.j0 k l0 a1 t394 t400 true) else ((laws_eqInt64S.f k t400 t394).bind fun t409 => (laws_FnExactFollowOf.j0 k l0 a1 t394 t400 (!t409))))) else (some false))) = some r := H
 have A12 := Aside0.mk A120
 clear A120
 replace H := Option.bind_eq_some_iff.mp H
 obtain ⟨t407, A130, H⟩ := H
 replace H : (if t407 = true then ((laws_markPNodeS.f k t397 1).bind fun t408 => (if t408 < 0 then (laws_FnExactFollowOf.j0 k l0 a1 t394 t400 true) else ((laws_eqInt64S.f k t400 t394).bind fun t409 => (laws_FnExactFollowOf.j0 k l0 a1 t394 t400 (!t409))))) else (some false)) = some r := H
 have A13 := Aside0.mk A130
 clear A130
 by_cases c14 : t407 = true
 rotate_left
 ·replace c14 := Bool.eq_false_iff.mpr c14
  subst c14
  have H1 : (some false) = some r := by rw [if_neg (show ¬ (false = true) by decide)] at H; exact H
  clear H
  have H := H1
  clear H1
  obtain rfl := Option.some.inj H
  go_enter Try.func5, Try.ntmps5
  go_wp2_with (first | ((with_reducible refine gate_callee (f := 9) rfl ?_); refine goesL_ (some 15) rfl rfl Try.func9 dq24 rfl #[.slice A0 l0.length c0, .int .i64 1048576] rfl dq23 ?_; (with_reducible refine (laws_szPNodeS.calls k _ _ l0 1048576 t390 _ ?side1 ?side2 A3.out).mono ?_); (case side1 => exact dq3); (case side2 => exact dq4); rintro e w66 ⟨rfl, hb⟩; refine ⟨_, rfl, ?_⟩; have n0_ := Aside0.mk (below_step dq20 hb); clear HB; have HB := n0_; clear n0_; (try clear hb); (try clear hb2); (try clear hk); (try clear hi)) | ((with_reducible refine gate_callee (f := 11) rfl ?_); refine goesL_ (some 19) rfl rfl Try.func11 dq24 rfl #[.slice A0 l0.length c0] rfl dq23 ?_; (with_reducible refine (laws_toPNodeS.calls k _ _ l0 t391 _ ?side1 ?side2 A6.out).mono ?_); (case side1 => exact dq5); (case side2 => exact dq4); rintro e w67 ⟨v392, rfl, ho0, hb⟩; refine ⟨_, rfl, ?_⟩; have n0_ := Aside0.mk (Kd.S_lower ho0 (below_size dq20)); have n1_ := Aside0.mk (below_step dq20 hb); clear HB; have HO393 := n0_; have HB := n1_; clear n0_ n1_; (try clear hb); (try clear hb2); (try clear hk); (try clear hi); (try clear ho0); obtain ⟨Ao68, co68, eo68⟩ := Kd.S_slice HO393.out; subst eo68) | ((with_reducible refine gate_callee (f := 20) rfl ?_); refine goesL_ (some 21) rfl rfl Try.func20 dq24 rfl #[.slice Ao68 t391.length co68, .int .i64 a1] rfl dq23 ?_; (with_reducible refine (spec_FollowOf.calls k _ _ t391 a1 t394 _ ?side1 ?side2 A7.out).mono ?_); (case side1 => exact dq7); (case side2 => exact (Kd.S_reads' HO393.out).2.1); rintro e w69 ⟨v395, rfl, ho0, hb⟩; refine ⟨_, rfl, ?_⟩; have n0_ := Aside0.mk (Kd.S_elder' dq103 (Kd.R_base ho0) hb); have n1_ := Aside0.mk (Kd.R_lower ho0 (below_size dq20)); have n2_ := Aside0.mk (below_step dq20 hb); clear HO393; clear HB; have HO393 := n0_; have HO396 := n1_; have HB := n2_; clear n0_ n1_ n2_; (try clear hb); (try clear hb2); (try clear hk); (try clear hi); (try clear ho0)) | ((with_reducible refine gate_callee (f := 11) rfl ?_); refine goesL_ (some 23) rfl rfl Try.func11 dq24 rfl #[.slice A0 l0.length c0] rfl dq23 ?_; (with_reducible refine (laws_toPNodeS.calls k _ _ l0 t397 _ ?side1 ?side2 A8.out).mono ?_); (case side1 => exact dq5); (case side2 => exact dq4); rintro e w70 ⟨v398, rfl, ho0, hb⟩; refine ⟨_, rfl, ?_⟩; have n0_ := Aside0.mk (Kd.S_elder' dq103 (Kd.S_base ho0) hb); have n1_ := Aside0.mk (Kd.R_below dq101 hb); have n2_ := Aside0.mk (Kd.S_lower (Kd.S_new' (Kd.S_new' ho0 (Kd.S_lt dq103)) (Kd.R_lt dq101)) (below_size dq20)); have n3_ := Aside0.mk (below_step dq20 hb); clear HO393; clear HO396; clear HB; have HO393 := n0_; have HO396 := n1_; have HO399 := n2_; have HB := n3_; clear n0_ n1_ n2_ n3_; (try clear hb); (try clear hb2); (try clear hk); (try clear hi); (try clear ho0); obtain ⟨Ao71, co71, eo71⟩ := Kd.S_slice HO399.out; subst eo71) | ((with_reducible refine gate_callee (f := 21) rfl ?_); refine goesL_ (some 26) rfl rfl Try.func21 dq24 rfl #[.slice Ao71 t397.length co71, .int .i64 a1] rfl dq23 ?_; (with_reducible refine (impl_FollowOf.calls k _ _ t397 a1 t400 _ ?side1 ?side2 A9.out).mono ?_); (case side1 => exact dq8); (case side2 => exact (Kd.S_reads' HO399.out).2.1); rintro e w72 ⟨v401, rfl, ho0, hb⟩; refine ⟨_, rfl, ?_⟩; have n0_ := Aside0.mk (Kd.S_elder' dq103 (Kd.R_base ho0) hb); have n1_ := Aside0.mk (Kd.R_elder' dq101 (Kd.R_base ho0) hb); have n2_ := Aside0.mk (Kd.S_elder' dq102 (Kd.R_base ho0) hb); have n3_ := Aside0.mk (Kd.R_lower (Kd.R_new' ho0 (Kd.R_lt dq101)) (below_size dq20)); have n4_ := Aside0.mk (below_step dq20 hb); clear HO393; clear HO396; clear HO399; clear HB; have HO393 := n0_; have HO396 := n1_; have HO399 := n2_; have HO402 := n3_; have HB := n4_; clear n0_ n1_ n2_ n3_ n4_; (try clear hb); (try clear hb2); (try clear hk); (try clear hi); (try clear ho0); obtain ⟨Ao73, co73, eo73⟩ := Kd.R_slice HO402.out; subst eo73; obtain ⟨Ao74, co74, eo74⟩ := Kd.R_slice HO396.out; subst eo74) | ((with_reducible refine gate_callee (f := 13) rfl ?_); refine goesL_ (some 29) rfl rfl Try.func13 dq24 rfl #[.slice Ao73 t400.length co73, .slice Ao74 t394.length co74] rfl dq23 ?_; (with_reducible refine (laws_eqInt64S.calls k _ _ t400 _ _ t394 true _ ?side1 ?side2 ?side3 ?side4 A10.out).mono ?_); (case side1 => exact dq9); (case side2 => exact (Kd.R_reads' HO402.out).2.1); (case side3 => exact dq10); (case side4 => exact (Kd.R_reads' HO396.out).2.1); rintro e w' ⟨rfl, ⟨nd, rfl⟩⟩; refine ⟨_, rfl, ?_⟩) | ((with_reducible refine gate_callee (f := 11) rfl ?_); refine goesL_ (some 33) rfl rfl Try.func11 dq24 rfl #[.slice A0 l0.length c0] rfl dq23 ?_; (with_reducible refine (laws_toPNodeS.calls k _ _ l0 t404 _ ?side1 ?side2 A12.out).mono ?_); (case side1 => repeat (first | exact (Kd.C_below HR0.out dq20) | (with_reducible refine Kd.C_alloc ?_ _) | (with_reducible refine Kd.C_drewN ?_ _) | (with_reducible refine Kd.C_drew ?_))); (case side2 => exact dq4); rintro e w75 ⟨v405, rfl, ho0, hb⟩; refine ⟨_, rfl, ?_⟩; have n0_ := Aside0.mk (Kd.S_elder' dq103 (Kd.S_base ho0) hb); have n1_ := Aside0.mk (Kd.R_below dq101 hb); have n2_ := Aside0.mk (Kd.S_elder' dq102 (Kd.S_base ho0) hb); have n3_ := Aside0.mk (Kd.R_below dq100 hb); have n4_ := Aside0.mk (Kd.S_lower (Kd.S_new' (Kd.S_new' (Kd.S_new' (Kd.S_new' ho0 (Kd.S_lt dq103)) (Kd.R_lt dq101)) (Kd.S_lt dq102)) (Kd.R_lt dq100)) (below_size dq20)); have n5_ := Aside0.mk (below_step dq20 hb); clear HO393; clear HO396; clear HO399; clear HO402; clear HB; have HO393 := n0_; have HO396 := n1_; have HO399 := n2_; have HO402 := n3_; have HO406 := n4_; have HB := n5_; clear n0_ n1_ n2_ n3_ n4_ n5_; (try clear hb); (try clear hb2); (try clear hk); (try clear hi); (try clear ho0); obtain ⟨Ao76, co76, eo76⟩ := Kd.S_slice HO406.out; subst eo76) | ((with_reducible refine gate_callee (f := 14) rfl ?_); refine goesL_ (some 34) rfl rfl Try.func14 dq24 rfl #[.slice Ao71 t397.length co71, .slice Ao76 t404.length co76] rfl dq23 ?_; (with_reducible refine (laws_eqPNodeS.calls k _ _ t397 _ _ t404 false _ ?side1 ?side2 ?side3 ?side4 A13.out).mono ?_); (case side1 => exact dq8); (case side2 => exact (Kd.S_reads' HO399.out).2.1); (case side3 => repeat (first | exact (Kd.S_reads' HO406.out).2.2 | (with_reducible refine Kd.C_alloc ?_ _) | (with_reducible refine Kd.C_drewN ?_ _) | (with_reducible refine Kd.C_drew ?_))); (case side4 => exact (Kd.S_reads' HO406.out).2.1); rintro e w77 ⟨rfl, hb⟩; refine ⟨_, rfl, ?_⟩; have n0_ := Aside0.mk (Kd.S_below dq103 hb); have n1_ := Aside0.mk (Kd.R_below dq101 hb); have n2_ := Aside0.mk (Kd.S_below dq102 hb); have n3_ := Aside0.mk (Kd.R_below dq100 hb); have n4_ := Aside0.mk (Kd.S_below (by (with_reducible repeat (first | apply Kd.S_alloc | apply Kd.S_drewN | apply Kd.S_drew)); exact HO406.out) hb); have n5_ := Aside0.mk (below_step dq20 hb); clear HO393; clear HO396; clear HO399; clear HO402; clear HO406; clear HB; have HO393 := n0_; have HO396 := n1_; have HO399 := n2_; have HO402 := n3_; have HO406 := n4_; have HB := n5_; clear n0_ n1_ n2_ n3_ n4_ n5_; (try clear hb); (try clear hb2); (try clear hk); (try clear hi)))
  go_ret
  exact ⟨dq22, dq20⟩
 subst c14
 have H1 : ((laws_markPNodeS.f k t397 1).bind fun t408 => (if t408 < 0 then (laws_FnExactFollowOf.j0 k l0 a1 t394 t400 true) else ((laws_eqInt64S.f k t400 t394).bind fun t409 => (laws_FnExactFollowOf.j0 k l0 a1 t394 t400 (!t409))))) = some r := by rw [if_pos rfl] at H; exact H
 clear H
 have H := H1
 clear H1
 replace H := Option.bind_eq_some_iff.mp H
 obtain ⟨t408, A150, H⟩ := H
 replace H : (if t408 < 0 then (laws_FnExactFollowOf.j0 k l0 a1 t394 t400 true) else ((laws_eqInt64S.f k t400 t394).bind fun t409 => (laws_FnExactFollowOf.j0 k l0 a1 t394 t400 (!t409)))) = some r := H
 have A15 := Aside0.mk A150
 clear A150
 have HC16 := Aside0.mk H
 clear H
 go_enter Try.func5, Try.ntmps5
 go_upto_region 14 with (first | ((with_reducible refine gate_callee (f := 9) rfl ?_); refine goesL_ (some 15) rfl rfl Try.func9 dq24 rfl #[.slice A0 l0.length c0, .int .i64 1048576] rfl dq23 ?_; (with_reducible refine (laws_szPNodeS.calls k _ _ l0 1048576 t390 _ ?side1 ?side2 A3.out).mono ?_); (case side1 => exact dq3); (case side2 => exact dq4); rintro e w17 ⟨rfl, hb⟩; refine ⟨_, rfl, ?_⟩; have n0_ := Aside0.mk (below_step dq20 hb); clear HB; have HB := n0_; clear n0_; (try clear hb); (try clear hb2); (try clear hk); (try clear hi)) | ((with_reducible refine gate_callee (f := 11) rfl ?_); refine goesL_ (some 19) rfl rfl Try.func11 dq24 rfl #[.slice A0 l0.length c0] rfl dq23 ?_; (with_reducible refine (laws_toPNodeS.calls k _ _ l0 t391 _ ?side1 ?side2 A6.out).mono ?_); (case side1 => exact dq5); (case side2 => exact dq4); rintro e w18 ⟨v392, rfl, ho0, hb⟩; refine ⟨_, rfl, ?_⟩; have n0_ := Aside0.mk (Kd.S_lower ho0 (below_size dq20)); have n1_ := Aside0.mk (below_step dq20 hb); clear HB; have HO393 := n0_; have HB := n1_; clear n0_ n1_; (try clear hb); (try clear hb2); (try clear hk); (try clear hi); (try clear ho0); obtain ⟨Ao19, co19, eo19⟩ := Kd.S_slice HO393.out; subst eo19) | ((with_reducible refine gate_callee (f := 20) rfl ?_); refine goesL_ (some 21) rfl rfl Try.func20 dq24 rfl #[.slice Ao19 t391.length co19, .int .i64 a1] rfl dq23 ?_; (with_reducible refine (spec_FollowOf.calls k _ _ t391 a1 t394 _ ?side1 ?side2 A7.out).mono ?_); (case side1 => exact dq7); (case side2 => exact (Kd.S_reads' HO393.out).2.1); rintro e w20 ⟨v395, rfl, ho0, hb⟩; refine ⟨_, rfl, ?_⟩; have n0_ := Aside0.mk (Kd.S_elder' dq103 (Kd.R_base ho0) hb); have n1_ := Aside0.mk (Kd.R_lower ho0 (below_size dq20)); have n2_ := Aside0.mk (below_step dq20 hb); clear HO393; clear HB; have HO393 := n0_; have HO396 := n1_; have HB := n2_; clear n0_ n1_ n2_; (try clear hb); (try clear hb2); (try clear hk); (try clear hi); (try clear ho0)) | ((with_reducible refine gate_callee (f := 11) rfl ?_); refine goesL_ (some 23) rfl rfl Try.func11 dq24 rfl #[.slice A0 l0.length c0] rfl dq23 ?_; (with_reducible refine (laws_toPNodeS.calls k _ _ l0 t397 _ ?side1 ?side2 A8.out).mono ?_); (case side1 => exact dq5); (case side2 => exact dq4); rintro e w21 ⟨v398, rfl, ho0, hb⟩; refine ⟨_, rfl, ?_⟩; have n0_ := Aside0.mk (Kd.S_elder' dq103 (Kd.S_base ho0) hb); have n1_ := Aside0.mk (Kd.R_below dq101 hb); have n2_ := Aside0.mk (Kd.S_lower (Kd.S_new' (Kd.S_new' ho0 (Kd.S_lt dq103)) (Kd.R_lt dq101)) (below_size dq20)); have n3_ := Aside0.mk (below_step dq20 hb); clear HO393; clear HO396; clear HB; have HO393 := n0_; have HO396 := n1_; have HO399 := n2_; have HB := n3_; clear n0_ n1_ n2_ n3_; (try clear hb); (try clear hb2); (try clear hk); (try clear hi); (try clear ho0); obtain ⟨Ao22, co22, eo22⟩ := Kd.S_slice HO399.out; subst eo22) | ((with_reducible refine gate_callee (f := 21) rfl ?_); refine goesL_ (some 26) rfl rfl Try.func21 dq24 rfl #[.slice Ao22 t397.length co22, .int .i64 a1] rfl dq23 ?_; (with_reducible refine (impl_FollowOf.calls k _ _ t397 a1 t400 _ ?side1 ?side2 A9.out).mono ?_); (case side1 => exact dq8); (case side2 => exact (Kd.S_reads' HO399.out).2.1); rintro e w23 ⟨v401, rfl, ho0, hb⟩; refine ⟨_, rfl, ?_⟩; have n0_ := Aside0.mk (Kd.S_elder' dq103 (Kd.R_base ho0) hb); have n1_ := Aside0.mk (Kd.R_elder' dq101 (Kd.R_base ho0) hb); have n2_ := Aside0.mk (Kd.S_elder' dq102 (Kd.R_base ho0) hb); have n3_ := Aside0.mk (Kd.R_lower (Kd.R_new' ho0 (Kd.R_lt dq101)) (below_size dq20)); have n4_ := Aside0.mk (below_step dq20 hb); clear HO393; clear HO396; clear HO399; clear HB; have HO393 := n0_; have HO396 := n1_; have HO399 := n2_; have HO402 := n3_; have HB := n4_; clear n0_ n1_ n2_ n3_ n4_; (try clear hb); (try clear hb2); (try clear hk); (try clear hi); (try clear ho0); obtain ⟨Ao24, co24, eo24⟩ := Kd.R_slice HO402.out; subst eo24; obtain ⟨Ao25, co25, eo25⟩ := Kd.R_slice HO396.out; subst eo25) | ((with_reducible refine gate_callee (f := 13) rfl ?_); refine goesL_ (some 29) rfl rfl Try.func13 dq24 rfl #[.slice Ao24 t400.length co24, .slice Ao25 t394.length co25] rfl dq23 ?_; (with_reducible refine (laws_eqInt64S.calls k _ _ t400 _ _ t394 true _ ?side1 ?side2 ?side3 ?side4 A10.out).mono ?_); (case side1 => exact dq9); (case side2 => exact (Kd.R_reads' HO402.out).2.1); (case side3 => exact dq10); (case side4 => exact (Kd.R_reads' HO396.out).2.1); rintro e w' ⟨rfl, ⟨nd, rfl⟩⟩; refine ⟨_, rfl, ?_⟩) | ((with_reducible refine gate_callee (f := 11) rfl ?_); refine goesL_ (some 33) rfl rfl Try.func11 dq24 rfl #[.slice A0 l0.length c0] rfl dq23 ?_; (with_reducible refine (laws_toPNodeS.calls k _ _ l0 t404 _ ?side1 ?side2 A12.out).mono ?_); (case side1 => repeat (first | exact (Kd.C_below HR0.out dq20) | (with_reducible refine Kd.C_alloc ?_ _) | (with_reducible refine Kd.C_drewN ?_ _) | (with_reducible refine Kd.C_drew ?_))); (case side2 => exact dq4); rintro e w26 ⟨v405, rfl, ho0, hb⟩; refine ⟨_, rfl, ?_⟩; have n0_ := Aside0.mk (Kd.S_elder' dq103 (Kd.S_base ho0) hb); have n1_ := Aside0.mk (Kd.R_below dq101 hb); have n2_ := Aside0.mk (Kd.S_elder' dq102 (Kd.S_base ho0) hb); have n3_ := Aside0.mk (Kd.R_below dq100 hb); have n4_ := Aside0.mk (Kd.S_lower (Kd.S_new' (Kd.S_new' (Kd.S_new' (Kd.S_new' ho0 (Kd.S_lt dq103)) (Kd.R_lt dq101)) (Kd.S_lt dq102)) (Kd.R_lt dq100)) (below_size dq20)); have n5_ := Aside0.mk (below_step dq20 hb); clear HO393; clear HO396; clear HO399; clear HO402; clear HB; have HO393 := n0_; have HO396 := n1_; have HO399 := n2_; have HO402 := n3_; have HO406 := n4_; have HB := n5_; clear n0_ n1_ n2_ n3_ n4_ n5_; (try clear hb); (try clear hb2); (try clear hk); (try clear hi); (try clear ho0); obtain ⟨Ao27, co27, eo27⟩ := Kd.S_slice HO406.out; subst eo27) | ((with_reducible refine gate_callee (f := 14) rfl ?_); refine goesL_ (some 34) rfl rfl Try.func14 dq24 rfl #[.slice Ao22 t397.length co22, .slice Ao27 t404.length co27] rfl dq23 ?_; (with_reducible refine (laws_eqPNodeS.calls k _ _ t397 _ _ t404 true _ ?side1 ?side2 ?side3 ?side4 A13.out).mono ?_); (case side1 => exact dq8); (case side2 => exact (Kd.S_reads' HO399.out).2.1); (case side3 => repeat (first | exact (Kd.S_reads' HO406.out).2.2 | (with_reducible refine Kd.C_alloc ?_ _) | (with_reducible refine Kd.C_drewN ?_ _) | (with_reducible refine Kd.C_drew ?_))); (case side4 => exact (Kd.S_reads' HO406.out).2.1); rintro e w28 ⟨rfl, hb⟩; refine ⟨_, rfl, ?_⟩; have n0_ := Aside0.mk (Kd.S_below dq103 hb); have n1_ := Aside0.mk (Kd.R_below dq101 hb); have n2_ := Aside0.mk (Kd.S_below dq102 hb); have n3_ := Aside0.mk (Kd.R_below dq100 hb); have n4_ := Aside0.mk (Kd.S_below (by (with_reducible repeat (first | apply Kd.S_alloc | apply Kd.S_drewN | apply Kd.S_drew)); exact HO406.out) hb); have n5_ := Aside0.mk (below_step dq20 hb); clear HO393; clear HO396; clear HO399; clear HO402; clear HO406; clear HB; have HO393 := n0_; have HO396 := n1_; have HO399 := n2_; have HO402 := n3_; have HO406 := n4_; have HB := n5_; clear n0_ n1_ n2_ n3_ n4_ n5_; (try clear hb); (try clear hb2); (try clear hk); (try clear hi)) | ((with_reducible refine gate_callee (f := 15) rfl ?_); refine goesL_ (some 38) rfl rfl Try.func15 dq24 rfl #[.slice Ao22 t397.length co22, .int .i64 1] rfl dq23 ?_; (with_reducible refine (laws_markPNodeS.marks k _ _ t397 1 t408 w _ dq20 dq102 A15.out).mono ?_); rintro e w29 ⟨rfl, hx_, hb, hk_⟩; refine ⟨_, rfl, ?_⟩; have n0_ := Aside0.mk (Kd.S_nil k49 49 w29 w.heap.size (fun _ => True)); have n1_ := Aside0.mk (R_pmarked dq101 hk_ (fun k_ h_ => by first | exact h_.2 | exact h_.1.2 | exact h_.1.1.2 | exact h_.1.1.1.2 | exact h_.1.1.1.1.2 | exact h_.1.1.1.1.1.2)); have n2_ := Aside0.mk (Kd.S_nil k49 49 w29 w.heap.size (fun _ => True)); have n3_ := Aside0.mk (R_pmarked dq100 hk_ (fun k_ h_ => by first | exact h_.2 | exact h_.1.2 | exact h_.1.1.2 | exact h_.1.1.1.2 | exact h_.1.1.1.1.2 | exact h_.1.1.1.1.1.2)); have n4_ := Aside0.mk (Kd.S_nil k49 49 w29 w.heap.size (fun _ => True)); have n5_ := Aside0.mk hb; clear hx_ hk_; clear HO393; clear HO396; clear HO399; clear HO402; clear HO406; clear HB; have HO393 := n0_; have HO396 := n1_; have HO399 := n2_; have HO402 := n3_; have HO406 := n4_; have HB := n5_; clear n0_ n1_ n2_ n3_ n4_ n5_; (try clear hb); (try clear hb2); (try clear hk); (try clear hi)))
 (try simp only [Act.put, List.setIfInBounds_toArray, List.set_cons_zero, List.set_cons_succ])
 go_cut [46] (fun v46 wc => ∃ (kq : Nat) (x46_15 : Bool), v46 = .bool x46_15 ∧ Aside0 (laws_FnExactFollowOf.j0 kq l0 a1 t394 t400 x46_15 = some r) ∧ Aside0 (kq ≤ k) ∧ Aside0 (Kd.R (Kd.int .i64) 2 wc w.heap.size (fun k_ => some k_ ≠ ((.slice Ao24 t400.length co24) : Value).ownBlock) (.slice Ao25 t394.length co25) t394) ∧ Aside0 (Kd.R (Kd.int .i64) 2 wc w.heap.size (fun k_ => some k_ ≠ ((.slice Ao25 t394.length co25) : Value).ownBlock) (.slice Ao24 t400.length co24) t400) ∧ Aside0 (Below w.heap.size w wc))
 case first =>
  have H := HC16.out
  clear HC16
  by_cases c30 : t408 < 0
  ·rw [if_pos c30] at H
   have c30b0 := decide_eq_true c30
   clear c30
   (first | rw [c30b0] | (simp only [i64_w, i32_w]; rw [c30b0]) | skip)
   have H' := Aside0.mk H
   clear H
   go_wp2
   go_meet
   case rel => exact ⟨_, (true), dq18, H', ⟨dq47⟩, ⟨dq105⟩, ⟨dq104⟩, ⟨dq20⟩⟩
  rw [if_neg c30] at H
  have c30b0 := decide_eq_false c30
  clear c30
  (first | rw [c30b0] | (simp only [i64_w, i32_w]; rw [c30b0]) | skip)
  replace H := Option.bind_eq_some_iff.mp H
  obtain ⟨t409, A310, H⟩ := H
  replace H : (laws_FnExactFollowOf.j0 k l0 a1 t394 t400 (!t409)) = some r := H
  have A31 := Aside0.mk A310
  clear A310
  have H' := Aside0.mk H
  clear H
  go_wp2_with (first | (go_at_call 13; (with_reducible refine (laws_eqInt64S.calls k _ _ t400 _ _ t394 t409 _ ?side1 ?side2 ?side3 ?side4 A31.out).mono ?_); (case side1 => exact dq9); (case side2 => exact (Kd.R_reads' HO402.out).2.1); (case side3 => exact dq10); (case side4 => exact (Kd.R_reads' HO396.out).2.1); rintro e w' ⟨rfl, ⟨nd, rfl⟩⟩))
  go_meet
  case rel => exact ⟨_, (!t409), dq18, H', ⟨dq47⟩, ⟨dq105⟩, ⟨dq104⟩, ⟨dq20⟩⟩
 clear HC16
 try clear c1
 try clear c2
 try clear p2
 try clear c3
 try clear c4
 try clear c4b0
 try clear c5
 try clear c9
 try clear c11
 try clear c13
 try clear c14
 try clear c15
 try clear c20
 try clear c21
 try clear c30
 try clear c30b0
 obtain ⟨kq, x46_15, rfl, HA, HJ15, HO_6, HO_8, HB⟩ := hcut
 cases kq with
 | zero => exact absurd HA.out (by simp [laws_FnExactFollowOf.j0])
 | succ kj15 =>
  have H := HA.out
  clear HA
  simp only [laws_FnExactFollowOf.j0] at H
  by_cases c32 : x46_15 = true
  ·subst c32
   have H1 : (some false) = some r := by rw [if_pos rfl] at H; exact H
   clear H
   have H := H1
   clear H1
   obtain rfl := Option.some.inj H
   go_wp2
   go_ret
   exact ⟨dq22, dq20⟩
  replace c32 := Bool.eq_false_iff.mpr c32
  subst c32
  have H1 : ((laws_markInt64S.f kj15 t400 1).bind fun bt410 => ((laws_heldInt64S.f kj15 bt410.2 1).bind fun t412 => (if t412 < 0 then (some false) else (if t412 = bt410.1 then ((laws_toPNodeS.f kj15 l0).bind fun t413 => ((impl_FollowOf.f kj15 t413 a1).bind fun t416 => ((laws_eqInt64S.f kj15 t416 t394).bind fun t419 => (if t419 = true then ((laws_heldInt64S.f kj15 bt410.2 1).bind fun t420 => (if t420 < 0 then (some false) else (if t420 = bt410.1 then (some true) else (some false)))) else (some false))))) else (some false))))) = some r := by rw [if_neg (show ¬ (false = true) by decide)] at H; exact H
  clear H
  have H := H1
  clear H1
  replace H := Option.bind_eq_some_iff.mp H
  obtain ⟨⟨t410, t411⟩, A330, H⟩ := H
  replace H : ((laws_heldInt64S.f kj15 t411 1).bind fun t412 => (if t412 < 0 then (some false) else (if t412 = t410 then ((laws_toPNodeS.f kj15 l0).bind fun t413 => ((impl_FollowOf.f kj15 t413 a1).bind fun t416 => ((laws_eqInt64S.f kj15 t416 t394).bind fun t419 => (if t419 = true then ((laws_heldInt64S.f kj15 t411 1).bind fun t420 => (if t420 < 0 then (some false) else (if t420 = t410 then (some true) else (some false)))) else (some false))))) else (some false)))) = some r := H
  have A33 := Aside0.mk A330
  clear A330
  replace H := Option.bind_eq_some_iff.mp H
  obtain ⟨t412, A340, H⟩ := H
  replace H : (if t412 < 0 then (some false) else (if t412 = t410 then ((laws_toPNodeS.f kj15 l0).bind fun t413 => ((impl_FollowOf.f kj15 t413 a1).bind fun t416 => ((laws_eqInt64S.f kj15 t416 t394).bind fun t419 => (if t419 = true then ((laws_heldInt64S.f kj15 t411 1).bind fun t420 => (if t420 < 0 then (some false) else (if t420 = t410 then (some true) else (some false)))) else (some false))))) else (some false))) = some r := H
  have A34 := Aside0.mk A340
  clear A340
  by_cases c35 : t412 < 0
  ·rw [if_pos c35] at H
   have c35b0 := decide_eq_true c35
   clear c35
   obtain rfl := Option.some.inj H
   go_wp2_with (first | ((with_reducible refine gate_callee (f := 16) rfl ?_); refine goesL_ (some 49) rfl rfl Try.func16 dq24 rfl #[.slice Ao24 t400.length co24, .int .i64 1] rfl dq23 ?_; (with_reducible refine (laws_markInt64S.calls kj15 (fun k_ => some k_ = (.slice Ao24 t400.length co24 : Value).ownBlock) (.slice Ao24 t400.length co24) t400 1 t410 t411 w _ ?side1 ?side2 A33.out).mono ?_); (case side1 => exact dq11); (case side2 => exact Kd.R_tight rfl HO_8.out); rintro e w36 ⟨rfl, hy0, hb, hkp⟩; refine ⟨_, rfl, ?_⟩; have n0_ := Aside0.mk (Kd.R_mono (ok' := fun k_ => some k_ ≠ (.slice Ao24 t400.length co24 : Value).ownBlock) (Kd.R_keptB (HO_6.out) hkp (fun k_ hk_ hs_ => (hk_) hs_)) (fun k_ hk_ => hk_.1)); have n1_ := Aside0.mk (Kd.R_reok rfl hy0 (fun k_ e_ => HO_8.out.1 k_ e_)); have n2_ := Aside0.mk (hb); clear HO_6; clear HO_8; clear HB; have HO_6 := n0_; have HO_8 := n1_; have HB := n2_; clear n0_ n1_ n2_; (try clear hb); (try clear hkp); (try clear hy0)) | ((with_reducible refine gate_callee (f := 17) rfl ?_); refine goesL_ (some 52) rfl rfl Try.func17 dq24 rfl #[.slice Ao24 t411.length co24, .int .i64 1] rfl dq106 ?_; (with_reducible refine (laws_heldInt64S.calls kj15 _ _ t411 1 t412 _ ?side1 ?side2 A34.out).mono ?_); (case side1 => exact dq12); (case side2 => exact dq13); rintro e w' ⟨rfl, ⟨nd, rfl⟩⟩; refine ⟨_, rfl, ?_⟩))
   go_ret
   exact ⟨dq22, dq20⟩
  rw [if_neg c35] at H
  have c35b0 := decide_eq_false c35
  clear c35
  by_cases c37 : t412 = t410
  rotate_left
  ·rw [if_neg c37] at H
   have c37b0 := beq_eq_false_iff_ne.mpr c37
   have c37b1 := bne_iff_ne.mpr c37
   obtain rfl := Option.some.inj H
   go_wp2_with (first | ((with_reducible refine gate_callee (f := 16) rfl ?_); refine goesL_ (some 49) rfl rfl Try.func16 dq24 rfl #[.slice Ao24 t400.length co24, .int .i64 1] rfl dq23 ?_; (with_reducible refine (laws_markInt64S.calls kj15 (fun k_ => some k_ = (.slice Ao24 t400.length co24 : Value).ownBlock) (.slice Ao24 t400.length co24) t400 1 t410 t411 w _ ?side1 ?side2 A33.out).mono ?_); (case side1 => exact dq11); (case side2 => exact Kd.R_tight rfl HO_8.out); rintro e w65 ⟨rfl, hy0, hb, hkp⟩; refine ⟨_, rfl, ?_⟩; have n0_ := Aside0.mk (Kd.R_mono (ok' := fun k_ => some k_ ≠ (.slice Ao24 t400.length co24 : Value).ownBlock) (Kd.R_keptB (HO_6.out) hkp (fun k_ hk_ hs_ => (hk_) hs_)) (fun k_ hk_ => hk_.1)); have n1_ := Aside0.mk (Kd.R_reok rfl hy0 (fun k_ e_ => HO_8.out.1 k_ e_)); have n2_ := Aside0.mk (hb); clear HO_6; clear HO_8; clear HB; have HO_6 := n0_; have HO_8 := n1_; have HB := n2_; clear n0_ n1_ n2_; (try clear hb); (try clear hkp); (try clear hy0)) | ((with_reducible refine gate_callee (f := 17) rfl ?_); refine goesL_ (some 52) rfl rfl Try.func17 dq24 rfl #[.slice Ao24 t411.length co24, .int .i64 1] rfl dq106 ?_; (with_reducible refine (laws_heldInt64S.calls kj15 _ _ t411 1 t412 _ ?side1 ?side2 A34.out).mono ?_); (case side1 => exact dq12); (case side2 => exact dq13); rintro e w' ⟨rfl, ⟨nd, rfl⟩⟩; refine ⟨_, rfl, ?_⟩))
   go_ret
   exact ⟨dq22, dq20⟩
  rw [if_pos c37] at H
  have c37b0 := beq_iff_eq.mpr c37
  have c37b1 := bne_eq_false_iff_eq.mpr c37
  clear c37
  replace H := Option.bind_eq_some_iff.mp H
  obtain ⟨t413, A380, H⟩ := H
  replace H : ((impl_FollowOf.f kj15 t413 a1).bind fun t416 => ((laws_eqInt64S.f kj15 t416 t394).bind fun t419 => (if t419 = true then ((laws_heldInt64S.f kj15 t411 1).bind fun t420 => (if t420 < 0 then (some false) else (if t420 = t410 then (some true) else (some false)))) else (some false)))) = some r := H
  have A38 := Aside0.mk A380
  clear A380
  replace H := Option.bind_eq_some_iff.mp H
  obtain ⟨t416, A390, H⟩ := H
  replace H : ((laws_eqInt64S.f kj15 t416 t394).bind fun t419 => (if t419 = true then ((laws_heldInt64S.f kj15 t411 1).bind fun t420 => (if t420 < 0 then (some false) else (if t420 = t410 then (some true) else (some false)))) else (some false))) = some r := H
  have A39 := Aside0.mk A390
  clear A390
  replace H := Option.bind_eq_some_iff.mp H
  obtain ⟨t419, A400, H⟩ := H
  replace H : (if t419 = true then ((laws_heldInt64S.f kj15 t411 1).bind fun t420 => (if t420 < 0 then (some false) else (if t420 = t410 then (some true) else (some false)))) else (some false)) = some r := H
  have A40 := Aside0.mk A400
  clear A400
  by_cases c41 : t419 = true
  rotate_left
  ·replace c41 := Bool.eq_false_iff.mpr c41
   subst c41
   have H1 : (some false) = some r := by rw [if_neg (show ¬ (false = true) by decide)] at H; exact H
   clear H
   have H := H1
   clear H1
   obtain rfl := Option.some.inj H
   go_wp2_with (first | ((with_reducible refine gate_callee (f := 16) rfl ?_); refine goesL_ (some 49) rfl rfl Try.func16 dq24 rfl #[.slice Ao24 t400.length co24, .int .i64 1] rfl dq23 ?_; (with_reducible refine (laws_markInt64S.calls kj15 (fun k_ => some k_ = (.slice Ao24 t400.length co24 : Value).ownBlock) (.slice Ao24 t400.length co24) t400 1 t410 t411 w _ ?side1 ?side2 A33.out).mono ?_); (case side1 => exact dq11); (case side2 => exact Kd.R_tight rfl HO_8.out); rintro e w60 ⟨rfl, hy0, hb, hkp⟩; refine ⟨_, rfl, ?_⟩; have n0_ := Aside0.mk (Kd.R_mono (ok' := fun k_ => some k_ ≠ (.slice Ao24 t400.length co24 : Value).ownBlock) (Kd.R_keptB (HO_6.out) hkp (fun k_ hk_ hs_ => (hk_) hs_)) (fun k_ hk_ => hk_.1)); have n1_ := Aside0.mk (Kd.R_reok rfl hy0 (fun k_ e_ => HO_8.out.1 k_ e_)); have n2_ := Aside0.mk (hb); clear HO_6; clear HO_8; clear HB; have HO_6 := n0_; have HO_8 := n1_; have HB := n2_; clear n0_ n1_ n2_; (try clear hb); (try clear hkp); (try clear hy0)) | ((with_reducible refine gate_callee (f := 17) rfl ?_); refine goesL_ (some 52) rfl rfl Try.func17 dq24 rfl #[.slice Ao24 t411.length co24, .int .i64 1] rfl dq106 ?_; (with_reducible refine (laws_heldInt64S.calls kj15 _ _ t411 1 t412 _ ?side1 ?side2 A34.out).mono ?_); (case side1 => exact dq12); (case side2 => exact dq13); rintro e w' ⟨rfl, ⟨nd, rfl⟩⟩; refine ⟨_, rfl, ?_⟩) | ((with_reducible refine gate_callee (f := 11) rfl ?_); refine goesL_ (some 59) rfl rfl Try.func11 dq24 rfl #[.slice A0 l0.length c0] rfl dq23 ?_; (with_reducible refine (laws_toPNodeS.calls kj15 _ _ l0 t413 _ ?side1 ?side2 A38.out).mono ?_); (case side1 => repeat (first | exact (Kd.C_below HR0.out dq20) | (with_reducible refine Kd.C_alloc ?_ _) | (with_reducible refine Kd.C_drewN ?_ _) | (with_reducible refine Kd.C_drew ?_))); (case side2 => exact dq4); rintro e w61 ⟨v414, rfl, ho0, hb⟩; refine ⟨_, rfl, ?_⟩; have n0_ := Aside0.mk (Kd.R_below dq107 hb); have n1_ := Aside0.mk (Kd.R_below dq71 hb); have n2_ := Aside0.mk (Kd.S_lower (Kd.S_new' (Kd.S_new' ho0 (Kd.R_lt dq107)) (Kd.R_lt dq71)) (below_size dq20)); have n3_ := Aside0.mk (below_step dq20 hb); clear HO_6; clear HO_8; clear HB; have HO_6 := n0_; have HO_8 := n1_; have HO415 := n2_; have HB := n3_; clear n0_ n1_ n2_ n3_; (try clear hb); (try clear hb2); (try clear hk); (try clear hi); (try clear ho0); obtain ⟨Ao62, co62, eo62⟩ := Kd.S_slice HO415.out; subst eo62) | ((with_reducible refine gate_callee (f := 21) rfl ?_); refine goesL_ (some 61) rfl rfl Try.func21 dq24 rfl #[.slice Ao62 t413.length co62, .int .i64 a1] rfl dq23 ?_; (with_reducible refine (impl_FollowOf.calls kj15 _ _ t413 a1 t416 _ ?side1 ?side2 A39.out).mono ?_); (case side1 => exact dq14); (case side2 => exact (Kd.S_reads' HO415.out).2.1); rintro e w63 ⟨v417, rfl, ho0, hb⟩; refine ⟨_, rfl, ?_⟩; have n0_ := Aside0.mk (Kd.R_elder' dq107 (Kd.R_base ho0) hb); have n1_ := Aside0.mk (Kd.R_elder' dq71 (Kd.R_base ho0) hb); have n2_ := Aside0.mk (Kd.S_elder' dq108 (Kd.R_base ho0) hb); have n3_ := Aside0.mk (Kd.R_lower (Kd.R_new' (Kd.R_new' ho0 (Kd.R_lt dq107)) (Kd.R_lt dq71)) (below_size dq20)); have n4_ := Aside0.mk (below_step dq20 hb); clear HO_6; clear HO_8; clear HO415; clear HB; have HO_6 := n0_; have HO_8 := n1_; have HO415 := n2_; have HO418 := n3_; have HB := n4_; clear n0_ n1_ n2_ n3_ n4_; (try clear hb); (try clear hb2); (try clear hk); (try clear hi); (try clear ho0); obtain ⟨Ao64, co64, eo64⟩ := Kd.R_slice HO418.out; subst eo64) | ((with_reducible refine gate_callee (f := 13) rfl ?_); refine goesL_ (some 64) rfl rfl Try.func13 dq24 rfl #[.slice Ao64 t416.length co64, .slice Ao25 t394.length co25] rfl dq23 ?_; (with_reducible refine (laws_eqInt64S.calls kj15 _ _ t416 _ _ t394 false _ ?side1 ?side2 ?side3 ?side4 A40.out).mono ?_); (case side1 => exact dq15); (case side2 => exact (Kd.R_reads' HO418.out).2.1); (case side3 => exact dq16); (case side4 => exact (Kd.R_reads' HO_6.out).2.1); rintro e w' ⟨rfl, ⟨nd, rfl⟩⟩; refine ⟨_, rfl, ?_⟩))
   go_ret
   exact ⟨dq22, dq20⟩
  subst c41
  have H1 : ((laws_heldInt64S.f kj15 t411 1).bind fun t420 => (if t420 < 0 then (some false) else (if t420 = t410 then (some true) else (some false)))) = some r := by rw [if_pos rfl] at H; exact H
  clear H
  have H := H1
  clear H1
  replace H := Option.bind_eq_some_iff.mp H
  obtain ⟨t420, A420, H⟩ := H
  replace H : (if t420 < 0 then (some false) else (if t420 = t410 then (some true) else (some false))) = some r := H
  have A42 := Aside0.mk A420
  clear A420
  by_cases c43 : t420 < 0
  ·rw [if_pos c43] at H
   have c43b0 := decide_eq_true c43
   clear c43
   obtain rfl := Option.some.inj H
   go_wp2_with (first | ((with_reducible refine gate_callee (f := 16) rfl ?_); refine goesL_ (some 49) rfl rfl Try.func16 dq24 rfl #[.slice Ao24 t400.length co24, .int .i64 1] rfl dq23 ?_; (with_reducible refine (laws_markInt64S.calls kj15 (fun k_ => some k_ = (.slice Ao24 t400.length co24 : Value).ownBlock) (.slice Ao24 t400.length co24) t400 1 t410 t411 w _ ?side1 ?side2 A33.out).mono ?_); (case side1 => exact dq11); (case side2 => exact Kd.R_tight rfl HO_8.out); rintro e w44 ⟨rfl, hy0, hb, hkp⟩; refine ⟨_, rfl, ?_⟩; have n0_ := Aside0.mk (Kd.R_mono (ok' := fun k_ => some k_ ≠ (.slice Ao24 t400.length co24 : Value).ownBlock) (Kd.R_keptB (HO_6.out) hkp (fun k_ hk_ hs_ => (hk_) hs_)) (fun k_ hk_ => hk_.1)); have n1_ := Aside0.mk (Kd.R_reok rfl hy0 (fun k_ e_ => HO_8.out.1 k_ e_)); have n2_ := Aside0.mk (hb); clear HO_6; clear HO_8; clear HB; have HO_6 := n0_; have HO_8 := n1_; have HB := n2_; clear n0_ n1_ n2_; (try clear hb); (try clear hkp); (try clear hy0)) | ((with_reducible refine gate_callee (f := 17) rfl ?_); refine goesL_ (some 52) rfl rfl Try.func17 dq24 rfl #[.slice Ao24 t411.length co24, .int .i64 1] rfl dq106 ?_; (with_reducible refine (laws_heldInt64S.calls kj15 _ _ t411 1 t412 _ ?side1 ?side2 A34.out).mono ?_); (case side1 => exact dq12); (case side2 => exact dq13); rintro e w' ⟨rfl, ⟨nd, rfl⟩⟩; refine ⟨_, rfl, ?_⟩) | ((with_reducible refine gate_callee (f := 11) rfl ?_); refine goesL_ (some 59) rfl rfl Try.func11 dq24 rfl #[.slice A0 l0.length c0] rfl dq23 ?_; (with_reducible refine (laws_toPNodeS.calls kj15 _ _ l0 t413 _ ?side1 ?side2 A38.out).mono ?_); (case side1 => repeat (first | exact (Kd.C_below HR0.out dq20) | (with_reducible refine Kd.C_alloc ?_ _) | (with_reducible refine Kd.C_drewN ?_ _) | (with_reducible refine Kd.C_drew ?_))); (case side2 => exact dq4); rintro e w45 ⟨v414, rfl, ho0, hb⟩; refine ⟨_, rfl, ?_⟩; have n0_ := Aside0.mk (Kd.R_below dq107 hb); have n1_ := Aside0.mk (Kd.R_below dq71 hb); have n2_ := Aside0.mk (Kd.S_lower (Kd.S_new' (Kd.S_new' ho0 (Kd.R_lt dq107)) (Kd.R_lt dq71)) (below_size dq20)); have n3_ := Aside0.mk (below_step dq20 hb); clear HO_6; clear HO_8; clear HB; have HO_6 := n0_; have HO_8 := n1_; have HO415 := n2_; have HB := n3_; clear n0_ n1_ n2_ n3_; (try clear hb); (try clear hb2); (try clear hk); (try clear hi); (try clear ho0); obtain ⟨Ao46, co46, eo46⟩ := Kd.S_slice HO415.out; subst eo46) | ((with_reducible refine gate_callee (f := 21) rfl ?_); refine goesL_ (some 61) rfl rfl Try.func21 dq24 rfl #[.slice Ao46 t413.length co46, .int .i64 a1] rfl dq23 ?_; (with_reducible refine (impl_FollowOf.calls kj15 _ _ t413 a1 t416 _ ?side1 ?side2 A39.out).mono ?_); (case side1 => exact dq14); (case side2 => exact (Kd.S_reads' HO415.out).2.1); rintro e w47 ⟨v417, rfl, ho0, hb⟩; refine ⟨_, rfl, ?_⟩; have n0_ := Aside0.mk (Kd.R_elder' dq107 (Kd.R_base ho0) hb); have n1_ := Aside0.mk (Kd.R_elder' dq71 (Kd.R_base ho0) hb); have n2_ := Aside0.mk (Kd.S_elder' dq108 (Kd.R_base ho0) hb); have n3_ := Aside0.mk (Kd.R_lower (Kd.R_new' (Kd.R_new' ho0 (Kd.R_lt dq107)) (Kd.R_lt dq71)) (below_size dq20)); have n4_ := Aside0.mk (below_step dq20 hb); clear HO_6; clear HO_8; clear HO415; clear HB; have HO_6 := n0_; have HO_8 := n1_; have HO415 := n2_; have HO418 := n3_; have HB := n4_; clear n0_ n1_ n2_ n3_ n4_; (try clear hb); (try clear hb2); (try clear hk); (try clear hi); (try clear ho0); obtain ⟨Ao48, co48, eo48⟩ := Kd.R_slice HO418.out; subst eo48) | ((with_reducible refine gate_callee (f := 13) rfl ?_); refine goesL_ (some 64) rfl rfl Try.func13 dq24 rfl #[.slice Ao48 t416.length co48, .slice Ao25 t394.length co25] rfl dq23 ?_; (with_reducible refine (laws_eqInt64S.calls kj15 _ _ t416 _ _ t394 true _ ?side1 ?side2 ?side3 ?side4 A40.out).mono ?_); (case side1 => exact dq15); (case side2 => exact (Kd.R_reads' HO418.out).2.1); (case side3 => exact dq16); (case side4 => exact (Kd.R_reads' HO_6.out).2.1); rintro e w' ⟨rfl, ⟨nd, rfl⟩⟩; refine ⟨_, rfl, ?_⟩) | ((with_reducible refine gate_callee (f := 17) rfl ?_); refine goesL_ (some 68) rfl rfl Try.func17 dq24 rfl #[.slice Ao24 t411.length co24, .int .i64 1] rfl dq106 ?_; (with_reducible refine (laws_heldInt64S.calls kj15 _ _ t411 1 t420 _ ?side1 ?side2 A42.out).mono ?_); (case side1 => exact dq12); (case side2 => exact dq13); rintro e w' ⟨rfl, ⟨nd, rfl⟩⟩; refine ⟨_, rfl, ?_⟩))
   go_ret
   exact ⟨dq22, dq20⟩
  rw [if_neg c43] at H
  have c43b0 := decide_eq_false c43
  clear c43
  by_cases c49 : t420 = t410
  rotate_left
  ·rw [if_neg c49] at H
   have c49b0 := beq_eq_false_iff_ne.mpr c49
   have c49b1 := bne_iff_ne.mpr c49
   obtain rfl := Option.some.inj H
   go_wp2_with (first | ((with_reducible refine gate_callee (f := 16) rfl ?_); refine goesL_ (some 49) rfl rfl Try.func16 dq24 rfl #[.slice Ao24 t400.length co24, .int .i64 1] rfl dq23 ?_; (with_reducible refine (laws_markInt64S.calls kj15 (fun k_ => some k_ = (.slice Ao24 t400.length co24 : Value).ownBlock) (.slice Ao24 t400.length co24) t400 1 t410 t411 w _ ?side1 ?side2 A33.out).mono ?_); (case side1 => exact dq11); (case side2 => exact Kd.R_tight rfl HO_8.out); rintro e w55 ⟨rfl, hy0, hb, hkp⟩; refine ⟨_, rfl, ?_⟩; have n0_ := Aside0.mk (Kd.R_mono (ok' := fun k_ => some k_ ≠ (.slice Ao24 t400.length co24 : Value).ownBlock) (Kd.R_keptB (HO_6.out) hkp (fun k_ hk_ hs_ => (hk_) hs_)) (fun k_ hk_ => hk_.1)); have n1_ := Aside0.mk (Kd.R_reok rfl hy0 (fun k_ e_ => HO_8.out.1 k_ e_)); have n2_ := Aside0.mk (hb); clear HO_6; clear HO_8; clear HB; have HO_6 := n0_; have HO_8 := n1_; have HB := n2_; clear n0_ n1_ n2_; (try clear hb); (try clear hkp); (try clear hy0)) | ((with_reducible refine gate_callee (f := 17) rfl ?_); refine goesL_ (some 52) rfl rfl Try.func17 dq24 rfl #[.slice Ao24 t411.length co24, .int .i64 1] rfl dq106 ?_; (with_reducible refine (laws_heldInt64S.calls kj15 _ _ t411 1 t412 _ ?side1 ?side2 A34.out).mono ?_); (case side1 => exact dq12); (case side2 => exact dq13); rintro e w' ⟨rfl, ⟨nd, rfl⟩⟩; refine ⟨_, rfl, ?_⟩) | ((with_reducible refine gate_callee (f := 11) rfl ?_); refine goesL_ (some 59) rfl rfl Try.func11 dq24 rfl #[.slice A0 l0.length c0] rfl dq23 ?_; (with_reducible refine (laws_toPNodeS.calls kj15 _ _ l0 t413 _ ?side1 ?side2 A38.out).mono ?_); (case side1 => repeat (first | exact (Kd.C_below HR0.out dq20) | (with_reducible refine Kd.C_alloc ?_ _) | (with_reducible refine Kd.C_drewN ?_ _) | (with_reducible refine Kd.C_drew ?_))); (case side2 => exact dq4); rintro e w56 ⟨v414, rfl, ho0, hb⟩; refine ⟨_, rfl, ?_⟩; have n0_ := Aside0.mk (Kd.R_below dq107 hb); have n1_ := Aside0.mk (Kd.R_below dq71 hb); have n2_ := Aside0.mk (Kd.S_lower (Kd.S_new' (Kd.S_new' ho0 (Kd.R_lt dq107)) (Kd.R_lt dq71)) (below_size dq20)); have n3_ := Aside0.mk (below_step dq20 hb); clear HO_6; clear HO_8; clear HB; have HO_6 := n0_; have HO_8 := n1_; have HO415 := n2_; have HB := n3_; clear n0_ n1_ n2_ n3_; (try clear hb); (try clear hb2); (try clear hk); (try clear hi); (try clear ho0); obtain ⟨Ao57, co57, eo57⟩ := Kd.S_slice HO415.out; subst eo57) | ((with_reducible refine gate_callee (f := 21) rfl ?_); refine goesL_ (some 61) rfl rfl Try.func21 dq24 rfl #[.slice Ao57 t413.length co57, .int .i64 a1] rfl dq23 ?_; (with_reducible refine (impl_FollowOf.calls kj15 _ _ t413 a1 t416 _ ?side1 ?side2 A39.out).mono ?_); (case side1 => exact dq14); (case side2 => exact (Kd.S_reads' HO415.out).2.1); rintro e w58 ⟨v417, rfl, ho0, hb⟩; refine ⟨_, rfl, ?_⟩; have n0_ := Aside0.mk (Kd.R_elder' dq107 (Kd.R_base ho0) hb); have n1_ := Aside0.mk (Kd.R_elder' dq71 (Kd.R_base ho0) hb); have n2_ := Aside0.mk (Kd.S_elder' dq108 (Kd.R_base ho0) hb); have n3_ := Aside0.mk (Kd.R_lower (Kd.R_new' (Kd.R_new' ho0 (Kd.R_lt dq107)) (Kd.R_lt dq71)) (below_size dq20)); have n4_ := Aside0.mk (below_step dq20 hb); clear HO_6; clear HO_8; clear HO415; clear HB; have HO_6 := n0_; have HO_8 := n1_; have HO415 := n2_; have HO418 := n3_; have HB := n4_; clear n0_ n1_ n2_ n3_ n4_; (try clear hb); (try clear hb2); (try clear hk); (try clear hi); (try clear ho0); obtain ⟨Ao59, co59, eo59⟩ := Kd.R_slice HO418.out; subst eo59) | ((with_reducible refine gate_callee (f := 13) rfl ?_); refine goesL_ (some 64) rfl rfl Try.func13 dq24 rfl #[.slice Ao59 t416.length co59, .slice Ao25 t394.length co25] rfl dq23 ?_; (with_reducible refine (laws_eqInt64S.calls kj15 _ _ t416 _ _ t394 true _ ?side1 ?side2 ?side3 ?side4 A40.out).mono ?_); (case side1 => exact dq15); (case side2 => exact (Kd.R_reads' HO418.out).2.1); (case side3 => exact dq16); (case side4 => exact (Kd.R_reads' HO_6.out).2.1); rintro e w' ⟨rfl, ⟨nd, rfl⟩⟩; refine ⟨_, rfl, ?_⟩) | ((with_reducible refine gate_callee (f := 17) rfl ?_); refine goesL_ (some 68) rfl rfl Try.func17 dq24 rfl #[.slice Ao24 t411.length co24, .int .i64 1] rfl dq106 ?_; (with_reducible refine (laws_heldInt64S.calls kj15 _ _ t411 1 t420 _ ?side1 ?side2 A42.out).mono ?_); (case side1 => exact dq12); (case side2 => exact dq13); rintro e w' ⟨rfl, ⟨nd, rfl⟩⟩; refine ⟨_, rfl, ?_⟩))
   go_ret
   exact ⟨dq22, dq20⟩
  rw [if_pos c49] at H
  have c49b0 := beq_iff_eq.mpr c49
  have c49b1 := bne_eq_false_iff_eq.mpr c49
  clear c49
  obtain rfl := Option.some.inj H
  go_wp2_with (first | ((with_reducible refine gate_callee (f := 16) rfl ?_); refine goesL_ (some 49) rfl rfl Try.func16 dq24 rfl #[.slice Ao24 t400.length co24, .int .i64 1] rfl dq23 ?_; (with_reducible refine (laws_markInt64S.calls kj15 (fun k_ => some k_ = (.slice Ao24 t400.length co24 : Value).ownBlock) (.slice Ao24 t400.length co24) t400 1 t410 t411 w _ ?side1 ?side2 A33.out).mono ?_); (case side1 => exact dq11); (case side2 => exact Kd.R_tight rfl HO_8.out); rintro e w50 ⟨rfl, hy0, hb, hkp⟩; refine ⟨_, rfl, ?_⟩; have n0_ := Aside0.mk (Kd.R_mono (ok' := fun k_ => some k_ ≠ (.slice Ao24 t400.length co24 : Value).ownBlock) (Kd.R_keptB (HO_6.out) hkp (fun k_ hk_ hs_ => (hk_) hs_)) (fun k_ hk_ => hk_.1)); have n1_ := Aside0.mk (Kd.R_reok rfl hy0 (fun k_ e_ => HO_8.out.1 k_ e_)); have n2_ := Aside0.mk (hb); clear HO_6; clear HO_8; clear HB; have HO_6 := n0_; have HO_8 := n1_; have HB := n2_; clear n0_ n1_ n2_; (try clear hb); (try clear hkp); (try clear hy0)) | ((with_reducible refine gate_callee (f := 17) rfl ?_); refine goesL_ (some 52) rfl rfl Try.func17 dq24 rfl #[.slice Ao24 t411.length co24, .int .i64 1] rfl dq106 ?_; (with_reducible refine (laws_heldInt64S.calls kj15 _ _ t411 1 t412 _ ?side1 ?side2 A34.out).mono ?_); (case side1 => exact dq12); (case side2 => exact dq13); rintro e w' ⟨rfl, ⟨nd, rfl⟩⟩; refine ⟨_, rfl, ?_⟩) | ((with_reducible refine gate_callee (f := 11) rfl ?_); refine goesL_ (some 59) rfl rfl Try.func11 dq24 rfl #[.slice A0 l0.length c0] rfl dq23 ?_; (with_reducible refine (laws_toPNodeS.calls kj15 _ _ l0 t413 _ ?side1 ?side2 A38.out).mono ?_); (case side1 => repeat (first | exact (Kd.C_below HR0.out dq20) | (with_reducible refine Kd.C_alloc ?_ _) | (with_reducible refine Kd.C_drewN ?_ _) | (with_reducible refine Kd.C_drew ?_))); (case side2 => exact dq4); rintro e w51 ⟨v414, rfl, ho0, hb⟩; refine ⟨_, rfl, ?_⟩; have n0_ := Aside0.mk (Kd.R_below dq107 hb); have n1_ := Aside0.mk (Kd.R_below dq71 hb); have n2_ := Aside0.mk (Kd.S_lower (Kd.S_new' (Kd.S_new' ho0 (Kd.R_lt dq107)) (Kd.R_lt dq71)) (below_size dq20)); have n3_ := Aside0.mk (below_step dq20 hb); clear HO_6; clear HO_8; clear HB; have HO_6 := n0_; have HO_8 := n1_; have HO415 := n2_; have HB := n3_; clear n0_ n1_ n2_ n3_; (try clear hb); (try clear hb2); (try clear hk); (try clear hi); (try clear ho0); obtain ⟨Ao52, co52, eo52⟩ := Kd.S_slice HO415.out; subst eo52) | ((with_reducible refine gate_callee (f := 21) rfl ?_); refine goesL_ (some 61) rfl rfl Try.func21 dq24 rfl #[.slice Ao52 t413.length co52, .int .i64 a1] rfl dq23 ?_; (with_reducible refine (impl_FollowOf.calls kj15 _ _ t413 a1 t416 _ ?side1 ?side2 A39.out).mono ?_); (case side1 => exact dq14); (case side2 => exact (Kd.S_reads' HO415.out).2.1); rintro e w53 ⟨v417, rfl, ho0, hb⟩; refine ⟨_, rfl, ?_⟩; have n0_ := Aside0.mk (Kd.R_elder' dq107 (Kd.R_base ho0) hb); have n1_ := Aside0.mk (Kd.R_elder' dq71 (Kd.R_base ho0) hb); have n2_ := Aside0.mk (Kd.S_elder' dq108 (Kd.R_base ho0) hb); have n3_ := Aside0.mk (Kd.R_lower (Kd.R_new' (Kd.R_new' ho0 (Kd.R_lt dq107)) (Kd.R_lt dq71)) (below_size dq20)); have n4_ := Aside0.mk (below_step dq20 hb); clear HO_6; clear HO_8; clear HO415; clear HB; have HO_6 := n0_; have HO_8 := n1_; have HO415 := n2_; have HO418 := n3_; have HB := n4_; clear n0_ n1_ n2_ n3_ n4_; (try clear hb); (try clear hb2); (try clear hk); (try clear hi); (try clear ho0); obtain ⟨Ao54, co54, eo54⟩ := Kd.R_slice HO418.out; subst eo54) | ((with_reducible refine gate_callee (f := 13) rfl ?_); refine goesL_ (some 64) rfl rfl Try.func13 dq24 rfl #[.slice Ao54 t416.length co54, .slice Ao25 t394.length co25] rfl dq23 ?_; (with_reducible refine (laws_eqInt64S.calls kj15 _ _ t416 _ _ t394 true _ ?side1 ?side2 ?side3 ?side4 A40.out).mono ?_); (case side1 => exact dq15); (case side2 => exact (Kd.R_reads' HO418.out).2.1); (case side3 => exact dq16); (case side4 => exact (Kd.R_reads' HO_6.out).2.1); rintro e w' ⟨rfl, ⟨nd, rfl⟩⟩; refine ⟨_, rfl, ?_⟩) | ((with_reducible refine gate_callee (f := 17) rfl ?_); refine goesL_ (some 68) rfl rfl Try.func17 dq24 rfl #[.slice Ao24 t411.length co24, .int .i64 1] rfl dq106 ?_; (with_reducible refine (laws_heldInt64S.calls kj15 _ _ t411 1 t420 _ ?side1 ?side2 A42.out).mono ?_); (case side1 => exact dq12); (case side2 => exact dq13); rintro e w' ⟨rfl, ⟨nd, rfl⟩⟩; refine ⟨_, rfl, ?_⟩))
  go_ret
  exact ⟨dq22, dq20⟩

end Go.Proofs.Ytkflnbmmjnjgkaa.L

namespace Go.Proofs.Ytkflnbmmjnjgkaa.Pure
set_option linter.unusedVariables false
set_option linter.unusedSimpArgs false
namespace MT
structure Nd where
  kind : Int
  name : ByteArray
  kids : List Nat
  occ : Int
abbrev Md := List Nd
def Nd.pos (x : Nd) : Bool := x.kind == 1 || x.kind == 4
def Nd.opt (x : Nd) : Bool := x.occ == 1 || x.occ == 2
def Nd.oft (x : Nd) : Bool := x.occ == 2 || x.occ == 3
instance : Inhabited Nd := ⟨⟨2, ByteArray.empty, [], 0⟩⟩
def nd (p : Md) (i : Nat) : Nd := p.getD i default
def nul (p : Md) (i : Nat) : Bool :=
  (if (nd p i).kind = 2 then (nd p i).kids.all (fun k => if _h : k < i then nul p k else false) else if (nd p i).kind = 3 then (nd p i).kids.any (fun k => if _h : k < i then nul p k else false) else false) || (nd p i).opt
termination_by i
/-- What a row's kids begin with. -/
def pre (N : Nat → Bool) (F : Nat → List Nat) : List Nat → List Nat
  | [] => []
  | k :: ks => F k ++ (if N k then pre N F ks else [])
/-- What a row's kids end with, behind what was there. -/
def suf (N : Nat → Bool) (L : Nat → List Nat) : List Nat → List Nat → List Nat
  | acc, [] => acc
  | acc, k :: ks => suf N L ((if N k then acc else []) ++ L k) ks
def fst (p : Md) (i : Nat) : List Nat :=
  if (nd p i).pos = true then [i] else if (nd p i).kind = 3 then (nd p i).kids.flatMap (fun k => if _h : k < i then fst p k else []) else pre (nul p) (fun k => if _h : k < i then fst p k else []) (nd p i).kids
termination_by i
def lst (p : Md) (i : Nat) : List Nat :=
  if (nd p i).pos = true then [i] else if (nd p i).kind = 3 then (nd p i).kids.flatMap (fun k => if _h : k < i then lst p k else []) else suf (nul p) (fun k => if _h : k < i then lst p k else []) [] (nd p i).kids
termination_by i
/-- What may follow by node j itself. -/
def led (p : Md) (j a b : Nat) : Prop :=
  ((nd p j).kind = 2 ∧ ∃ us k vs, (nd p j).kids = us ++ k :: vs ∧ a ∈ suf (nul p) (lst p) [] us ∧ b ∈ fst p k) ∨ ((nd p j).oft = true ∧ a ∈ lst p j ∧ b ∈ fst p j)
def fol (p : Md) (a b : Nat) : Prop := ∃ j, j < p.length ∧ led p j a b
/-- Kids stand ahead. -/
def Ahead (p : Md) : Prop := ∀ i, i < p.length → ∀ k ∈ (nd p i).kids, k < i
/-- The kids of a node, from the last one on, stand one ahead of the other; with where the first one begins. -/
def Chain (lo : Nat → Nat) : Nat → List Nat → Nat → Prop
  | e, [], b => b = e
  | e, k :: ks, b => ∃ m, Chain lo e ks m ∧ m = k + 1 ∧ b = lo k
structure Tree (p : Md) (lo : Nat → Nat) : Prop where
  chain : ∀ i, i < p.length → Chain lo i (nd p i).kids (lo i)
  kinds : ∀ i, i < p.length → ((nd p i).pos = true ∧ (nd p i).kids = []) ∨ (nd p i).kind = 2 ∨ ((nd p i).kind = 3 ∧ 2 ≤ (nd p i).kids.length)
theorem Chain.facts {lo : Nat → Nat} : ∀ {ks : List Nat} {e b : Nat}, (∀ k, k < e → lo k ≤ k) → Chain lo e ks b → b ≤ e ∧ (∀ k ∈ ks, b ≤ lo k ∧ k < e) ∧ ks.Pairwise (fun k k' => k < lo k')
  | [], e, b, h, hc => ⟨by have : b = e := hc; omega, by simp, .nil⟩
  | k :: ks, e, b, h, hc => by
    obtain ⟨m, h1, h2, h3⟩ := hc
    obtain ⟨a1, a2, a3⟩ := Chain.facts h h1
    have hk := h k (by omega)
    refine ⟨by omega, ?_, List.pairwise_cons.2 ⟨fun k' hk' => ?_, a3⟩⟩
    · intro k' hk'
      rcases List.mem_cons.1 hk' with rfl | h'
      · omega
      · have := a2 k' h'; omega
    · have := a2 k' hk'; omega
section
variable {p : Md} {lo : Nat → Nat} (T : Tree p lo)
include T
theorem Tree.le : ∀ i, i < p.length → lo i ≤ i := by
  intro i
  induction i using Nat.strongRecOn with
  | _ i ih =>
  intro hi
  exact (Chain.facts (fun k hk => ih k hk (by omega)) (T.chain i hi)).1
theorem Tree.kid {i k : Nat} (hi : i < p.length) (hk : k ∈ (nd p i).kids) : lo i ≤ lo k ∧ k < i := (Chain.facts (fun k hk => T.le k (by omega)) (T.chain i hi)).2.1 k hk
theorem Tree.ahead : Ahead p := fun i hi k hk => (T.kid hi hk).2
end
theorem pre_congr {N N' : Nat → Bool} {F F' : Nat → List Nat} : ∀ {ks : List Nat}, (∀ k ∈ ks, N k = N' k ∧ F k = F' k) → pre N F ks = pre N' F' ks
  | [], _ => rfl
  | k :: ks, h => by
    have h1 := h k (by simp)
    unfold pre
    rw [h1.1, h1.2, pre_congr (fun k' hk' => h k' (by simp [hk']))]
theorem suf_congr {N N' : Nat → Bool} {F F' : Nat → List Nat} : ∀ {ks acc : List Nat}, (∀ k ∈ ks, N k = N' k ∧ F k = F' k) → suf N F acc ks = suf N' F' acc ks
  | [], acc, _ => rfl
  | k :: ks, acc, h => by
    have h1 := h k (by simp)
    unfold suf
    rw [h1.1, h1.2, suf_congr (fun k' hk' => h k' (by simp [hk']))]
theorem flatMap_congr {F F' : Nat → List Nat} : ∀ {ks : List Nat}, (∀ k ∈ ks, F k = F' k) → ks.flatMap F = ks.flatMap F'
  | [], _ => rfl
  | k :: ks, h => by rw [List.flatMap_cons, List.flatMap_cons, h k (by simp), flatMap_congr (fun k' hk' => h k' (by simp [hk']))]
theorem all_congr {N N' : Nat → Bool} : ∀ {ks : List Nat}, (∀ k ∈ ks, N k = N' k) → ks.all N = ks.all N'
  | [], _ => rfl
  | k :: ks, h => by rw [List.all_cons, List.all_cons, h k (by simp), all_congr (fun k' hk' => h k' (by simp [hk']))]
theorem any_congr {N N' : Nat → Bool} : ∀ {ks : List Nat}, (∀ k ∈ ks, N k = N' k) → ks.any N = ks.any N'
  | [], _ => rfl
  | k :: ks, h => by rw [List.any_cons, List.any_cons, h k (by simp), any_congr (fun k' hk' => h k' (by simp [hk']))]
section
variable {p : Md} (A : Ahead p)
include A
theorem nul_eq {i : Nat} (hi : i < p.length) : nul p i = ((if (nd p i).kind = 2 then (nd p i).kids.all (nul p) else if (nd p i).kind = 3 then (nd p i).kids.any (nul p) else false) || (nd p i).opt) := by
  conv => lhs; rw [nul]
  rw [all_congr (N' := nul p) (fun k hk => by rw [dif_pos (A i hi k hk)]), any_congr (N' := nul p) (fun k hk => by rw [dif_pos (A i hi k hk)])]
theorem fst_eq {i : Nat} (hi : i < p.length) : fst p i = if (nd p i).pos = true then [i] else if (nd p i).kind = 3 then (nd p i).kids.flatMap (fst p) else pre (nul p) (fst p) (nd p i).kids := by
  conv => lhs; rw [fst]
  rw [flatMap_congr (F' := fst p) (fun k hk => by rw [dif_pos (A i hi k hk)]), pre_congr (N' := nul p) (F' := fst p) (fun k hk => ⟨rfl, by rw [dif_pos (A i hi k hk)]⟩)]
theorem lst_eq {i : Nat} (hi : i < p.length) : lst p i = if (nd p i).pos = true then [i] else if (nd p i).kind = 3 then (nd p i).kids.flatMap (lst p) else suf (nul p) (lst p) [] (nd p i).kids := by
  conv => lhs; rw [lst]
  rw [flatMap_congr (F' := lst p) (fun k hk => by rw [dif_pos (A i hi k hk)]), suf_congr (N' := nul p) (F' := lst p) (fun k hk => ⟨rfl, by rw [dif_pos (A i hi k hk)]⟩)]
end
/-- Membership in what a row begins with. -/
theorem mem_pre {N : Nat → Bool} {F : Nat → List Nat} {a : Nat} : ∀ {ks : List Nat}, a ∈ pre N F ks ↔ ∃ us k vs, ks = us ++ k :: vs ∧ (∀ u ∈ us, N u = true) ∧ a ∈ F k
  | [] => by simp [pre]
  | k :: ks => by
    unfold pre
    rw [List.mem_append]
    constructor
    · rintro (h | h)
      · exact ⟨[], k, ks, rfl, by simp, h⟩
      · cases hN : N k with
        | false => rw [hN] at h; simp at h
        | true =>
          rw [hN, if_pos rfl] at h
          obtain ⟨us, k', vs, e, hu, ha⟩ := mem_pre.1 h
          refine ⟨k :: us, k', vs, by rw [e]; rfl, ?_, ha⟩
          intro u hu'
          rcases List.mem_cons.1 hu' with rfl | h'
          · exact hN
          · exact hu u h'
    · rintro ⟨us, k', vs, e, hu, ha⟩
      cases us with
      | nil =>
        simp only [List.nil_append, List.cons.injEq] at e
        exact .inl (e.1 ▸ ha)
      | cons u us =>
        simp only [List.cons_append, List.cons.injEq] at e
        obtain ⟨rfl, rfl⟩ := e
        right
        rw [hu k (by simp), if_pos rfl]
        exact mem_pre.2 ⟨us, k', vs, rfl, fun x hx => hu x (by simp [hx]), ha⟩
theorem mem_suf {N : Nat → Bool} {L : Nat → List Nat} {a : Nat} : ∀ {ks acc : List Nat}, a ∈ suf N L acc ks ↔ (a ∈ acc ∧ ∀ u ∈ ks, N u = true) ∨ ∃ us k vs, ks = us ++ k :: vs ∧ (∀ v ∈ vs, N v = true) ∧ a ∈ L k
  | [], acc => by simp [suf]
  | k :: ks, acc => by
    unfold suf
    rw [mem_suf]
    constructor
    · rintro (⟨h, hu⟩ | ⟨us, k', vs, e, hv, ha⟩)
      · rcases List.mem_append.1 h with h | h
        · left
          cases hN : N k with
          | false => rw [hN] at h; simp at h
          | true =>
            rw [hN, if_pos rfl] at h
            refine ⟨h, ?_⟩
            intro u hu'
            rcases List.mem_cons.1 hu' with rfl | h'
            · exact hN
            · exact hu u h'
        · exact .inr ⟨[], k, ks, rfl, hu, h⟩
      · exact .inr ⟨k :: us, k', vs, by rw [e]; rfl, hv, ha⟩
    · rintro (⟨h, hu⟩ | ⟨us, k', vs, e, hv, ha⟩)
      · left
        refine ⟨List.mem_append.2 (.inl ?_), fun u h' => hu u (by simp [h'])⟩
        rw [hu k (by simp), if_pos rfl]
        exact h
      · cases us with
        | nil =>
          simp only [List.nil_append, List.cons.injEq] at e
          obtain ⟨rfl, rfl⟩ := e
          exact .inl ⟨List.mem_append.2 (.inr ha), hv⟩
        | cons u us =>
          simp only [List.cons_append, List.cons.injEq] at e
          obtain ⟨rfl, rfl⟩ := e
          exact .inr ⟨us, k', vs, rfl, hv, ha⟩
section
variable {p : Md} {lo : Nat → Nat} (T : Tree p lo)
include T
/-- The positions of a node's edges stand within it. -/
theorem edge_in (E : Md → Nat → List Nat) (hE : E = fst ∨ E = lst) : ∀ i, i < p.length → ∀ a ∈ E p i, lo i ≤ a ∧ a ≤ i ∧ (nd p a).pos = true := by
  intro i
  induction i using Nat.strongRecOn with
  | _ i ih =>
  intro hi a ha
  have key : ∀ k ∈ (nd p i).kids, a ∈ E p k → lo i ≤ a ∧ a ≤ i ∧ (nd p a).pos = true := by
    intro k hk hak
    have h1 := T.kid hi hk
    have h2 := ih k h1.2 (by omega) a hak
    exact ⟨by omega, by omega, h2.2.2⟩
  have hle := T.le i hi
  rcases hE with rfl | rfl
  · rw [fst_eq T.ahead hi] at ha
    split at ha
    · rename_i hp
      obtain rfl : a = i := by simpa using ha
      exact ⟨hle, Nat.le_refl _, hp⟩
    · split at ha
      · obtain ⟨k, hk, hak⟩ := List.mem_flatMap.1 ha
        exact key k hk hak
      · obtain ⟨us, k, vs, e, _, hak⟩ := mem_pre.1 ha
        exact key k (by rw [e]; simp) hak
  · rw [lst_eq T.ahead hi] at ha
    split at ha
    · rename_i hp
      obtain rfl : a = i := by simpa using ha
      exact ⟨hle, Nat.le_refl _, hp⟩
    · split at ha
      · obtain ⟨k, hk, hak⟩ := List.mem_flatMap.1 ha
        exact key k hk hak
      · rcases mem_suf.1 ha with ⟨h, _⟩ | ⟨us, k, vs, e, _, hak⟩
        · simp at h
        · exact key k (by rw [e]; simp) hak
omit T in
theorem pre_sub {N : Nat → Bool} {F : Nat → List Nat} : ∀ ks : List Nat, (pre N F ks).Sublist (ks.flatMap F)
  | [] => by simp [pre]
  | k :: ks => by
    rw [pre, List.flatMap_cons]
    refine List.Sublist.append (List.Sublist.refl _) ?_
    split
    · exact pre_sub ks
    · exact List.nil_sublist _
omit T in
theorem suf_sub {N : Nat → Bool} {L : Nat → List Nat} : ∀ ks acc : List Nat, (suf N L acc ks).Sublist (acc ++ ks.flatMap L)
  | [], acc => by simp [suf]
  | k :: ks, acc => by
    rw [suf, List.flatMap_cons]
    refine (suf_sub ks _).trans ?_
    rw [← List.append_assoc]
    refine List.Sublist.append ?_ (List.Sublist.refl _)
    refine List.Sublist.append ?_ (List.Sublist.refl _)
    split
    · exact List.Sublist.refl _
    · exact List.nil_sublist _
end
end MT
namespace MT
/- The specification's edges and what may follow -/
def lstS (p : Md) (i : Nat) : List Nat :=
  if (nd p i).pos = true then [i] else if (nd p i).kind = 3 then (nd p i).kids.reverse.flatMap (fun k => if _h : k < i then lstS p k else []) else pre (nul p) (fun k => if _h : k < i then lstS p k else []) (nd p i).kids.reverse
termination_by i
theorem lstS_eq {p : Md} (A : Ahead p) {i : Nat} (hi : i < p.length) : lstS p i = if (nd p i).pos = true then [i] else if (nd p i).kind = 3 then (nd p i).kids.reverse.flatMap (lstS p) else pre (nul p) (lstS p) (nd p i).kids.reverse := by
  conv => lhs; rw [lstS]
  rw [flatMap_congr (F' := lstS p) (fun k hk => by rw [dif_pos (A i hi k (List.mem_reverse.1 hk))]), pre_congr (N' := nul p) (F' := lstS p) (fun k hk => ⟨rfl, by rw [dif_pos (A i hi k (List.mem_reverse.1 hk))]⟩)]
theorem mem_lstS {p : Md} (A : Ahead p) {a : Nat} : ∀ i, i < p.length → (a ∈ lstS p i ↔ a ∈ lst p i) := by
  intro i
  induction i using Nat.strongRecOn with
  | _ i ih =>
  intro hi
  have hk : ∀ k ∈ (nd p i).kids, (a ∈ lstS p k ↔ a ∈ lst p k) := fun k hk => ih k (A i hi k hk) (by have := A i hi k hk; omega)
  rw [lstS_eq A hi, lst_eq A hi]
  split
  · exact Iff.rfl
  · split
    · rw [List.mem_flatMap, List.mem_flatMap]
      constructor
      · rintro ⟨k, h1, h2⟩
        exact ⟨k, List.mem_reverse.1 h1, (hk k (List.mem_reverse.1 h1)).1 h2⟩
      · rintro ⟨k, h1, h2⟩
        exact ⟨k, List.mem_reverse.2 h1, (hk k h1).2 h2⟩
    · rw [mem_pre, mem_suf]
      constructor
      · rintro ⟨us, k, vs, e, hu, ha⟩
        have e' : (nd p i).kids = vs.reverse ++ k :: us.reverse := by
          have := congrArg List.reverse e
          simpa using this
        exact .inr ⟨vs.reverse, k, us.reverse, e', fun v hv => hu v (List.mem_reverse.1 hv), (hk k (by rw [e']; simp)).1 ha⟩
      · rintro (⟨h, _⟩ | ⟨us, k, vs, e, hv, ha⟩)
        · simp at h
        · exact ⟨vs.reverse, k, us.reverse, by rw [e]; simp, fun v h => hv v (List.mem_reverse.1 h), (hk k (by rw [e]; simp)).2 ha⟩
/-- Behind the kids that end with n. -/
def aftr (p : Md) (n : Nat) : List Nat → List Nat
  | [] => []
  | k :: ks => (if n ∈ lstS p k then pre (nul p) (fst p) ks else []) ++ aftr p n ks
theorem mem_aftr {p : Md} {n b : Nat} : ∀ {ks : List Nat}, b ∈ aftr p n ks ↔ ∃ us k vs, ks = us ++ k :: vs ∧ n ∈ lstS p k ∧ b ∈ pre (nul p) (fst p) vs
  | [] => by simp [aftr]
  | k :: ks => by
    rw [aftr, List.mem_append, mem_aftr]
    constructor
    · rintro (h | ⟨us, k', vs, e, h1, h2⟩)
      · split at h
        · rename_i c
          exact ⟨[], k, ks, rfl, c, h⟩
        · simp at h
      · exact ⟨k :: us, k', vs, by rw [e]; rfl, h1, h2⟩
    · rintro ⟨us, k', vs, e, h1, h2⟩
      cases us with
      | nil =>
        simp only [List.nil_append, List.cons.injEq] at e
        obtain ⟨rfl, rfl⟩ := e
        left
        rw [if_pos h1]
        exact h2
      | cons u us =>
        simp only [List.cons_append, List.cons.injEq] at e
        obtain ⟨rfl, rfl⟩ := e
        exact .inr ⟨us, k', vs, rfl, h1, h2⟩
/-- What one node adds to what may follow n. -/
def adds (p : Md) (n i : Nat) : List Nat := (if (nd p i).oft = true ∧ n ∈ lstS p i then fst p i else []) ++ (if (nd p i).kind = 2 then aftr p n (nd p i).kids else [])
def folS (p : Md) (n : Nat) : List Nat := (List.range p.length).flatMap (adds p n)
theorem mem_adds {p : Md} (A : Ahead p) {i n b : Nat} (hi : i < p.length) : b ∈ adds p n i ↔ led p i n b := by
  unfold adds led
  rw [List.mem_append]
  constructor
  · rintro (h | h)
    · split at h
      · rename_i c
        exact .inr ⟨c.1, (mem_lstS A i hi).1 c.2, h⟩
      · simp at h
    · split at h
      · rename_i c
        obtain ⟨us, k, vs, e, h1, h2⟩ := mem_aftr.1 h
        obtain ⟨us', k', vs', e', h3, h4⟩ := mem_pre.1 h2
        have hk : k < p.length := by have := A i hi k (by rw [e]; simp); omega
        refine .inl ⟨c, us ++ k :: us', k', vs', by rw [e, e']; simp, ?_, h4⟩
        exact mem_suf.2 (.inr ⟨us, k, us', rfl, h3, (mem_lstS A k hk).1 h1⟩)
      · simp at h
  · rintro (⟨c, us, k, vs, e, h1, h2⟩ | ⟨c, h1, h2⟩)
    · right
      rw [if_pos c]
      rcases mem_suf.1 h1 with ⟨h, _⟩ | ⟨us', k', vs', e', hv, ha⟩
      · simp at h
      · have hk : k' < p.length := by have := A i hi k' (by rw [e, e']; simp); omega
        exact mem_aftr.2 ⟨us', k', vs' ++ k :: vs, by rw [e, e']; simp, (mem_lstS A k' hk).2 ha, mem_pre.2 ⟨vs', k, vs, rfl, hv, h2⟩⟩
    · left
      rw [if_pos ⟨c, (mem_lstS A i hi).2 h1⟩]
      exact h2
theorem mem_folS {p : Md} (A : Ahead p) {n b : Nat} : b ∈ folS p n ↔ fol p n b := by
  unfold folS fol
  rw [List.mem_flatMap]
  constructor
  · rintro ⟨i, hi, h⟩
    exact ⟨i, List.mem_range.1 hi, (mem_adds A (List.mem_range.1 hi)).1 h⟩
  · rintro ⟨i, hi, h⟩
    exact ⟨i, List.mem_range.2 hi, (mem_adds A hi).2 h⟩
end MT
end Go.Proofs.Ytkflnbmmjnjgkaa.Pure

namespace Go.Proofs.Ytkflnbmmjnjgkaa.Pure
open Go.RowKit Go.Proofs.Ytkflnbmmjnjgkaa.L Go.Proofs.YtkflnbmmjnjgkaaW.PrintWords Go.Proofs.YtkflnbmmjnjgkaaW.PrintLast Go.Proofs.YtkflnbmmjnjgkaaW.PrintMore
set_option linter.unusedVariables false
set_option linter.unusedSimpArgs false

def fstB (b : UInt8) : Bool := decide (97 ≤ b.toNat ∧ b.toNat ≤ 122) || decide (65 ≤ b.toNat ∧ b.toNat ≤ 90) || decide (b.toNat = 95)
def moreB (b : UInt8) : Bool := fstB b || decide (48 ≤ b.toNat ∧ b.toNat ≤ 57) || decide (b.toNat = 46) || decide (b.toNat = 45)
def nameB : List UInt8 → Bool
  | [] => false
  | b :: t => fstB b && t.all moreB && decide (t.length + 1 ≤ 40)
theorem u8_all {p : UInt8 → Prop} (h : ∀ n : Fin 256, p (UInt8.ofNat n.val)) (b : UInt8) : p b := by
  have := h ⟨b.toNat, b.toNat_lt⟩
  simpa using this
theorem first_f (b : UInt8) : spec_l1First.f (b.toNat : Int) = some (fstB b) := by
  revert b
  refine u8_all ?_
  decide +kernel
theorem more_f (b : UInt8) : spec_l1More.f (b.toNat : Int) = some (moreB b) := by
  revert b
  refine u8_all ?_
  decide +kernel
theorem spec_name_l0 (s : ByteArray) (hs : s.data.toList.length ≤ 9223372036854775806) : ∀ (n i : Nat), i + n = s.data.toList.length →
    Ev (fun k => spec_NameOk.l0 k s (i : Int)) ((s.data.toList.drop i).all moreB) := by
  intro n
  induction n with
  | zero =>
    intro i hi
    refine Ev.step (f := fun _ => some true) (fun k => ?_) ?_
    · unfold spec_NameOk.l0
      rw [if_neg (by rw [sz]; omega)]
    · rw [List.drop_of_length_le (by omega)]; exact Ev.now _
  | succ n ih =>
    intro i hi
    have hlt : i < s.data.toList.length := by omega
    have e : spec_l1More.f (bt s (i : Int)) = some (moreB (s.data.toList[i])) := by rw [bt_nat s i hlt]; exact more_f _
    have hd : s.data.toList.drop i = s.data.toList[i] :: s.data.toList.drop (i + 1) := List.drop_eq_getElem_cons hlt
    have w : wrap64 ((i : Int) + 1) = ((i + 1 : Nat) : Int) := by rw [w64] <;> omega
    by_cases c : moreB (s.data.toList[i]) = true
    · refine Ev.step (f := fun k => spec_NameOk.l0 k s ((i + 1 : Nat) : Int)) (fun k => ?_) ?_
      · conv => lhs; unfold spec_NameOk.l0
        rw [if_pos (by rw [sz]; omega), if_pos (by omega), e]
        simp only [Option.bind_some, if_pos c, w]
      · rw [hd, List.all_cons, c, Bool.true_and]; exact ih (i + 1) (by omega)
    · refine Ev.step (f := fun _ => some false) (fun k => ?_) ?_
      · conv => lhs; unfold spec_NameOk.l0
        rw [if_pos (by rw [sz]; omega), if_pos (by omega), e]
        simp only [Option.bind_some, if_neg c]
      · rw [hd, List.all_cons]
        rw [Bool.not_eq_true] at c
        rw [c, Bool.false_and]; exact Ev.now _
theorem spec_name (s : ByteArray) : Ev (fun k => spec_NameOk.f k s) (nameB s.data.toList) := by
  cases hl : s.data.toList with
  | nil =>
    refine Ev.congr (f := fun k => spec_NameOk.j0 k s true) (fun k => ?_) ?_
    · unfold spec_NameOk.f
      rw [if_pos (by rw [sz, hl]; decide)]
    · refine Ev.step (f := fun _ => some false) (fun k => ?_) (Ev.now _)
      rfl
  | cons b t =>
    have hz : (s.size : Int) = (t.length : Int) + 1 := by rw [sz, hl]; simp
    by_cases c : t.length + 1 ≤ 40
    · refine Ev.congr (f := fun k => spec_NameOk.j0 k s (!fstB b)) (fun k => ?_) ?_
      · unfold spec_NameOk.f
        rw [if_neg (by omega), if_neg (by omega), if_pos (by omega), first_bt s b t hl, first_f]
        rfl
      · by_cases d : fstB b = true
        · refine Ev.step (f := fun k => spec_NameOk.l0 k s ((1 : Nat) : Int)) (fun k => ?_) ?_
          · rw [d]; rfl
          · have := spec_name_l0 s (by rw [hl]; simp; omega) t.length 1 (by rw [hl]; simp; omega)
            rw [hl] at this
            have e : nameB (b :: t) = ((b :: t).drop 1).all moreB := by simp [nameB, d, c]
            rw [e]; exact this
        · rw [Bool.not_eq_true] at d
          have e : nameB (b :: t) = false := by simp [nameB, d]
          rw [e]
          refine Ev.step (f := fun _ => some false) (fun k => ?_) (Ev.now _)
          rw [d]; rfl
    · have e : nameB (b :: t) = false := by simp [nameB, c]
      rw [e]
      refine Ev.congr (f := fun k => spec_NameOk.j0 k s true) (fun k => ?_) ?_
      · unfold spec_NameOk.f
        rw [if_neg (by omega), if_pos (by omega)]
      · refine Ev.step (f := fun _ => some false) (fun k => ?_) (Ev.now _)
        rfl

def lenB (n : Nat) : Bool := decide (1 ≤ n) && decide (n ≤ 40)
theorem in_len (n : Nat) : impl_in.f (n : Int) 1 40 = some (lenB n) := by
  unfold impl_in.f lenB
  by_cases h : 1 ≤ n
  · rw [if_pos (by omega)]; simp [h]; omega
  · rw [if_neg (by omega)]; simp [h]
theorem fst_iff (b : UInt8) : fstB b = true ↔ ((97 ≤ (b.toNat : Int) ∧ (b.toNat : Int) ≤ 122) ∨ (65 ≤ (b.toNat : Int) ∧ (b.toNat : Int) ≤ 90) ∨ (b.toNat : Int) = 95) := by
  unfold fstB
  simp only [Bool.or_eq_true, decide_eq_true_eq]
  omega
theorem more_iff (b : UInt8) : moreB b = true ↔ (((97 ≤ (b.toNat : Int) ∧ (b.toNat : Int) ≤ 122) ∨ (65 ≤ (b.toNat : Int) ∧ (b.toNat : Int) ≤ 90) ∨ (b.toNat : Int) = 95) ∨ (48 ≤ (b.toNat : Int) ∧ (b.toNat : Int) ≤ 57) ∨ (b.toNat : Int) = 46 ∨ (b.toNat : Int) = 45) := by
  unfold moreB
  simp only [Bool.or_eq_true, decide_eq_true_eq, fst_iff]
  omega
theorem impl_name_l0 (s : ByteArray) (hs : s.data.toList.length ≤ 9223372036854775806) : ∀ (n i : Nat), 1 ≤ i → i + n = s.data.toList.length →
    Ev (fun k => impl_NameOk.l0 k s (s.size : Int) (i : Int)) ((s.data.toList.drop i).all moreB && lenB s.data.toList.length) := by
  intro n
  induction n with
  | zero =>
    intro i h1 hi
    refine Ev.step (f := fun _ => some (lenB s.data.toList.length)) (fun k => ?_) ?_
    · unfold impl_NameOk.l0
      rw [if_neg (by rw [sz]; omega), sz, in_len]
      rfl
    · rw [List.drop_of_length_le (by omega)]; exact Ev.now _
  | succ n ih =>
    intro i h1 hi
    have hlt : i < s.data.toList.length := by omega
    have hd : s.data.toList.drop i = s.data.toList[i] :: s.data.toList.drop (i + 1) := List.drop_eq_getElem_cons hlt
    have w : wrap64 ((i : Int) + 1) = ((i + 1 : Nat) : Int) := by rw [w64] <;> omega
    have hm := more_iff (s.data.toList[i])
    by_cases c : moreB (s.data.toList[i]) = true
    · have hv := hm.1 c
      refine Ev.step (f := fun k => impl_NameOk.l0 k s (s.size : Int) ((i + 1 : Nat) : Int)) (fun k => ?_) ?_
      · conv => lhs; unfold impl_NameOk.l0
        rw [if_pos (by rw [sz]; omega), if_pos (by omega), if_pos (by rw [sz]; omega), bt_nat s i hlt, w]
        generalize impl_NameOk.l0 k s (s.size : Int) ((i + 1 : Nat) : Int) = X
        generalize ((s.data.toList[i]).toNat : Int) = v at hv
        clear hm ih c hd w hs hi hlt
        have hi0 : ¬ (i : Int) = 0 := by omega
        simp only [if_neg hi0]
        clear hi0 h1
        repeat' split
        all_goals first | rfl | (exfalso; omega)
      · rw [hd, List.all_cons, c, Bool.true_and]; exact ih (i + 1) (by omega) (by omega)
    · have hv := mt hm.2 c
      refine Ev.step (f := fun _ => some false) (fun k => ?_) ?_
      · conv => lhs; unfold impl_NameOk.l0
        rw [if_pos (by rw [sz]; omega), if_pos (by omega), if_pos (by rw [sz]; omega), bt_nat s i hlt, w]
        generalize impl_NameOk.l0 k s (s.size : Int) ((i + 1 : Nat) : Int) = X
        generalize ((s.data.toList[i]).toNat : Int) = v at hv
        clear hm ih c hd w hs hi hlt
        have hi0 : ¬ (i : Int) = 0 := by omega
        simp only [if_neg hi0]
        clear hi0 h1
        repeat' split
        all_goals first | rfl | (exfalso; omega)
      · rw [hd, List.all_cons]
        rw [Bool.not_eq_true] at c
        rw [c, Bool.false_and, Bool.false_and]; exact Ev.now _
theorem impl_name (s : ByteArray) (hs : s.data.toList.length ≤ 9223372036854775806) : Ev (fun k => impl_NameOk.f k s) (nameB s.data.toList) := by
  cases hl : s.data.toList with
  | nil =>
    unfold impl_NameOk.f
    refine Ev.step (f := fun _ => some false) (fun k => ?_) (Ev.now _)
    unfold impl_NameOk.l0
    have hz : s.size = 0 := by rw [sz, hl]; rfl
    rw [if_neg (by omega), hz]
    rfl
  | cons b t =>
    have hlt : 0 < s.data.toList.length := by rw [hl]; simp
    have hlen : s.data.toList.length = t.length + 1 := by rw [hl]; simp
    have w : wrap64 ((0 : Int) + 1) = ((1 : Nat) : Int) := by rw [w64 (by omega) (by omega)]; rfl
    have hm := fst_iff b
    have eb : bt s 0 = (b.toNat : Int) := first_bt s b t hl
    unfold impl_NameOk.f
    by_cases c : fstB b = true
    · have hv := hm.1 c
      refine Ev.step (f := fun k => impl_NameOk.l0 k s (s.size : Int) ((1 : Nat) : Int)) (fun k => ?_) ?_
      · conv => lhs; unfold impl_NameOk.l0
        rw [if_pos (by rw [sz]; omega), if_pos (by omega), if_pos (by rw [sz]; omega), eb, w]
        generalize impl_NameOk.l0 k s (s.size : Int) ((1 : Nat) : Int) = X
        generalize (b.toNat : Int) = v at hv
        clear hm c eb w hs hlt hlen hl
        simp only [if_true]
        repeat' split
        all_goals first | rfl | (exfalso; omega)
      · have := impl_name_l0 s hs t.length 1 (by omega) (by omega)
        rw [hl] at this
        have e : nameB (b :: t) = (((b :: t).drop 1).all moreB && lenB (b :: t).length) := by
          simp [nameB, lenB, c]
        rw [e]; exact this
    · have hv := mt hm.2 c
      refine Ev.step (f := fun _ => some false) (fun k => ?_) ?_
      · conv => lhs; unfold impl_NameOk.l0
        rw [if_pos (by rw [sz]; omega), if_pos (by omega), if_pos (by rw [sz]; omega), eb, w]
        generalize impl_NameOk.l0 k s (s.size : Int) ((1 : Nat) : Int) = X
        generalize (b.toNat : Int) = v at hv
        clear hm c eb w hs hlt hlen hl
        simp only [if_true]
        repeat' split
        all_goals first | rfl | (exfalso; omega)
      · rw [Bool.not_eq_true] at c
        have e : nameB (b :: t) = false := by simp [nameB, c]
        rw [e]; exact Ev.now _
theorem w1n {i m : Nat} (h : i < m) (hm : m ≤ 9223372036854775807) : wrap64 ((i : Int) + 1) = ((i + 1 : Nat) : Int) := by rw [w64] <;> omega
theorem rdZ (l : List Int) (i : Nat) (h : i < l.length) : rd l (i : Int) = l[i] := by
  unfold rd
  simp [h]
end Go.Proofs.Ytkflnbmmjnjgkaa.Pure
