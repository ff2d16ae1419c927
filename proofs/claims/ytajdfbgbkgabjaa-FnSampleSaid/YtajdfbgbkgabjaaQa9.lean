/- Words and contracts for the row RowFnSample; printed, and merged. -/
import Derived.Test.YtajdfbgbkgabjaaQa8
import Derived.Lib.Hide
import Derived.Outline
import Derived.Shelf.SortM.Plain
import Derived.Shelf.SortM.SortNone
import Derived.Test.YtajdfbgbkgabjaaProg
import Derived.Sort.Walk0
import Derived.Sort.OwnSortedInts
set_option linter.unusedVariables false
set_option linter.unusedSimpArgs false
set_option maxHeartbeats 16000000
set_option maxRecDepth 100000
namespace Go.Proofs.Ytajdfbgbkgabjaa.L
open Go.RowKit YtajdfbgbkgabjaaW.PrintWords YtajdfbgbkgabjaaW.PrintLast YtajdfbgbkgabjaaW.PrintMore

def net_of.T13 : Bool × List (List Nat × List Nat) := (true, [([], []), ([0], [0]), ([1], [1]), ([2, 1], [1, 2]), ([3, 1], [1, 3]), ([4, 1], [1, 4]), ([1], [1]), ([5, 6, 1], [1, 5, 6]), ([7, 1], [1, 7]), ([1, 8], [1, 8]), ([], []), ([], []), ([11], [11]), ([12], [12]), ([13], [13]), ([], []), ([14, 15], [14, 15]), ([16], [16]), ([10, 17, 1], [10, 17]), ([], []), ([], []), ([20], [20]), ([21], [21]), ([22], [22]), ([], []), ([23, 24], [23, 24]), ([25], [25]), ([19, 26, 18], [19, 26]), ([9, 27, 0, 1, 2, 3, 4, 5, 6, 7, 8, 9], [0, 9]), ([18, 28, 0, 1, 2, 3, 4, 5, 6, 7, 8, 9, 10, 11, 12, 13, 14, 15, 16, 17, 18, 28], [10, 18]), ([27, 29, 0, 1, 2, 3, 4, 5, 6, 7, 8, 9, 10, 11, 12, 13, 14, 15, 16, 17, 18, 19, 20, 21, 22, 23, 24, 25, 26, 27, 28, 29], [19, 27])])
def net_of.B13 : List Nat := [0, 1, 3, 7, 15, 31, 3, 127, 255, 511, 0, 0, 2048, 6144, 14336, 0, 63488, 129024, 261123, 0, 0, 1048576, 3145728, 7340032, 0, 32505856, 66060288, 134216707, 268435455, 536870911, 1073741823]
theorem net_of.tab13 : rtab .any (opsOf Try.f49 13) = net_of.T13 := by kernel_rfl
theorem net_of.bits13 : waitsOk net_of.T13.2 net_of.B13 = true := by kernel_rfl
def net_of.T19 : Bool × List (List Nat × List Nat) := (true, [([], []), ([0], [0]), ([1], [1]), ([2, 1], [1, 2]), ([3, 1], [1, 3]), ([4, 1], [1, 4]), ([1], [1]), ([5, 6, 1], [1, 5, 6]), ([7, 1], [1, 7]), ([1, 8], [1, 8]), ([], []), ([10, 1], [10]), ([], []), ([12], [12]), ([13], [13]), ([14], [14]), ([], []), ([15, 16], [15, 16]), ([17], [17]), ([11, 18, 11], [11, 18]), ([9, 19, 0, 1, 2, 3, 4, 5, 6, 7, 8, 9], [0, 9]), ([19, 20, 0, 1, 2, 3, 4, 5, 6, 7, 8, 9, 10, 11, 12, 13, 14, 15, 16, 17, 18, 19, 20], [10, 19])])
def net_of.B19 : List Nat := [0, 1, 3, 7, 15, 31, 3, 127, 255, 511, 0, 1027, 0, 4096, 12288, 28672, 0, 126976, 258048, 523267, 1048575, 2097151]
theorem net_of.tab19 : rtab .any (opsOf Try.f49 19) = net_of.T19 := by kernel_rfl
theorem net_of.bits19 : waitsOk net_of.T19.2 net_of.B19 = true := by kernel_rfl
def net_of.T23 : Bool × List (List Nat × List Nat) := (true, [([], []), ([], []), ([], []), ([], []), ([3], [3]), ([4], [4]), ([5], [5]), ([], []), ([7], [7]), ([8], [8]), ([9, 8, 8], [8, 9]), ([8, 10], [8, 10]), ([11], [11]), ([6, 12, 10], [6, 12]), ([], []), ([14], [14]), ([15], [15]), ([16], [16]), ([], []), ([18], [18]), ([17, 19, 13], [17, 19]), ([], []), ([21], [21]), ([22], [22]), ([23], [23]), ([], []), ([25], [25]), ([24, 26, 20], [24, 26]), ([0, 0, 3, 4, 5, 6, 7, 8, 9, 10, 11, 12, 13, 17, 20, 24, 27], [0]), ([28, 0, 3, 4, 5, 6, 7, 8, 9, 10, 11, 12, 13, 17, 20, 24, 27], [28]), ([29, 13, 27, 0, 3, 4, 5, 6, 7, 8, 9, 10, 11, 12, 13, 17, 20, 24, 27], [13, 29]), ([1, 0, 1, 3, 4, 5, 6, 7, 8, 9, 10, 11, 12, 13, 14, 15, 16, 17, 18, 19, 20, 24, 27, 28, 29, 30], [1]), ([31, 0, 1, 3, 4, 5, 6, 7, 8, 9, 10, 11, 12, 13, 14, 15, 16, 17, 18, 19, 20, 24, 27, 28, 29, 30], [31]), ([32, 20, 30, 0, 1, 3, 4, 5, 6, 7, 8, 9, 10, 11, 12, 13, 14, 15, 16, 17, 18, 19, 20, 24, 27, 28, 29, 30], [20, 32]), ([2, 0, 1, 2, 3, 4, 5, 6, 7, 8, 9, 10, 11, 12, 13, 14, 15, 16, 17, 18, 19, 20, 21, 22, 23, 24, 25, 26, 27, 28, 29, 30, 31, 32, 33], [2]), ([34, 0, 1, 2, 3, 4, 5, 6, 7, 8, 9, 10, 11, 12, 13, 14, 15, 16, 17, 18, 19, 20, 21, 22, 23, 24, 25, 26, 27, 28, 29, 30, 31, 32, 33], [34]), ([35, 27, 33, 0, 1, 2, 3, 4, 5, 6, 7, 8, 9, 10, 11, 12, 13, 14, 15, 16, 17, 18, 19, 20, 21, 22, 23, 24, 25, 26, 27, 28, 29, 30, 31, 32, 33], [27, 35])])
def net_of.B23 : List Nat := [0, 0, 0, 0, 8, 24, 56, 0, 128, 384, 896, 1920, 3968, 8184, 0, 16384, 49152, 114688, 0, 262144, 1048568, 0, 2097152, 6291456, 14680064, 0, 33554432, 134217720, 268435449, 536870905, 1073741817, 2147483643, 4294967291, 8589934587, 17179869183, 34359738367, 68719476735]
theorem net_of.tab23 : rtab .any (opsOf Try.f49 23) = net_of.T23 := by kernel_rfl
theorem net_of.bits23 : waitsOk net_of.T23.2 net_of.B23 = true := by kernel_rfl
theorem net_of (A0 : Option Addr) (c0 : Nat) (p : List PN) (w : World) (hr : Kd.C k42 w A0 p.length p) (hc0 : p.length ≤ c0) (Nf : NetV) (hf : netOfF p = some Nf) :
  Calls Try.prog 49 #[.slice A0 p.length c0] w (NetPost w (.slice A0 p.length c0) Nf) := by
 have HF := Zq.i hf
 have HR := Zq.i hr
 have hm : p.length ≤ 9223372036854775807 := Kd.C_max hr
 clear hf hr
 obtain ⟨n, hn⟩ : ∃ n, p.length = n := ⟨_, rfl⟩
 rw [hn] at hc0 hm ⊢
 have HN := Zq.i hn
 clear hn
 go_enter Try.func49, Try.ntmps49
 go_wp2_with (first | ((with_reducible refine gate_dst (N := 13) rfl ?_); (try (refine gate_guard dq31 ?_; dsimp only)); refine box_event ?hg (N := 13) ?hd (cs := #[.slice A0 n c0, .slice none 0 0, .slice none 0 0, .slice none 0 0, .slice none 0 0]) (t := 89) ?hr ?_; (case hd => rfl); (case hg => rfl); (case hr => exact dq0); intro X hg w1 hbox hb; have HGX := Zq.i hg; clear hg))
 have S0_ : NetW w1 w.heap.size X (fun k => if k = X then 7 else 0) (.slice A0 n c0) (.slice none 0 0) (.slice none 0 0) (.slice none 0 0) (.slice none 0 0) ⟨[], [], [], []⟩ [] := by
  refine ⟨hbox, by have := HGX.out; omega, if_pos rfl, Kd.R_nil _ _ _ _ _, Kd.R_nil _ _ _ _ _, Kd.R_nil _ _ _ _ _, Kd.R_nil _ _ _ _ _, ⟨rfl, fun i b l h => by simp at h, dq15, dq15, .nil⟩⟩
 have S0 := Zq.i S0_
 have B0 := Zq.i hb
 clear hbox hb HGX S0_
 go_loopg [16] n (fun gg s16 wr => ∃ (i : Nat) (N : NetV) (own : Tags) (nv fv lv wv : Value) (ms : List Nat), i ≤ n ∧ n - i ≤ gg ∧ s16 = .int .i64 i ∧ Zq (netL (p.drop i) i N = some Nf) ∧ Zq (NetW wr w.heap.size X own (.slice A0 n c0) nv fv lv wv N ms) ∧ Zq (Below w.heap.size w wr))
 case atStart => exact ⟨0, ⟨[], [], [], []⟩, _, _, _, _, _, _, Nat.zero_le _, dq28, rfl, HF, S0, B0⟩
 obtain ⟨i, N, own, nv, fv, lv, wv, ms, hi, hgg, rfl, GF, GN, GB⟩ := hrel
 clear S0 B0 HF
 by_cases hlt : i < n
 rotate_left
 ·have hlz : ¬ ((i : Int) < (n : Int)) := by omega
  have hgf := GF.out
  rw [List.drop_of_length_le (by have := HN.out; omega)] at hgf
  have he := oI hgf
  subst he
  clear hgf GF
  go_wp2
  go_ret
  exact ⟨X, own, nv, fv, lv, wv, ms, rfl, GN.out, GB.out⟩
 have hlz : (i : Int) < (n : Int) := by omega
 have hl : i < p.length := by have := HN.out; omega
 have hF := GF.out
 rw [List.drop_eq_getElem_cons hl] at hF
 unfold netL at hF
 by_cases hsz : N.nul.length < LIMK ∧ N.fst.length < LIMK ∧ N.lst.length < LIMK ∧ N.fol.length < LIMK
 rotate_left
 ·rw [if_neg hsz] at hF
  cases hF
 rw [if_pos hsz] at hF
 obtain ⟨N1, hN1, hF1⟩ := Option.bind_eq_some_iff.1 hF
 clear hF
 unfold nodeF at hN1
 obtain ⟨s, hs, hN2⟩ := Option.bind_eq_some_iff.1 hN1
 clear hN1
 obtain ⟨fol1, hfol, hN3⟩ := Option.map_eq_some_iff.1 hN2
 clear hN2
 obtain ⟨ad, A2, c2, e, hx0, hx1, hx2, hx3, hl2, hi2⟩ := at_T42 HR.out (i : Int) dq28 (by have := HN.out; omega)
 subst e
 have hE : rd_T42 p (i : Int) = p[i] := by unfold rd_T42; rw [Int.toNat_natCast, List.getD_eq_getElem?_getD, List.getElem?_eq_getElem hl]; rfl
 rw [hE, Int.toNat_natCast] at hx0 hx1 hx2 hx3
 rw [hE] at hl2 hi2
 clear hE
 generalize p[i] = nd at hx0 hx1 hx2 hx3 hl2 hi2 hs hfol hN3
 obtain ⟨kind, name, kids, occ⟩ := nd
 dsimp only at hx0 hx1 hx2 hx3 hl2 hi2
 replace hx0 := (GB.out.cell (bC w _ hx0)).trans hx0
 replace hx1 := (GB.out.cell (bC w _ hx1)).trans hx1
 replace hx2 := (GB.out.cell (bC w _ hx2)).trans hx2
 replace hx3 := (GB.out.cell (bC w _ hx3)).trans hx3
 have HS := Zq.i hs
 have HFO := Zq.i hfol
 have HN3 := Zq.i hN3
 have HF1 := Zq.i hF1
 have HSZ := Zq.i hsz
 have HL2 := Zq.i hl2
 have HI2 := Zq.i hi2
 have HGG := Zq.i hgg
 clear hs hfol hN3 hF1 hl hsz hl2 hi2 hgg GF
 go_upto_region 5 with (first | ((with_reducible refine gate_dst (N := 5) rfl ?_); refine box_event ?hg (N := 5) ?hd (cs := #[.int .i64 0, .string (⟨#[]⟩ : ByteArray), .slice none 0 0, .int .i64 0]) (t := 42) ?hr ?_; (case hd => rfl); (case hg => rfl); (case hr => exact dq0); intro gb hg w2 hbox hb; have BK := Zq.i hbox; have hcz0 : w2.cell? ⟨gb, 0, none⟩ = some (.int .i64 0) := (blk_cell BK.out 0).trans rfl; have hcz1 : w2.cell? ⟨gb, 1, none⟩ = some (.string (⟨#[]⟩ : ByteArray)) := (blk_cell BK.out 1).trans rfl; have hcz2 : w2.cell? ⟨gb, 2, none⟩ = some (.slice none 0 0) := (blk_cell BK.out 2).trans rfl; have hcz3 : w2.cell? ⟨gb, 3, none⟩ = some (.int .i64 0) := (blk_cell BK.out 3).trans rfl; have hfz0 := blk_frozen BK.out 0; have hfz1 := blk_frozen BK.out 1; have hfz2 := blk_frozen BK.out 2; have hfz3 := blk_frozen BK.out 3; have HG := Zq.i hg; have HBX := Zq.i hb; clear hbox hg hb))
 have GE : wr.heap.size ≤ gb := by have := HG.out; omega
 have B3 : Below wr.heap.size wr ((((w2.setCell ⟨gb, 0, none⟩ (.int .i64 kind)).setCell ⟨gb, 1, none⟩ (.string name)).setCell ⟨gb, 2, none⟩ (.slice A2 kids.length c2)).setCell ⟨gb, 3, none⟩ (.int .i64 occ)) := below_set (below_set (below_set (below_set HBX.out GE) GE) GE) GE
 have K3 : ((((w2.setCell ⟨gb, 0, none⟩ (.int .i64 kind)).setCell ⟨gb, 1, none⟩ (.string name)).setCell ⟨gb, 2, none⟩ (.slice A2 kids.length c2)).setCell ⟨gb, 3, none⟩ (.int .i64 occ)).heap[gb]? = some (.cells #[.int .i64 kind, .string name, .slice A2 kids.length c2, .int .i64 occ] 42 (0, 0)) := (blk_set (blk_set (blk_set (blk_set BK.out 0 _) 1 _) 2 _) 3 _).trans rfl
 clear hcz0 hcz1 hcz2 hcz3 hfz0 hfz1 hfz2 hfz3 BK HBX HG hx0 hx1 hx2 hx3
 generalize ((((w2.setCell ⟨gb, 0, none⟩ (.int .i64 kind)).setCell ⟨gb, 1, none⟩ (.string name)).setCell ⟨gb, 2, none⟩ (.slice A2 kids.length c2)).setCell ⟨gb, 3, none⟩ (.int .i64 occ)) = w3 at B3 K3 ⊢
 have N3 := Zq.i (GN.out.new (own' := fun k => if k = gb then 0 else own k) B3 (fun k hk => if_neg dq28))
 have O3 : Zq ((fun k => if k = gb then 0 else own k) gb = 0) := ⟨if_pos rfl⟩
 have L3 := Zq.i (below_step GB.out B3)
 have GBB := Zq.i (Nat.le_trans GB.out.size GE)
 have BX3 := Zq.i K3
 clear GN GB
 generalize (fun k => if k = gb then 0 else own k) = own3 at N3 O3
 have hk0 : w3.cell? ⟨gb, 0, none⟩ = some (.int .i64 kind) := (blk_cell BX3.out 0).trans rfl
 clear K3 B3 GE
 go_upto_region 6 with (first | ((with_reducible refine gate_dst (N := 24) rfl ?_); refine lit_ints (w0 := w) (W := w3) (own := own3) ?hg (N := 24) ?hd [] 5 ?hr L3.out dq15 ?_; (case hd => rfl); (case hg => rfl); (case hr => exact dq0); intro v5 w4 own4 hv_ st_ hb_; replace N3 := Zq.i (st_.net N3.out (fun _ _ h => h)); replace O3 := Zq.i ((st_.block BX3.out (fun h => h)).2.trans O3.out); replace BX3 := Zq.i ((st_.block BX3.out (fun h => h)).1); replace L3 := Zq.i (hb_); have R5 := Zq.i hv_; clear hv_ st_ hb_; clear hk0; have hk0 : w4.cell? ⟨gb, 0, none⟩ = some (.int .i64 kind) := (blk_cell BX3.out 0).trans rfl) | ((with_reducible refine gate_dst (N := 25) rfl ?_); refine lit_ints (w0 := w) (W := w4) (own := own4) ?hg (N := 25) ?hd [] 6 ?hr L3.out dq15 ?_; (case hd => rfl); (case hg => rfl); (case hr => exact dq0); intro v6 w5 own5 hv_ st_ hb_; replace N3 := Zq.i (st_.net N3.out (fun _ _ h => h)); replace O3 := Zq.i ((st_.block BX3.out (fun h => h)).2.trans O3.out); replace R5 := Zq.i (st_.row R5.out (fun h => h)); replace BX3 := Zq.i ((st_.block BX3.out (fun h => h)).1); replace L3 := Zq.i (hb_); have R6 := Zq.i hv_; clear hv_ st_ hb_; clear hk0; obtain ⟨-, -, -, -, hx4, hxf⟩ := N3.out.cellAt; have hx4f := hxf 4; clear hxf))
 go_upto_region 7 with (first | ((with_reducible refine gate_dst (N := 31) rfl ?_); refine map_new (W := w5) ?hg (N := 31) ?hd ?hr ?_; (case hd => rfl); (case hg => rfl); (case hr => exact dq0); intro mb w6 hmb hms hb_; obtain ⟨own6, hmb8, ho6⟩ := fresh_tag w5 own5 (Nat.le_of_eq hmb.symm) 8; have st_ : Stp w5 w6 own5 own6 (fun _ => False) := Stp.fresh hb_ ho6 _; have HM8 := Zq.i hmb8; have HMS := Zq.i hms; have HMN : Zq (mb ∉ ms) := ⟨fun h_ => by have := N3.out.m.lt mb h_; omega⟩; have HMB : Zq (w.heap.size ≤ mb) := ⟨by rw [hmb]; exact L3.out.size⟩; replace N3 := Zq.i (st_.net N3.out (fun _ _ h => h)); replace O3 := Zq.i ((st_.block BX3.out (fun h => h)).2.trans O3.out); replace R5 := Zq.i (st_.row R5.out (fun h => h)); replace R6 := Zq.i (st_.row R6.out (fun h => h)); replace BX3 := Zq.i ((st_.block BX3.out (fun h => h)).1); replace L3 := Zq.i (below_step L3.out hb_); clear hmb hms hmb8 ho6 st_ hb_ hx4 hx4f; obtain ⟨-, -, -, -, hx4, hxf⟩ := N3.out.cellAt; have hx4f := hxf 4; clear hxf) | ((with_reducible refine gate_dst (N := 32) rfl ?_); refine lit_one (W := w6) ?hg (N := 32) ?hd (.map (some mb)) 96 ?hr ?_; (case hd => rfl); (case hg => rfl); (case hr => exact dq0); intro g7 w7 hg7 hbk hb_; have HK7 := Zq.i hbk; have st_ : Stp w6 w7 own6 own6 (fun _ => False) := Stp.below hb_ _ _; replace N3 := Zq.i (st_.net N3.out (fun _ _ h => h)); replace O3 := Zq.i ((st_.block BX3.out (fun h => h)).2.trans O3.out); replace R5 := Zq.i (st_.row R5.out (fun h => h)); replace R6 := Zq.i (st_.row R6.out (fun h => h)); replace BX3 := Zq.i ((st_.block BX3.out (fun h => h)).1); replace L3 := Zq.i (below_step L3.out hb_); replace HMS := Zq.i (HMS.out.step (hb_.block mb HMS.out.lt)); clear hbk hg7 st_ hb_ hx4 hx4f; obtain ⟨-, -, -, -, hx4, hxf⟩ := N3.out.cellAt; have hx4f := hxf 4; clear hxf) | ((with_reducible refine gate_builtin (b := .append) (xs := #[.tmp 30, .tmp 32]) rfl ?_); at_builtin; refine app_map (w0 := w) (W := w7) (own := own6) (v := wv) (t := 4) ?hg (.tmp 30) (.tmp 32) ?ho ms mb (g := g7) ?hs ?hx N3.out.wv_ HK7.out L3.out (by have := HSZ.out.2.2.2; have := N3.out.m.len; unfold LIMK at *; omega) ?_; (case hg => rfl); (case ho => rfl); (case hs => rfl); (case hx => rfl); intro v8 w8 own8 hv8 st_ hb_; obtain ⟨A8, c8, e8⟩ := Kd.R_slice hv8; subst e8; have HV8 := Zq.i hv8; have HST := Zq.i st_; have HX8 := Zq.i (st_.block N3.out.x (by rw [N3.out.xo]; decide)).1; have z0_ := Zq.i ((st_.block BX3.out dq111).2.trans O3.out); have z1_ := Zq.i (st_.row R5.out dq25); have z2_ := Zq.i (st_.row R6.out dq25); have z3_ := Zq.i ((st_.block BX3.out dq111).1); have z4_ := Zq.i (hb_); clear O3 R5 R6 BX3 L3; have O3 := z0_; have R5 := z1_; have R6 := z2_; have BX3 := z3_; have L3 := z4_; clear z0_ z1_ z2_ z3_ z4_; clear hv8 st_ hb_ hx4 hx4f; have hx4 : w8.cell? ⟨X, 4, none⟩ = some wv := (blk_cell HX8.out 4).trans rfl; have hx4f := blk_frozen HX8.out 4))
 have N9 := Zq.i (N3.out.set4 HST.out HV8.out HMS.out HM8.out HMB.out HMN.out)
 rw [show (ms ++ [mb]).length = ms.length + 1 by simp] at N9
 have st9 := Stp.set7 (W := w8) N9.out.xo 4 (.slice A8 (ms.length + 1) c8)
 have z9a := Zq.i (st9.row R5.out dq25)
 have z9b := Zq.i (st9.row R6.out dq25)
 have z9c := Zq.i (st9.block BX3.out dq111).1
 have z9d := Zq.i (below_set (j := 4) (v := .slice A8 (ms.length + 1) c8) L3.out N9.out.xb)
 clear R5 R6 BX3 L3 st9 N3 HST HV8 HMS HM8 HMB HMN HX8 HK7 hx4 hx4f
 generalize w8.setCell ⟨X, 4, none⟩ (.slice A8 (ms.length + 1) c8) = w9 at N9 z9a z9b z9c z9d ⊢
 have N3 := N9
 have R5 := z9a
 have R6 := z9b
 have BX3 := z9c
 have L3 := z9d
 clear N9 z9a z9b z9c z9d
 generalize (.slice A8 (ms.length + 1) c8 : Value) = wv9 at N3
 generalize hms9 : ms ++ [mb] = ms9 at N3
 clear hms9
 obtain ⟨pb, hpb⟩ : ∃ b, posB ⟨kind, name, kids, occ⟩ = b := ⟨_, rfl⟩
 have HPB := Zq.i hpb
 have HP1 := Zq.i ((pos_f ⟨kind, name, kids, occ⟩).trans (congrArg some hpb))
 clear hpb
 have hk0 : w9.cell? ⟨gb, 0, none⟩ = some (.int .i64 kind) := (blk_cell BX3.out 0).trans rfl
 have hk1 : w9.cell? ⟨gb, 1, none⟩ = some (.string name) := (blk_cell BX3.out 1).trans rfl
 have hk2 : w9.cell? ⟨gb, 2, none⟩ = some (.slice A2 kids.length c2) := (blk_cell BX3.out 2).trans rfl
 have hk3 : w9.cell? ⟨gb, 3, none⟩ = some (.int .i64 occ) := (blk_cell BX3.out 3).trans rfl
 go_upto_if 37 with (first | ((with_reducible refine gate_callee (f := 57) rfl ?_); refine goesL_ (some 37) rfl rfl Try.func57 dq24 rfl #[.agg #[.int .i64 kind, .string name, .slice A2 kids.length c2, .int .i64 occ]] rfl dq42 ?_; (with_reducible refine (impl_PNode_isPosition.calls kind name A2 c2 kids occ pb _ (Kd.C_below HI2.out L3.out) HL2.out HP1.out).mono ?_); rintro e w10 ⟨rfl, hb_⟩; refine ⟨_, rfl, ?_⟩; have st_ := Stp.below hb_ own8 (fun _ => False); replace N3 := Zq.i (st_.net N3.out (fun _ _ h => h)); replace O3 := Zq.i ((st_.block BX3.out (fun h => h)).2.trans O3.out); replace R5 := Zq.i (st_.row R5.out (fun h => h)); replace R6 := Zq.i (st_.row R6.out (fun h => h)); replace BX3 := Zq.i ((st_.block BX3.out (fun h => h)).1); replace L3 := Zq.i (below_step L3.out hb_); clear st_ hb_ hk0 hk1 hk2 hk3))
 (try simp only [Act.put, List.setIfInBounds_toArray, List.set_cons_zero, List.set_cons_succ])
 go_cut [7, 8] (fun v7 v8 wc => ∃ (own : Tags) (vf vl : Value), v7 = vf ∧ v8 = vl ∧ Zq (NetW wc w.heap.size X own (.slice (some ad) n c0) nv fv lv wv9 { N with fol := N.fol ++ [[]] } ms9) ∧ Zq (own gb = 0) ∧ Zq (wc.heap[gb]? = some (.cells #[.int .i64 kind, .string name, .slice A2 kids.length c2, .int .i64 occ] 42 (0, 0))) ∧ Zq (Below w.heap.size w wc) ∧ Zq (Kd.R (Kd.int .i64) 2 wc w.heap.size (fun k => own k = 5) vf (startF i ⟨kind, name, kids, occ⟩ N).fi) ∧ Zq (Kd.R (Kd.int .i64) 2 wc w.heap.size (fun k => own k = 6) vl (startF i ⟨kind, name, kids, occ⟩ N).la))
 case first =>
  cases pb with
  | true =>
   clear R5 R6
   go_wp2_with (first | ((with_reducible refine gate_dst (N := 39) rfl ?_); refine lit_ints (w0 := w) (W := w10) (own := own8) ?hg (N := 39) ?hd [(i : Int)] 5 ?hr L3.out dq15 ?_; (case hd => rfl); (case hg => rfl); (case hr => exact dq0); intro v39 w11 own11 hv_ st_ hb_; replace N3 := Zq.i (st_.net N3.out (fun _ _ h => h)); replace O3 := Zq.i ((st_.block BX3.out (fun h => h)).2.trans O3.out); replace BX3 := Zq.i ((st_.block BX3.out (fun h => h)).1); replace L3 := Zq.i (hb_); have R5 := Zq.i hv_; clear hv_ st_ hb_) | ((with_reducible refine gate_dst (N := 41) rfl ?_); refine lit_ints (w0 := w) (W := w11) (own := own11) ?hg (N := 41) ?hd [(i : Int)] 6 ?hr L3.out dq15 ?_; (case hd => rfl); (case hg => rfl); (case hr => exact dq0); intro v41 w12 own12 hv_ st_ hb_; replace N3 := Zq.i (st_.net N3.out (fun _ _ h => h)); replace O3 := Zq.i ((st_.block BX3.out (fun h => h)).2.trans O3.out); replace R5 := Zq.i (st_.row R5.out (fun h => h)); replace BX3 := Zq.i ((st_.block BX3.out (fun h => h)).1); replace L3 := Zq.i (hb_); have R6 := Zq.i hv_; clear hv_ st_ hb_))
   go_meet
   case rel => exact ⟨own12, _, _, rfl, rfl, N3, O3, BX3, L3, ⟨by unfold startF; rw [HPB.out]; exact R5.out⟩, ⟨by unfold startF; rw [HPB.out]; exact R6.out⟩⟩
  | false =>
   go_wp2
   go_meet
   case rel => exact ⟨own8, _, _, rfl, rfl, N3, O3, BX3, L3, ⟨by unfold startF; rw [HPB.out]; exact R5.out⟩, ⟨by unfold startF; rw [HPB.out]; exact R6.out⟩⟩
 obtain ⟨own, vf, vl, rfl, rfl, N3, O3, BX3, L3, R5, R6⟩ := hcut
 have hk2 : wc.cell? ⟨gb, 2, none⟩ = some (.slice A2 kids.length c2) := (blk_cell BX3.out 2).trans rfl
 have hmk : kids.length ≤ 9223372036854775807 := Kd.C_max HI2.out
 obtain ⟨m, hmm⟩ : ∃ m, kids.length = m := ⟨_, rfl⟩
 rw [hmm] at hk2 hmk
 have HM := Zq.i hmm
 rw [hmm] at BX3 HL2
 clear hmm
 go_upto_region 10 with (fail)
 obtain ⟨wo, rfl⟩ : ∃ wo : World, wo = wc := ⟨_, rfl⟩
 go_loopg [6, 7, 8, 45] m (fun gg s6 s7 s8 s45 wr => ∃ (j : Nat) (q : KS) (own : Tags) (vf vl : Value), j ≤ m ∧ m - j ≤ gg ∧ s6 = .bool q.nu ∧ s7 = vf ∧ s8 = vl ∧ s45 = .int .i64 j ∧ Zq (kidsF kind N (kids.drop j) q = some s) ∧ Zq (NetW wr w.heap.size X own (.slice (some ad) n c0) nv fv lv wv9 { N with fol := q.fol } ms9) ∧ Zq (own gb = 0) ∧ Zq (wr.heap[gb]? = some (.cells #[.int .i64 kind, .string name, .slice A2 m c2, .int .i64 occ] 42 (0, 0))) ∧ Zq (Below w.heap.size w wr) ∧ Zq (Kd.R (Kd.int .i64) 2 wr w.heap.size (fun k => own k = 5) vf q.fi) ∧ Zq (Kd.R (Kd.int .i64) 2 wr w.heap.size (fun k => own k = 6) vl q.la))
 case atStart => exact ⟨0, startF i ⟨kind, name, kids, occ⟩ N, own, _, _, Nat.zero_le _, dq28, (by first | rfl | (unfold startF; rfl)), rfl, rfl, rfl, HS, N3, O3, BX3, L3, R5, R6⟩
 clear N3 O3 BX3 L3 R5 R6 hk2 HS
 obtain ⟨j, ⟨nu, fi, la, fol⟩, own, vf, vl, hj, hgj, rfl, rfl, rfl, rfl, KF, N3, O3, BX3, L3, R5, R6⟩ := hrel
 by_cases hjm : j < m
 rotate_left
 ·have hjz : ¬ ((j : Int) < (m : Int)) := by omega
  have hkf := KF.out
  rw [List.drop_of_length_le (by have := HM.out; omega)] at hkf
  have hks := oI hkf
  subst hks
  clear hkf KF hgj
  have hem := HM.out
  subst hem
  clear HM
  obtain ⟨Av, cv, e4⟩ := Kd.R_slice R5.out
  obtain ⟨Al6, cl6, e5⟩ := Kd.R_slice R6.out
  subst e4
  subst e5
  dsimp only at R5 R6 HFO HN3
  have hk0 : wr.cell? ⟨gb, 0, none⟩ = some (.int .i64 kind) := (blk_cell BX3.out 0).trans rfl
  have hk1 : wr.cell? ⟨gb, 1, none⟩ = some (.string name) := (blk_cell BX3.out 1).trans rfl
  have hk2 : wr.cell? ⟨gb, 2, none⟩ = some (.slice A2 kids.length c2) := (blk_cell BX3.out 2).trans rfl
  have hk3 : wr.cell? ⟨gb, 3, none⟩ = some (.int .i64 occ) := (blk_cell BX3.out 3).trans rfl
  obtain ⟨ob, hob⟩ : ∃ b, oftB ⟨kind, name, kids, occ⟩ = b := ⟨_, rfl⟩
  have HOB := Zq.i hob
  have HO1 := Zq.i ((oft_f ⟨kind, name, kids, occ⟩).trans (congrArg some hob))
  clear hob
  go_upto_if 130 with (first | ((with_reducible refine gate_callee (f := 92) rfl ?_); refine goesL_ (some 130) rfl rfl Try.func92 dq24 rfl #[.agg #[.int .i64 kind, .string name, .slice A2 kids.length c2, .int .i64 occ]] rfl dq42 ?_; (with_reducible refine (impl_PNode_isOften.calls kind name A2 c2 kids occ ob _ (Kd.C_below HI2.out L3.out) HL2.out HO1.out).mono ?_); rintro e w30 ⟨rfl, hb_⟩; refine ⟨_, rfl, ?_⟩; have st_ := Stp.below hb_ own (fun _ => False); replace N3 := Zq.i (st_.net N3.out (fun _ _ h => h)); replace O3 := Zq.i ((st_.block BX3.out (fun h => h)).2.trans O3.out); replace R5 := Zq.i (st_.row R5.out (fun h => h)); replace R6 := Zq.i (st_.row R6.out (fun h => h)); replace BX3 := Zq.i ((st_.block BX3.out (fun h => h)).1); replace L3 := Zq.i (below_step L3.out hb_); clear st_ hb_ hk0 hk1 hk2 hk3))
  (try simp only [Act.put, List.setIfInBounds_toArray, List.set_cons_zero, List.set_cons_succ])
  go_cut [] (fun wc => ∃ own : Tags, Zq (NetW wc w.heap.size X own (.slice (some ad) n c0) nv fv lv wv9 { N with fol := fol1 } ms9) ∧ Zq (own gb = 0) ∧ Zq (wc.heap[gb]? = some (.cells #[.int .i64 kind, .string name, .slice A2 kids.length c2, .int .i64 occ] 42 (0, 0))) ∧ Zq (Below w.heap.size w wc) ∧ Zq (Kd.R (Kd.int .i64) 2 wc w.heap.size (fun k => own k = 5) (.slice Av fi.length cv) fi) ∧ Zq (Kd.R (Kd.int .i64) 2 wc w.heap.size (fun k => own k = 6) (.slice Al6 la.length cl6) la))
  case first =>
   have hfo := HFO.out
   unfold loopF at hfo
   rw [HOB.out] at hfo
   cases ob with
   | true =>
    simp only [if_true] at hfo
    by_cases hgl : (∀ a ∈ la, 0 ≤ a ∧ a < (fol.length : Int)) ∧ ∀ b ∈ fi, 0 ≤ b ∧ b < 4096
    rotate_left
    ·rw [if_neg hgl] at hfo
     cases hfo
    rw [if_pos hgl] at hfo
    have hf2 := Zq.i (oI hfo)
    have HGL := Zq.i hgl
    clear hfo hgl
    go_wp2_with (first | ((with_reducible refine gate_callee (f := 91) rfl ?_); refine goesL_ (some 134) rfl rfl Try.func91 dq24 rfl #[.pointer (some ⟨X, 0, none⟩), .slice Al6 la.length cl6, .slice Av fi.length cv] rfl dq42 ?_; (with_reducible refine (net_lead w w30 X own _ _ _ _ wv9 { N with fol := fol } ms9 la fi Al6 Av cl6 cv N3.out (Kd.R_reads' R6.out).2.2 (Kd.R_reads' R6.out).2.1 (Kd.R_reads' R5.out).2.2 (Kd.R_reads' R5.out).2.1 HGL.out.1 HGL.out.2 L3.out).mono ?_); rintro e w31 ⟨rfl, hn_, hk_, hb_⟩; refine ⟨_, rfl, ?_⟩; have st_ : Stp w30 w31 own own (fun q => q = 8) := Stp.of_kept hk_; have z0_ := Zq.i (hn_); have z1_ := Zq.i ((st_.block BX3.out dq111).2.trans O3.out); have z2_ := Zq.i (st_.row R5.out dq25); have z3_ := Zq.i (st_.row R6.out dq25); have z4_ := Zq.i ((st_.block BX3.out dq111).1); have z5_ := Zq.i (hb_); clear N3 O3 R5 R6 BX3 L3; have N3 := z0_; have O3 := z1_; have R5 := z2_; have R6 := z3_; have BX3 := z4_; have L3 := z5_; clear z0_ z1_ z2_ z3_ z4_ z5_; clear hn_ hk_ st_ hb_))
    go_meet
    case rel =>
     have e_ := hf2.out
     subst e_
     exact ⟨own, N3, O3, BX3, L3, R5, R6⟩
   | false =>
    have hf2 := Zq.i (oI hfo)
    clear hfo
    go_wp2
    go_meet
    case rel =>
     have e_ := hf2.out
     subst e_
     exact ⟨own, N3, O3, BX3, L3, R5, R6⟩
  clear N3 O3 BX3 L3 R5 R6 HFO
  obtain ⟨own, N3, O3, BX3, L3, R5, R6⟩ := hcut
  obtain ⟨nb, hnb⟩ : ∃ b, (nu || optB ⟨kind, name, kids, occ⟩) = b := ⟨_, rfl⟩
  obtain ⟨An, cn, e1⟩ := Kd.R_slice N3.out.n
  obtain ⟨Af, cf, e2⟩ := Kd.R_slice N3.out.f
  obtain ⟨Ag, cg, e3⟩ := Kd.R_slice N3.out.l
  subst e1
  subst e2
  subst e3
  have Q0 : S23 (⟨w, X, gb, .slice (some ad) n c0, .slice An N.nul.length cn, .slice Af N.fst.length cf, .slice Ag N.lst.length cg, wv9, .slice Av fi.length cv, .slice Al6 la.length cl6, ms9, { N with fol := fol1 }, nb, fi, la, .cells #[.int .i64 kind, .string name, .slice A2 kids.length c2, .int .i64 occ] 42 (0, 0)⟩ : Fix) false false false false false false false false false 0 0 0 (.bool false) (.bool false) (.bool false) own wc :=
   ⟨N3.out.x, N3.out.xb, N3.out.xo, N3.out.n, N3.out.f, N3.out.l, N3.out.wv_, N3.out.m, fun _ => R5.out, fun _ => R6.out, fun e => (by cases e), fun e => (by cases e), fun e => (by cases e), BX3.out, O3.out, L3.out⟩
  have HQ0 := Zq.i Q0
  have HNB := Zq.i hnb
  clear Q0 hnb N3 O3 BX3 L3 R5 R6
  go_upto_region 23 with (fail)
  cases nu with
  | true => as_aux_lemma =>
   have hnt : true = nb := HNB.out
   subst hnt
   have hbd_ : Below wc.heap.size wc wc.drew := below_drew (Below.refl _ _)
   have HQ1 := Zq.i (HQ0.out.quiet (Stp.below hbd_ own _) hbd_)
   clear HQ0 hbd_
   refine start_ (n := 37) (S := fun w' => True) (ds := []) (bitsA 37 0) dq24 rfl rfl trivial (fun hHeld => ?_); refine with_tabW net_of.tab23 net_of.bits23 (fun HT_ HW_ => ?_)
   generalize wc.drew = w40 at HQ1 hHeld ⊢
   refine pureA (i := 0) (N := some 135) (bitsA 37 1) ?_
   refine pureA (i := 1) (N := some 136) (bitsA 37 3) ?_
   refine pureA (i := 2) (N := some 137) (bitsA 37 7) ?_
   refine pureA (i := 3) (N := some 138) (bitsA 37 15) ?_
   refine pureA (i := 4) (N := some 139) (bitsA 37 31) ?_
   refine pureA (i := 5) (N := some 140) (bitsA 37 63) ?_
   refine pureA (i := 7) (N := some 142) (bitsA 37 191) ?_
   refine pureA (i := 8) (N := some 143) (bitsA 37 447) ?_
   refine pureN (i := 9) (N := some 144) (bitsA 37 959) ?_
   refine pureN (i := 10) (N := some 145) (bitsA 37 1983) ?_
   refine pureA (i := 11) (N := some 146) (bitsA 37 4031) ?_
   refine pureA (i := 14) (N := some 149) (bitsA 37 20415) ?_
   refine pureA (i := 15) (N := some 150) (bitsA 37 53183) ?_
   refine pureA (i := 16) (N := some 151) (bitsA 37 118719) ?_
   refine pureA (i := 18) (N := some 153) (bitsA 37 380863) ?_
   refine pureA (i := 21) (N := some 156) (bitsA 37 2478015) ?_
   refine pureA (i := 22) (N := some 157) (bitsA 37 6672319) ?_
   refine pureA (i := 23) (N := some 158) (bitsA 37 15060927) ?_
   refine pureA (i := 25) (N := some 160) (bitsA 37 48615359) ?_
   refine inv_at [6, 12, 13, 17, 19, 20, 24, 26, 27, 28, 29, 30, 31, 32, 33, 34, 35, 36] (fun a0_ b a w' => ∃ (g12 g19 g26 : Nat) (v13 v20 v27 : Value) (own : Tags), a = putSel a0_ b [(6, 141, .slice An N.nul.length cn), (12, 147, .slice (some ⟨g12, 0, none⟩) 1 1), (13, 148, v13), (17, 152, .slice Af N.fst.length cf), (19, 154, .slice (some ⟨g19, 0, none⟩) 1 1), (20, 155, v20), (24, 159, .slice Ag N.lst.length cg), (26, 161, .slice (some ⟨g26, 0, none⟩) 1 1), (27, 162, v27), (28, 163, .pointer (some ⟨X, 0, none⟩)), (29, 164, .pointer (some ⟨X, 1, none⟩)), (31, 165, .pointer (some ⟨X, 0, none⟩)), (32, 166, .pointer (some ⟨X, 2, none⟩)), (34, 167, .pointer (some ⟨X, 0, none⟩)), (35, 168, .pointer (some ⟨X, 3, none⟩))] ∧ S23 (⟨w, X, gb, .slice (some ad) n c0, .slice An N.nul.length cn, .slice Af N.fst.length cf, .slice Ag N.lst.length cg, wv9, .slice Av fi.length cv, .slice Al6 la.length cl6, ms9, { N with fol := fol1 }, true, fi, la, .cells #[.int .i64 kind, .string name, .slice A2 kids.length c2, .int .i64 occ] 42 (0, 0)⟩ : Fix) (b 12) (b 13) (b 19) (b 20) (b 26) (b 27) (b 30) (b 33) (b 36) g12 g19 g26 v13 v20 v27 own w') HT_.out HW_.out dq24 dq24 ?_ ?_ ?_
   ·exact ⟨0, 0, 0, .bool false, .bool false, .bool false, own, by simp only [putSel, Bool.false_eq_true, if_false], HQ1.out⟩
   ·clear HQ1
    refine steps_cons ?_ ?_
    ·rintro b a w' ⟨g12, g19, g26, v13, v20, v27, own, ha, h⟩ hb_ hon hoff
     refine ⟨_, rfl, fun K hK => ?_⟩
     have hx : w'.cell? ⟨X, 1, none⟩ = some (.slice An N.nul.length cn) := by have q_ := h.cell.1; rw [hoff 30 dq24] at q_; exact q_
     have e140 : a.tmps[140]? = some (.pointer (some ⟨X, 1, none⟩)) := by rw [ha]; exact (putSel_off rfl).trans rfl
     replace ha := Zq.i ha
     have HH := Zq.i h
     refine value_ (w1 := w') (v := .slice An N.nul.length cn) dq31 rfl ?_ ?_
     ·go_simp
      try rfl
     refine hK.out _ _ ⟨g12, g19, g26, v13, v20, v27, own, (by rw [ha.out]; exact putSel_upk 0 hb_ rfl rfl rfl), HH.out⟩
    refine steps_cons ?_ ?_
    ·rintro b a w' ⟨g12, g19, g26, v13, v20, v27, own, ha, h⟩ hb_ hon hoff
     refine ⟨_, rfl, fun K hK => ?_⟩
     have e146 : a.tmps[146]? = some (.bool true) := by rw [ha]; exact (putSel_off rfl).trans rfl
     replace ha := Zq.i ha
     have HH := Zq.i h
     refine value_ (w1 := w'.alloc (.cells #[.bool true] 4 (0, 0))) (v := .slice (some ⟨w'.heap.size, 0, none⟩) 1 1) dq31 rfl ?_ ?_
     ·go_simp
      try rfl
     obtain ⟨own', h'⟩ := HH.out.b12 (w1 := w'.alloc (.cells #[.bool true] 4 (0, 0))) rfl (blk_new w' _) (below_alloc (Below.refl _ _) _)
     refine hK.out _ _ ⟨w'.heap.size, g19, g26, v13, v20, v27, own', (by rw [ha.out]; exact putSel_upk 1 hb_ rfl rfl rfl), h'⟩
    refine steps_cons ?_ ?_
    ·rintro b a w' ⟨g12, g19, g26, v13, v20, v27, own, ha, h⟩ hb_ hon hoff
     refine ⟨_, rfl, fun K hK => ?_⟩
     have e30 : b 30 = false := hoff 30 dq24
     have hn_ : Kd.bool.R 4 w' w.heap.size (fun k => own k = 1) (.slice An N.nul.length cn) N.nul := by have q_ := h.n; rw [hb_] at q_; exact q_
     have hk_ := (h.k12 (hon 12 dq24) hb_).1
     have e141 : a.tmps[141]? = some (.slice An N.nul.length cn) := by rw [ha]; exact putSel_on (e := (6, 141, .slice An N.nul.length cn)) 0 rfl rfl (hon 6 dq24) rfl
     have e147 : a.tmps[147]? = some (.slice (some ⟨g12, 0, none⟩) 1 1) := by rw [ha]; exact putSel_on (e := (12, 147, .slice (some ⟨g12, 0, none⟩) 1 1)) 1 rfl rfl (hon 12 dq24) rfl
     replace ha := Zq.i ha
     have HH := Zq.i h
     refine app_bool_step (w0 := w) (W := w') (own := own) (v := .slice An N.nul.length cn) (t := 1) dq31 (.tmp 141) (.tmp 147) rfl N.nul true (g := g12) (eval_of e141) (eval_of e147) hn_ hk_ HH.out.low (by have := HSZ.out.1; unfold LIMK at this; omega) ?_
     intro v w42 own' hv_ st_ hb9_
     have h' : S23 (⟨w, X, gb, .slice (some ad) n c0, .slice An N.nul.length cn, .slice Af N.fst.length cf, .slice Ag N.lst.length cg, wv9, .slice Av fi.length cv, .slice Al6 la.length cl6, ms9, { N with fol := fol1 }, true, fi, la, .cells #[.int .i64 kind, .string name, .slice A2 kids.length c2, .int .i64 occ] 42 (0, 0)⟩ : Fix) (b 12) true (b 19) (b 20) (b 26) (b 27) (b 30) (b 33) (b 36) g12 g19 g26 v v20 v27 own' w42 := by rw [e30]; have q_ := HH.out; rw [hb_, e30] at q_; exact q_.a13 hv_ st_ hb9_
     refine hK.out _ _ ⟨g12, g19, g26, v, v20, v27, own', (by rw [ha.out]; exact putSel_upk 2 hb_ rfl rfl rfl), h'⟩
    refine steps_cons ?_ ?_
    ·rintro b a w' ⟨g12, g19, g26, v13, v20, v27, own, ha, h⟩ hb_ hon hoff
     refine ⟨_, rfl, fun K hK => ?_⟩
     have hx : w'.cell? ⟨X, 2, none⟩ = some (.slice Af N.fst.length cf) := by have q_ := h.cell.2.1; rw [hoff 33 dq24] at q_; exact q_
     have e151 : a.tmps[151]? = some (.pointer (some ⟨X, 2, none⟩)) := by rw [ha]; exact (putSel_off rfl).trans rfl
     replace ha := Zq.i ha
     have HH := Zq.i h
     refine value_ (w1 := w') (v := .slice Af N.fst.length cf) dq31 rfl ?_ ?_
     ·go_simp
      try rfl
     refine hK.out _ _ ⟨g12, g19, g26, v13, v20, v27, own, (by rw [ha.out]; exact putSel_upk 3 hb_ rfl rfl rfl), HH.out⟩
    refine steps_cons ?_ ?_
    ·rintro b a w' ⟨g12, g19, g26, v13, v20, v27, own, ha, h⟩ hb_ hon hoff
     refine ⟨_, rfl, fun K hK => ?_⟩
     have e153 : a.tmps[153]? = some (.slice Av fi.length cv) := by rw [ha]; exact (putSel_off rfl).trans rfl
     replace ha := Zq.i ha
     have HH := Zq.i h
     refine value_ (w1 := w'.alloc (.cells #[.slice Av fi.length cv] 33 (0, 0))) (v := .slice (some ⟨w'.heap.size, 0, none⟩) 1 1) dq31 rfl ?_ ?_
     ·go_simp
      try rfl
     obtain ⟨own', h'⟩ := HH.out.b19 (w1 := w'.alloc (.cells #[.slice Av fi.length cv] 33 (0, 0))) rfl (blk_new w' _) (below_alloc (Below.refl _ _) _)
     refine hK.out _ _ ⟨g12, w'.heap.size, g26, v13, v20, v27, own', (by rw [ha.out]; exact putSel_upk 4 hb_ rfl rfl rfl), h'⟩
    refine steps_cons ?_ ?_
    ·rintro b a w' ⟨g12, g19, g26, v13, v20, v27, own, ha, h⟩ hb_ hon hoff
     refine ⟨_, rfl, fun K hK => ?_⟩
     have e30 : b 33 = false := hoff 33 dq24
     have hn_ : krow.R 33 w' w.heap.size (fun k => own k = 2) (.slice Af N.fst.length cf) N.fst := by have q_ := h.f; rw [hb_] at q_; exact q_
     have hk_ := (h.k19 (hon 19 dq24) hb_).1
     have hy_ := h.rf hb_
     have e152 : a.tmps[152]? = some (.slice Af N.fst.length cf) := by rw [ha]; exact putSel_on (e := (17, 152, .slice Af N.fst.length cf)) 3 rfl rfl (hon 17 dq24) rfl
     have e154 : a.tmps[154]? = some (.slice (some ⟨g19, 0, none⟩) 1 1) := by rw [ha]; exact putSel_on (e := (19, 154, .slice (some ⟨g19, 0, none⟩) 1 1)) 4 rfl rfl (hon 19 dq24) rfl
     replace ha := Zq.i ha
     have HH := Zq.i h
     refine app_row_step (w0 := w) (W := w') (own := own) (v := .slice Af N.fst.length cf) (t := 2) dq31 (.tmp 152) (.tmp 154) rfl N.fst fi (g := g19) (u := 5) (vy := .slice Av fi.length cv) (eval_of e152) (eval_of e154) hn_ hk_ hy_ dq25 HH.out.low (by have := HSZ.out.2.1; unfold LIMK at this; omega) ?_
     intro v w42 own' hv_ st_ hb9_
     have h' : S23 (⟨w, X, gb, .slice (some ad) n c0, .slice An N.nul.length cn, .slice Af N.fst.length cf, .slice Ag N.lst.length cg, wv9, .slice Av fi.length cv, .slice Al6 la.length cl6, ms9, { N with fol := fol1 }, true, fi, la, .cells #[.int .i64 kind, .string name, .slice A2 kids.length c2, .int .i64 occ] 42 (0, 0)⟩ : Fix) (b 12) (b 13) (b 19) true (b 26) (b 27) (b 30) (b 33) (b 36) g12 g19 g26 v13 v v27 own' w42 := by rw [e30]; have q_ := HH.out; rw [hb_, e30] at q_; exact q_.a20 hv_ st_ hb9_
     refine hK.out _ _ ⟨g12, g19, g26, v13, v, v27, own', (by rw [ha.out]; exact putSel_upk 5 hb_ rfl rfl rfl), h'⟩
    refine steps_cons ?_ ?_
    ·rintro b a w' ⟨g12, g19, g26, v13, v20, v27, own, ha, h⟩ hb_ hon hoff
     refine ⟨_, rfl, fun K hK => ?_⟩
     have hx : w'.cell? ⟨X, 3, none⟩ = some (.slice Ag N.lst.length cg) := by have q_ := h.cell.2.2.1; rw [hoff 36 dq24] at q_; exact q_
     have e158 : a.tmps[158]? = some (.pointer (some ⟨X, 3, none⟩)) := by rw [ha]; exact (putSel_off rfl).trans rfl
     replace ha := Zq.i ha
     have HH := Zq.i h
     refine value_ (w1 := w') (v := .slice Ag N.lst.length cg) dq31 rfl ?_ ?_
     ·go_simp
      try rfl
     refine hK.out _ _ ⟨g12, g19, g26, v13, v20, v27, own, (by rw [ha.out]; exact putSel_upk 6 hb_ rfl rfl rfl), HH.out⟩
    refine steps_cons ?_ ?_
    ·rintro b a w' ⟨g12, g19, g26, v13, v20, v27, own, ha, h⟩ hb_ hon hoff
     refine ⟨_, rfl, fun K hK => ?_⟩
     have e160 : a.tmps[160]? = some (.slice Al6 la.length cl6) := by rw [ha]; exact (putSel_off rfl).trans rfl
     replace ha := Zq.i ha
     have HH := Zq.i h
     refine value_ (w1 := w'.alloc (.cells #[.slice Al6 la.length cl6] 33 (0, 0))) (v := .slice (some ⟨w'.heap.size, 0, none⟩) 1 1) dq31 rfl ?_ ?_
     ·go_simp
      try rfl
     obtain ⟨own', h'⟩ := HH.out.b26 (w1 := w'.alloc (.cells #[.slice Al6 la.length cl6] 33 (0, 0))) rfl (blk_new w' _) (below_alloc (Below.refl _ _) _)
     refine hK.out _ _ ⟨g12, g19, w'.heap.size, v13, v20, v27, own', (by rw [ha.out]; exact putSel_upk 7 hb_ rfl rfl rfl), h'⟩
    refine steps_cons ?_ ?_
    ·rintro b a w' ⟨g12, g19, g26, v13, v20, v27, own, ha, h⟩ hb_ hon hoff
     refine ⟨_, rfl, fun K hK => ?_⟩
     have e30 : b 36 = false := hoff 36 dq24
     have hn_ : krow.R 33 w' w.heap.size (fun k => own k = 3) (.slice Ag N.lst.length cg) N.lst := by have q_ := h.l; rw [hb_] at q_; exact q_
     have hk_ := (h.k26 (hon 26 dq24) hb_).1
     have hy_ := h.rl hb_
     have e159 : a.tmps[159]? = some (.slice Ag N.lst.length cg) := by rw [ha]; exact putSel_on (e := (24, 159, .slice Ag N.lst.length cg)) 6 rfl rfl (hon 24 dq24) rfl
     have e161 : a.tmps[161]? = some (.slice (some ⟨g26, 0, none⟩) 1 1) := by rw [ha]; exact putSel_on (e := (26, 161, .slice (some ⟨g26, 0, none⟩) 1 1)) 7 rfl rfl (hon 26 dq24) rfl
     replace ha := Zq.i ha
     have HH := Zq.i h
     refine app_row_step (w0 := w) (W := w') (own := own) (v := .slice Ag N.lst.length cg) (t := 3) dq31 (.tmp 159) (.tmp 161) rfl N.lst la (g := g26) (u := 6) (vy := .slice Al6 la.length cl6) (eval_of e159) (eval_of e161) hn_ hk_ hy_ dq25 HH.out.low (by have := HSZ.out.2.2.1; unfold LIMK at this; omega) ?_
     intro v w42 own' hv_ st_ hb9_
     have h' : S23 (⟨w, X, gb, .slice (some ad) n c0, .slice An N.nul.length cn, .slice Af N.fst.length cf, .slice Ag N.lst.length cg, wv9, .slice Av fi.length cv, .slice Al6 la.length cl6, ms9, { N with fol := fol1 }, true, fi, la, .cells #[.int .i64 kind, .string name, .slice A2 kids.length c2, .int .i64 occ] 42 (0, 0)⟩ : Fix) (b 12) (b 13) (b 19) (b 20) (b 26) true (b 30) (b 33) (b 36) g12 g19 g26 v13 v20 v own' w42 := by rw [e30]; have q_ := HH.out; rw [hb_, e30] at q_; exact q_.a27 hv_ st_ hb9_
     refine hK.out _ _ ⟨g12, g19, g26, v13, v20, v, own', (by rw [ha.out]; exact putSel_upk 8 hb_ rfl rfl rfl), h'⟩
    refine steps_cons ?_ ?_
    ·rintro b a w' ⟨g12, g19, g26, v13, v20, v27, own, ha, h⟩ hb_ hon hoff
     refine ⟨_, rfl, fun K hK => ?_⟩
     have e135 : a.tmps[135]? = some (.pointer (some ⟨X, 0, none⟩)) := by rw [ha]; exact (putSel_off rfl).trans rfl
     replace ha := Zq.i ha
     have HH := Zq.i h
     refine value_ (w1 := w') (v := .pointer (some ⟨X, 0, none⟩)) dq31 rfl ?_ ?_
     ·go_simp
      try rfl
     refine hK.out _ _ ⟨g12, g19, g26, v13, v20, v27, own, (by rw [ha.out]; exact putSel_upk 9 hb_ rfl rfl rfl), HH.out⟩
    refine steps_cons ?_ ?_
    ·rintro b a w' ⟨g12, g19, g26, v13, v20, v27, own, ha, h⟩ hb_ hon hoff
     refine ⟨_, rfl, fun K hK => ?_⟩
     have e163 : a.tmps[163]? = some (.pointer (some ⟨X, 0, none⟩)) := by rw [ha]; exact putSel_on (e := (28, 163, .pointer (some ⟨X, 0, none⟩))) 9 rfl rfl (hon 28 dq24) rfl
     replace ha := Zq.i ha
     have HH := Zq.i h
     refine value_ (w1 := w') (v := .pointer (some ⟨X, 1, none⟩)) dq31 rfl ?_ ?_
     ·go_simp
      try rfl
     refine hK.out _ _ ⟨g12, g19, g26, v13, v20, v27, own, (by rw [ha.out]; exact putSel_upk 10 hb_ rfl rfl rfl), HH.out⟩
    refine steps_cons ?_ ?_
    ·rintro b a w' ⟨g12, g19, g26, v13, v20, v27, own, ha, h⟩ hb_ hon hoff
     refine ⟨_, rfl, fun K hK => ?_⟩
     obtain ⟨A_, c_, ev_⟩ := Kd.R_slice (by have q_ := h.n; rw [hon 13 dq24] at q_; exact q_ : Kd.bool.R 4 w' w.heap.size (fun k => own k = 1) v13 (N.nul ++ [true]))
     subst ev_
     have e164 : a.tmps[164]? = some (.pointer (some ⟨X, 1, none⟩)) := by rw [ha]; exact putSel_on (e := (29, 164, .pointer (some ⟨X, 1, none⟩))) 10 rfl rfl (hon 29 dq24) rfl
     have e148 : a.tmps[148]? = some ((.slice A_ (N.nul ++ [true]).length c_)) := by rw [ha]; exact putSel_on (e := (13, 148, (.slice A_ (N.nul ++ [true]).length c_))) 2 rfl rfl (hon 13 dq24) rfl
     have hx : w'.cell? ⟨X, 1, none⟩ = some (.slice An N.nul.length cn) := by have q_ := h.cell.1; rw [hb_] at q_; exact q_
     have hxf : w'.frozen? ⟨X, 1, none⟩ = false := h.cell.2.2.2 1
     replace ha := Zq.i ha
     have HH := Zq.i h
     clear h
     refine skip_ (w1 := w'.setCell ⟨X, 1, none⟩ (.slice A_ (N.nul ++ [true]).length c_)) dq31 rfl ?_ ?_
     ·go_simp
      try rfl
     have h' : S23 (⟨w, X, gb, .slice (some ad) n c0, .slice An N.nul.length cn, .slice Af N.fst.length cf, .slice Ag N.lst.length cg, wv9, .slice Av fi.length cv, .slice Al6 la.length cl6, ms9, { N with fol := fol1 }, true, fi, la, .cells #[.int .i64 kind, .string name, .slice A2 kids.length c2, .int .i64 occ] 42 (0, 0)⟩ : Fix) (b 12) (b 13) (b 19) (b 20) (b 26) (b 27) true (b 33) (b 36) g12 g19 g26 (.slice A_ (N.nul ++ [true]).length c_) v20 v27 own (w'.setCell ⟨X, 1, none⟩ (.slice A_ (N.nul ++ [true]).length c_)) := by have q_ := HH.out; rw [hb_] at q_; exact q_.p30
     refine hK.out _ _ ⟨g12, g19, g26, (.slice A_ (N.nul ++ [true]).length c_), v20, v27, own, dq117, h'⟩
    refine steps_cons ?_ ?_
    ·rintro b a w' ⟨g12, g19, g26, v13, v20, v27, own, ha, h⟩ hb_ hon hoff
     refine ⟨_, rfl, fun K hK => ?_⟩
     have e136 : a.tmps[136]? = some (.pointer (some ⟨X, 0, none⟩)) := by rw [ha]; exact (putSel_off rfl).trans rfl
     replace ha := Zq.i ha
     have HH := Zq.i h
     refine value_ (w1 := w') (v := .pointer (some ⟨X, 0, none⟩)) dq31 rfl ?_ ?_
     ·go_simp
      try rfl
     refine hK.out _ _ ⟨g12, g19, g26, v13, v20, v27, own, (by rw [ha.out]; exact putSel_upk 11 hb_ rfl rfl rfl), HH.out⟩
    refine steps_cons ?_ ?_
    ·rintro b a w' ⟨g12, g19, g26, v13, v20, v27, own, ha, h⟩ hb_ hon hoff
     refine ⟨_, rfl, fun K hK => ?_⟩
     have e165 : a.tmps[165]? = some (.pointer (some ⟨X, 0, none⟩)) := by rw [ha]; exact putSel_on (e := (31, 165, .pointer (some ⟨X, 0, none⟩))) 11 rfl rfl (hon 31 dq24) rfl
     replace ha := Zq.i ha
     have HH := Zq.i h
     refine value_ (w1 := w') (v := .pointer (some ⟨X, 2, none⟩)) dq31 rfl ?_ ?_
     ·go_simp
      try rfl
     refine hK.out _ _ ⟨g12, g19, g26, v13, v20, v27, own, (by rw [ha.out]; exact putSel_upk 12 hb_ rfl rfl rfl), HH.out⟩
    refine steps_cons ?_ ?_
    ·rintro b a w' ⟨g12, g19, g26, v13, v20, v27, own, ha, h⟩ hb_ hon hoff
     refine ⟨_, rfl, fun K hK => ?_⟩
     obtain ⟨A_, c_, ev_⟩ := Kd.R_slice (by have q_ := h.f; rw [hon 20 dq24] at q_; exact q_ : krow.R 33 w' w.heap.size (fun k => own k = 2) v20 (N.fst ++ [fi]))
     subst ev_
     have e166 : a.tmps[166]? = some (.pointer (some ⟨X, 2, none⟩)) := by rw [ha]; exact putSel_on (e := (32, 166, .pointer (some ⟨X, 2, none⟩))) 12 rfl rfl (hon 32 dq24) rfl
     have e155 : a.tmps[155]? = some ((.slice A_ (N.fst ++ [fi]).length c_)) := by rw [ha]; exact putSel_on (e := (20, 155, (.slice A_ (N.fst ++ [fi]).length c_))) 5 rfl rfl (hon 20 dq24) rfl
     have hx : w'.cell? ⟨X, 2, none⟩ = some (.slice Af N.fst.length cf) := by have q_ := h.cell.2.1; rw [hb_] at q_; exact q_
     have hxf : w'.frozen? ⟨X, 2, none⟩ = false := h.cell.2.2.2 2
     replace ha := Zq.i ha
     have HH := Zq.i h
     clear h
     refine skip_ (w1 := w'.setCell ⟨X, 2, none⟩ (.slice A_ (N.fst ++ [fi]).length c_)) dq31 rfl ?_ ?_
     ·go_simp
      try rfl
     have h' : S23 (⟨w, X, gb, .slice (some ad) n c0, .slice An N.nul.length cn, .slice Af N.fst.length cf, .slice Ag N.lst.length cg, wv9, .slice Av fi.length cv, .slice Al6 la.length cl6, ms9, { N with fol := fol1 }, true, fi, la, .cells #[.int .i64 kind, .string name, .slice A2 kids.length c2, .int .i64 occ] 42 (0, 0)⟩ : Fix) (b 12) (b 13) (b 19) (b 20) (b 26) (b 27) (b 30) true (b 36) g12 g19 g26 v13 (.slice A_ (N.fst ++ [fi]).length c_) v27 own (w'.setCell ⟨X, 2, none⟩ (.slice A_ (N.fst ++ [fi]).length c_)) := by have q_ := HH.out; rw [hb_] at q_; exact q_.p33
     refine hK.out _ _ ⟨g12, g19, g26, v13, (.slice A_ (N.fst ++ [fi]).length c_), v27, own, dq117, h'⟩
    refine steps_cons ?_ ?_
    ·rintro b a w' ⟨g12, g19, g26, v13, v20, v27, own, ha, h⟩ hb_ hon hoff
     refine ⟨_, rfl, fun K hK => ?_⟩
     have e137 : a.tmps[137]? = some (.pointer (some ⟨X, 0, none⟩)) := by rw [ha]; exact (putSel_off rfl).trans rfl
     replace ha := Zq.i ha
     have HH := Zq.i h
     refine value_ (w1 := w') (v := .pointer (some ⟨X, 0, none⟩)) dq31 rfl ?_ ?_
     ·go_simp
      try rfl
     refine hK.out _ _ ⟨g12, g19, g26, v13, v20, v27, own, (by rw [ha.out]; exact putSel_upk 13 hb_ rfl rfl rfl), HH.out⟩
    refine steps_cons ?_ ?_
    ·rintro b a w' ⟨g12, g19, g26, v13, v20, v27, own, ha, h⟩ hb_ hon hoff
     refine ⟨_, rfl, fun K hK => ?_⟩
     have e167 : a.tmps[167]? = some (.pointer (some ⟨X, 0, none⟩)) := by rw [ha]; exact putSel_on (e := (34, 167, .pointer (some ⟨X, 0, none⟩))) 13 rfl rfl (hon 34 dq24) rfl
     replace ha := Zq.i ha
     have HH := Zq.i h
     refine value_ (w1 := w') (v := .pointer (some ⟨X, 3, none⟩)) dq31 rfl ?_ ?_
     ·go_simp
      try rfl
     refine hK.out _ _ ⟨g12, g19, g26, v13, v20, v27, own, (by rw [ha.out]; exact putSel_upk 14 hb_ rfl rfl rfl), HH.out⟩
    refine steps_cons ?_ ?_
    ·rintro b a w' ⟨g12, g19, g26, v13, v20, v27, own, ha, h⟩ hb_ hon hoff
     refine ⟨_, rfl, fun K hK => ?_⟩
     obtain ⟨A_, c_, ev_⟩ := Kd.R_slice (by have q_ := h.l; rw [hon 27 dq24] at q_; exact q_ : krow.R 33 w' w.heap.size (fun k => own k = 3) v27 (N.lst ++ [la]))
     subst ev_
     have e168 : a.tmps[168]? = some (.pointer (some ⟨X, 3, none⟩)) := by rw [ha]; exact putSel_on (e := (35, 168, .pointer (some ⟨X, 3, none⟩))) 14 rfl rfl (hon 35 dq24) rfl
     have e162 : a.tmps[162]? = some ((.slice A_ (N.lst ++ [la]).length c_)) := by rw [ha]; exact putSel_on (e := (27, 162, (.slice A_ (N.lst ++ [la]).length c_))) 8 rfl rfl (hon 27 dq24) rfl
     have hx : w'.cell? ⟨X, 3, none⟩ = some (.slice Ag N.lst.length cg) := by have q_ := h.cell.2.2.1; rw [hb_] at q_; exact q_
     have hxf : w'.frozen? ⟨X, 3, none⟩ = false := h.cell.2.2.2 3
     replace ha := Zq.i ha
     have HH := Zq.i h
     clear h
     refine skip_ (w1 := w'.setCell ⟨X, 3, none⟩ (.slice A_ (N.lst ++ [la]).length c_)) dq31 rfl ?_ ?_
     ·go_simp
      try rfl
     have h' : S23 (⟨w, X, gb, .slice (some ad) n c0, .slice An N.nul.length cn, .slice Af N.fst.length cf, .slice Ag N.lst.length cg, wv9, .slice Av fi.length cv, .slice Al6 la.length cl6, ms9, { N with fol := fol1 }, true, fi, la, .cells #[.int .i64 kind, .string name, .slice A2 kids.length c2, .int .i64 occ] 42 (0, 0)⟩ : Fix) (b 12) (b 13) (b 19) (b 20) (b 26) (b 27) (b 30) (b 33) true g12 g19 g26 v13 v20 (.slice A_ (N.lst ++ [la]).length c_) own (w'.setCell ⟨X, 3, none⟩ (.slice A_ (N.lst ++ [la]).length c_)) := by have q_ := HH.out; rw [hb_] at q_; exact q_.p36
     refine hK.out _ _ ⟨g12, g19, g26, v13, v20, (.slice A_ (N.lst ++ [la]).length c_), own, dq117, h'⟩
    exact steps_nil
   rintro b a w43 hall ⟨g12, g19, g26, v13, v20, v27, own, ha, h⟩
   clear HQ1
   have hb6_ := hall 6 dq24
   have hb12_ := hall 12 dq24
   have hb13_ := hall 13 dq24
   have hb17_ := hall 17 dq24
   have hb19_ := hall 19 dq24
   have hb20_ := hall 20 dq24
   have hb24_ := hall 24 dq24
   have hb26_ := hall 26 dq24
   have hb27_ := hall 27 dq24
   have hb28_ := hall 28 dq24
   have hb29_ := hall 29 dq24
   have hb30_ := hall 30 dq24
   have hb31_ := hall 31 dq24
   have hb32_ := hall 32 dq24
   have hb33_ := hall 33 dq24
   have hb34_ := hall 34 dq24
   have hb35_ := hall 35 dq24
   have hb36_ := hall 36 dq24
   rw [hb12_, hb13_, hb19_, hb20_, hb26_, hb27_, hb30_, hb33_, hb36_] at h
   have hnw := Zq.i h.net
   have hlw := Zq.i h.low
   clear h
   subst ha
   simp only [putSel, hb6_, hb12_, hb13_, hb17_, hb19_, hb20_, hb24_, hb26_, hb27_, hb28_, hb29_, hb31_, hb32_, hb34_, hb35_, if_true, Act.put, List.setIfInBounds_toArray, List.set_cons_zero, List.set_cons_succ]
   clear hall hb6_ hb12_ hb13_ hb17_ hb19_ hb20_ hb24_ hb26_ hb27_ hb28_ hb29_ hb30_ hb31_ hb32_ hb33_ hb34_ hb35_ hb36_
   have hn3 := HN3.out
   rw [HNB.out] at hn3
   subst hn3
   go_wp2
   go_roundg (n - (i + 1))
   case measure => have := HGG.out; omega
   case rel => exact ⟨i + 1, _, own, v13, v20, v27, wv9, ms9, dq28, dq28, by go_num, HF1, hnw, hlw⟩
  | false => as_aux_lemma =>
   have hp2_ : impl_PNode_isOptional.f kind name kids occ = some nb := (opt_f ⟨kind, name, kids, occ⟩).trans (congrArg some HNB.out)
   have HP2 := Zq.i hp2_
   clear hp2_
   have hbd_ : Below wc.heap.size wc wc.drew := below_drew (Below.refl _ _)
   have HQ1 := Zq.i (HQ0.out.quiet (Stp.below hbd_ own _) hbd_)
   clear HQ0 hbd_
   refine start_ (n := 37) (S := fun w' => True) (ds := []) (bitsA 37 0) dq24 rfl rfl trivial (fun hHeld => ?_); refine with_tabW net_of.tab23 net_of.bits23 (fun HT_ HW_ => ?_)
   generalize wc.drew = w40 at HQ1 hHeld ⊢
   refine pureA (i := 0) (N := some 135) (bitsA 37 1) ?_
   refine pureA (i := 1) (N := some 136) (bitsA 37 3) ?_
   refine pureA (i := 2) (N := some 137) (bitsA 37 7) ?_
   refine pureA (i := 3) (N := some 138) (bitsA 37 15) ?_
   refine pureA (i := 4) (N := some 139) (bitsA 37 31) ?_
   refine pureA (i := 5) (N := some 140) (bitsA 37 63) ?_
   refine pureA (i := 7) (N := some 142) (bitsA 37 191) ?_
   refine pureA (i := 8) (N := some 143) (bitsA 37 447) ?_
   refine pureA (i := 14) (N := some 149) (bitsA 37 16831) ?_
   refine pureA (i := 15) (N := some 150) (bitsA 37 49599) ?_
   refine pureA (i := 16) (N := some 151) (bitsA 37 115135) ?_
   refine pureA (i := 18) (N := some 153) (bitsA 37 377279) ?_
   refine pureA (i := 21) (N := some 156) (bitsA 37 2474431) ?_
   refine pureA (i := 22) (N := some 157) (bitsA 37 6668735) ?_
   refine pureA (i := 23) (N := some 158) (bitsA 37 15057343) ?_
   refine pureA (i := 25) (N := some 160) (bitsA 37 48611775) ?_
   refine inv_at [6, 9, 10, 11, 12, 13, 17, 19, 20, 24, 26, 27, 28, 29, 30, 31, 32, 33, 34, 35, 36] (fun a0_ b a w' => ∃ (g12 g19 g26 : Nat) (v13 v20 v27 : Value) (own : Tags), a = putSel a0_ b [(6, 141, .slice An N.nul.length cn), (9, 144, .agg #[.int .i64 kind, .string name, .slice A2 kids.length c2, .int .i64 occ]), (10, 145, .bool nb), (11, 146, .bool nb), (12, 147, .slice (some ⟨g12, 0, none⟩) 1 1), (13, 148, v13), (17, 152, .slice Af N.fst.length cf), (19, 154, .slice (some ⟨g19, 0, none⟩) 1 1), (20, 155, v20), (24, 159, .slice Ag N.lst.length cg), (26, 161, .slice (some ⟨g26, 0, none⟩) 1 1), (27, 162, v27), (28, 163, .pointer (some ⟨X, 0, none⟩)), (29, 164, .pointer (some ⟨X, 1, none⟩)), (31, 165, .pointer (some ⟨X, 0, none⟩)), (32, 166, .pointer (some ⟨X, 2, none⟩)), (34, 167, .pointer (some ⟨X, 0, none⟩)), (35, 168, .pointer (some ⟨X, 3, none⟩))] ∧ S23 (⟨w, X, gb, .slice (some ad) n c0, .slice An N.nul.length cn, .slice Af N.fst.length cf, .slice Ag N.lst.length cg, wv9, .slice Av fi.length cv, .slice Al6 la.length cl6, ms9, { N with fol := fol1 }, nb, fi, la, .cells #[.int .i64 kind, .string name, .slice A2 kids.length c2, .int .i64 occ] 42 (0, 0)⟩ : Fix) (b 12) (b 13) (b 19) (b 20) (b 26) (b 27) (b 30) (b 33) (b 36) g12 g19 g26 v13 v20 v27 own w') HT_.out HW_.out dq24 dq24 ?_ ?_ ?_
   ·exact ⟨0, 0, 0, .bool false, .bool false, .bool false, own, by simp only [putSel, Bool.false_eq_true, if_false], HQ1.out⟩
   ·clear HQ1
    refine steps_cons ?_ ?_
    ·rintro b a w' ⟨g12, g19, g26, v13, v20, v27, own, ha, h⟩ hb_ hon hoff
     refine ⟨_, rfl, fun K hK => ?_⟩
     have hx : w'.cell? ⟨X, 1, none⟩ = some (.slice An N.nul.length cn) := by have q_ := h.cell.1; rw [hoff 30 dq24] at q_; exact q_
     have e140 : a.tmps[140]? = some (.pointer (some ⟨X, 1, none⟩)) := by rw [ha]; exact (putSel_off rfl).trans rfl
     replace ha := Zq.i ha
     have HH := Zq.i h
     refine value_ (w1 := w') (v := .slice An N.nul.length cn) dq31 rfl ?_ ?_
     ·go_simp
      try rfl
     refine hK.out _ _ ⟨g12, g19, g26, v13, v20, v27, own, (by rw [ha.out]; exact putSel_upk 0 hb_ rfl rfl rfl), HH.out⟩
    refine steps_cons ?_ ?_
    ·rintro b a w' ⟨g12, g19, g26, v13, v20, v27, own, ha, h⟩ hb_ hon hoff
     refine ⟨_, rfl, fun K hK => ?_⟩
     have e143 : a.tmps[143]? = some (.bool false) := by rw [ha]; exact (putSel_off rfl).trans rfl
     have e5 : a.tmps[5]? = some (.pointer (some ⟨gb, 0, none⟩)) := by rw [ha]; exact (putSel_off rfl).trans rfl
     replace ha := Zq.i ha
     have HH := Zq.i h
     have hg0 : w'.cell? ⟨gb, 0, none⟩ = some (.int .i64 kind) := (blk_cell HH.out.box 0).trans rfl
     have hg1 : w'.cell? ⟨gb, 1, none⟩ = some (.string name) := (blk_cell HH.out.box 1).trans rfl
     have hg2 : w'.cell? ⟨gb, 2, none⟩ = some (.slice A2 kids.length c2) := (blk_cell HH.out.box 2).trans rfl
     have hg3 : w'.cell? ⟨gb, 3, none⟩ = some (.int .i64 occ) := (blk_cell HH.out.box 3).trans rfl
     refine value_ (w1 := w') (v := .agg #[.int .i64 kind, .string name, .slice A2 kids.length c2, .int .i64 occ]) (wanted_on (g := 8) (t := 143) rfl rfl rfl e143) rfl ?_ ?_
     ·go_simp
      try rfl
     refine hK.out _ _ ⟨g12, g19, g26, v13, v20, v27, own, (by rw [ha.out]; exact putSel_upk 1 hb_ rfl rfl rfl), HH.out⟩
    refine steps_cons ?_ ?_
    ·rintro b a w' ⟨g12, g19, g26, v13, v20, v27, own, ha, h⟩ hb_ hon hoff
     refine ⟨_, rfl, fun K hK => ?_⟩
     have e143 : a.tmps[143]? = some (.bool false) := by rw [ha]; exact (putSel_off rfl).trans rfl
     have e144 : a.tmps[144]? = some (.agg #[.int .i64 kind, .string name, .slice A2 kids.length c2, .int .i64 occ]) := by rw [ha]; exact putSel_on (e := (9, 144, .agg #[.int .i64 kind, .string name, .slice A2 kids.length c2, .int .i64 occ])) 1 rfl rfl (hon 9 dq24) rfl
     replace ha := Zq.i ha
     have HH := Zq.i h
     refine goes_ Try.func93 dq24 rfl #[.agg #[.int .i64 kind, .string name, .slice A2 kids.length c2, .int .i64 occ]] (wanted_on (g := 8) (t := 143) rfl rfl rfl e143) rfl rfl (by first | (simp only [List.map_toArray, List.map_cons, List.map_nil, Act.eval, Array.getD_eq_getD_getElem?, Option.getD_some, e144]; done) | (simp only [List.map_toArray, List.map_cons, List.map_nil, Act.eval, Array.getD_eq_getD_getElem?, Option.getD_some, e144]; rfl)) ?_
     with_reducible refine (impl_PNode_isOptional.calls kind name A2 c2 kids occ nb _ (Kd.C_below HI2.out HH.out.low) HL2.out HP2.out).mono ?_
     rintro e w41 ⟨rfl, hb9_⟩
     refine ⟨_, rfl, ?_⟩
     refine hK.out _ _ ⟨g12, g19, g26, v13, v20, v27, own, (by rw [ha.out]; exact putSel_upk 2 hb_ rfl rfl rfl), HH.out.quiet (Stp.below hb9_ own _) hb9_⟩
    refine steps_cons ?_ ?_
    ·rintro b a w' ⟨g12, g19, g26, v13, v20, v27, own, ha, h⟩ hb_ hon hoff
     refine ⟨_, rfl, fun K hK => ?_⟩
     have e143 : a.tmps[143]? = some (.bool false) := by rw [ha]; exact (putSel_off rfl).trans rfl
     have e145 : a.tmps[145]? = some (.bool nb) := by rw [ha]; exact putSel_on (e := (10, 145, .bool nb)) 2 rfl rfl (hon 10 dq24) rfl
     replace ha := Zq.i ha
     have HH := Zq.i h
     refine value_ (w1 := w') (v := .bool nb) dq31 rfl ?_ ?_
     ·go_simp
      try rfl
     refine hK.out _ _ ⟨g12, g19, g26, v13, v20, v27, own, (by rw [ha.out]; exact putSel_upk 3 hb_ rfl rfl rfl), HH.out⟩
    refine steps_cons ?_ ?_
    ·rintro b a w' ⟨g12, g19, g26, v13, v20, v27, own, ha, h⟩ hb_ hon hoff
     refine ⟨_, rfl, fun K hK => ?_⟩
     have e146 : a.tmps[146]? = some (.bool nb) := by rw [ha]; exact putSel_on (e := (11, 146, .bool nb)) 3 rfl rfl (hon 11 dq24) rfl
     replace ha := Zq.i ha
     have HH := Zq.i h
     refine value_ (w1 := w'.alloc (.cells #[.bool nb] 4 (0, 0))) (v := .slice (some ⟨w'.heap.size, 0, none⟩) 1 1) dq31 rfl ?_ ?_
     ·go_simp
      try rfl
     obtain ⟨own', h'⟩ := HH.out.b12 (w1 := w'.alloc (.cells #[.bool nb] 4 (0, 0))) rfl (blk_new w' _) (below_alloc (Below.refl _ _) _)
     refine hK.out _ _ ⟨w'.heap.size, g19, g26, v13, v20, v27, own', (by rw [ha.out]; exact putSel_upk 4 hb_ rfl rfl rfl), h'⟩
    refine steps_cons ?_ ?_
    ·rintro b a w' ⟨g12, g19, g26, v13, v20, v27, own, ha, h⟩ hb_ hon hoff
     refine ⟨_, rfl, fun K hK => ?_⟩
     have e30 : b 30 = false := hoff 30 dq24
     have hn_ : Kd.bool.R 4 w' w.heap.size (fun k => own k = 1) (.slice An N.nul.length cn) N.nul := by have q_ := h.n; rw [hb_] at q_; exact q_
     have hk_ := (h.k12 (hon 12 dq24) hb_).1
     have e141 : a.tmps[141]? = some (.slice An N.nul.length cn) := by rw [ha]; exact putSel_on (e := (6, 141, .slice An N.nul.length cn)) 0 rfl rfl (hon 6 dq24) rfl
     have e147 : a.tmps[147]? = some (.slice (some ⟨g12, 0, none⟩) 1 1) := by rw [ha]; exact putSel_on (e := (12, 147, .slice (some ⟨g12, 0, none⟩) 1 1)) 4 rfl rfl (hon 12 dq24) rfl
     replace ha := Zq.i ha
     have HH := Zq.i h
     refine app_bool_step (w0 := w) (W := w') (own := own) (v := .slice An N.nul.length cn) (t := 1) dq31 (.tmp 141) (.tmp 147) rfl N.nul nb (g := g12) (eval_of e141) (eval_of e147) hn_ hk_ HH.out.low (by have := HSZ.out.1; unfold LIMK at this; omega) ?_
     intro v w42 own' hv_ st_ hb9_
     have h' : S23 (⟨w, X, gb, .slice (some ad) n c0, .slice An N.nul.length cn, .slice Af N.fst.length cf, .slice Ag N.lst.length cg, wv9, .slice Av fi.length cv, .slice Al6 la.length cl6, ms9, { N with fol := fol1 }, nb, fi, la, .cells #[.int .i64 kind, .string name, .slice A2 kids.length c2, .int .i64 occ] 42 (0, 0)⟩ : Fix) (b 12) true (b 19) (b 20) (b 26) (b 27) (b 30) (b 33) (b 36) g12 g19 g26 v v20 v27 own' w42 := by rw [e30]; have q_ := HH.out; rw [hb_, e30] at q_; exact q_.a13 hv_ st_ hb9_
     refine hK.out _ _ ⟨g12, g19, g26, v, v20, v27, own', (by rw [ha.out]; exact putSel_upk 5 hb_ rfl rfl rfl), h'⟩
    refine steps_cons ?_ ?_
    ·rintro b a w' ⟨g12, g19, g26, v13, v20, v27, own, ha, h⟩ hb_ hon hoff
     refine ⟨_, rfl, fun K hK => ?_⟩
     have hx : w'.cell? ⟨X, 2, none⟩ = some (.slice Af N.fst.length cf) := by have q_ := h.cell.2.1; rw [hoff 33 dq24] at q_; exact q_
     have e151 : a.tmps[151]? = some (.pointer (some ⟨X, 2, none⟩)) := by rw [ha]; exact (putSel_off rfl).trans rfl
     replace ha := Zq.i ha
     have HH := Zq.i h
     refine value_ (w1 := w') (v := .slice Af N.fst.length cf) dq31 rfl ?_ ?_
     ·go_simp
      try rfl
     refine hK.out _ _ ⟨g12, g19, g26, v13, v20, v27, own, (by rw [ha.out]; exact putSel_upk 6 hb_ rfl rfl rfl), HH.out⟩
    refine steps_cons ?_ ?_
    ·rintro b a w' ⟨g12, g19, g26, v13, v20, v27, own, ha, h⟩ hb_ hon hoff
     refine ⟨_, rfl, fun K hK => ?_⟩
     have e153 : a.tmps[153]? = some (.slice Av fi.length cv) := by rw [ha]; exact (putSel_off rfl).trans rfl
     replace ha := Zq.i ha
     have HH := Zq.i h
     refine value_ (w1 := w'.alloc (.cells #[.slice Av fi.length cv] 33 (0, 0))) (v := .slice (some ⟨w'.heap.size, 0, none⟩) 1 1) dq31 rfl ?_ ?_
     ·go_simp
      try rfl
     obtain ⟨own', h'⟩ := HH.out.b19 (w1 := w'.alloc (.cells #[.slice Av fi.length cv] 33 (0, 0))) rfl (blk_new w' _) (below_alloc (Below.refl _ _) _)
     refine hK.out _ _ ⟨g12, w'.heap.size, g26, v13, v20, v27, own', (by rw [ha.out]; exact putSel_upk 7 hb_ rfl rfl rfl), h'⟩
    refine steps_cons ?_ ?_
    ·rintro b a w' ⟨g12, g19, g26, v13, v20, v27, own, ha, h⟩ hb_ hon hoff
     refine ⟨_, rfl, fun K hK => ?_⟩
     have e30 : b 33 = false := hoff 33 dq24
     have hn_ : krow.R 33 w' w.heap.size (fun k => own k = 2) (.slice Af N.fst.length cf) N.fst := by have q_ := h.f; rw [hb_] at q_; exact q_
     have hk_ := (h.k19 (hon 19 dq24) hb_).1
     have hy_ := h.rf hb_
     have e152 : a.tmps[152]? = some (.slice Af N.fst.length cf) := by rw [ha]; exact putSel_on (e := (17, 152, .slice Af N.fst.length cf)) 6 rfl rfl (hon 17 dq24) rfl
     have e154 : a.tmps[154]? = some (.slice (some ⟨g19, 0, none⟩) 1 1) := by rw [ha]; exact putSel_on (e := (19, 154, .slice (some ⟨g19, 0, none⟩) 1 1)) 7 rfl rfl (hon 19 dq24) rfl
     replace ha := Zq.i ha
     have HH := Zq.i h
     refine app_row_step (w0 := w) (W := w') (own := own) (v := .slice Af N.fst.length cf) (t := 2) dq31 (.tmp 152) (.tmp 154) rfl N.fst fi (g := g19) (u := 5) (vy := .slice Av fi.length cv) (eval_of e152) (eval_of e154) hn_ hk_ hy_ dq25 HH.out.low (by have := HSZ.out.2.1; unfold LIMK at this; omega) ?_
     intro v w42 own' hv_ st_ hb9_
     have h' : S23 (⟨w, X, gb, .slice (some ad) n c0, .slice An N.nul.length cn, .slice Af N.fst.length cf, .slice Ag N.lst.length cg, wv9, .slice Av fi.length cv, .slice Al6 la.length cl6, ms9, { N with fol := fol1 }, nb, fi, la, .cells #[.int .i64 kind, .string name, .slice A2 kids.length c2, .int .i64 occ] 42 (0, 0)⟩ : Fix) (b 12) (b 13) (b 19) true (b 26) (b 27) (b 30) (b 33) (b 36) g12 g19 g26 v13 v v27 own' w42 := by rw [e30]; have q_ := HH.out; rw [hb_, e30] at q_; exact q_.a20 hv_ st_ hb9_
     refine hK.out _ _ ⟨g12, g19, g26, v13, v, v27, own', (by rw [ha.out]; exact putSel_upk 8 hb_ rfl rfl rfl), h'⟩
    refine steps_cons ?_ ?_
    ·rintro b a w' ⟨g12, g19, g26, v13, v20, v27, own, ha, h⟩ hb_ hon hoff
     refine ⟨_, rfl, fun K hK => ?_⟩
     have hx : w'.cell? ⟨X, 3, none⟩ = some (.slice Ag N.lst.length cg) := by have q_ := h.cell.2.2.1; rw [hoff 36 dq24] at q_; exact q_
     have e158 : a.tmps[158]? = some (.pointer (some ⟨X, 3, none⟩)) := by rw [ha]; exact (putSel_off rfl).trans rfl
     replace ha := Zq.i ha
     have HH := Zq.i h
     refine value_ (w1 := w') (v := .slice Ag N.lst.length cg) dq31 rfl ?_ ?_
     ·go_simp
      try rfl
     refine hK.out _ _ ⟨g12, g19, g26, v13, v20, v27, own, (by rw [ha.out]; exact putSel_upk 9 hb_ rfl rfl rfl), HH.out⟩
    refine steps_cons ?_ ?_
    ·rintro b a w' ⟨g12, g19, g26, v13, v20, v27, own, ha, h⟩ hb_ hon hoff
     refine ⟨_, rfl, fun K hK => ?_⟩
     have e160 : a.tmps[160]? = some (.slice Al6 la.length cl6) := by rw [ha]; exact (putSel_off rfl).trans rfl
     replace ha := Zq.i ha
     have HH := Zq.i h
     refine value_ (w1 := w'.alloc (.cells #[.slice Al6 la.length cl6] 33 (0, 0))) (v := .slice (some ⟨w'.heap.size, 0, none⟩) 1 1) dq31 rfl ?_ ?_
     ·go_simp
      try rfl
     obtain ⟨own', h'⟩ := HH.out.b26 (w1 := w'.alloc (.cells #[.slice Al6 la.length cl6] 33 (0, 0))) rfl (blk_new w' _) (below_alloc (Below.refl _ _) _)
     refine hK.out _ _ ⟨g12, g19, w'.heap.size, v13, v20, v27, own', (by rw [ha.out]; exact putSel_upk 10 hb_ rfl rfl rfl), h'⟩
    refine steps_cons ?_ ?_
    ·rintro b a w' ⟨g12, g19, g26, v13, v20, v27, own, ha, h⟩ hb_ hon hoff
     refine ⟨_, rfl, fun K hK => ?_⟩
     have e30 : b 36 = false := hoff 36 dq24
     have hn_ : krow.R 33 w' w.heap.size (fun k => own k = 3) (.slice Ag N.lst.length cg) N.lst := by have q_ := h.l; rw [hb_] at q_; exact q_
     have hk_ := (h.k26 (hon 26 dq24) hb_).1
     have hy_ := h.rl hb_
     have e159 : a.tmps[159]? = some (.slice Ag N.lst.length cg) := by rw [ha]; exact putSel_on (e := (24, 159, .slice Ag N.lst.length cg)) 9 rfl rfl (hon 24 dq24) rfl
     have e161 : a.tmps[161]? = some (.slice (some ⟨g26, 0, none⟩) 1 1) := by rw [ha]; exact putSel_on (e := (26, 161, .slice (some ⟨g26, 0, none⟩) 1 1)) 10 rfl rfl (hon 26 dq24) rfl
     replace ha := Zq.i ha
     have HH := Zq.i h
     refine app_row_step (w0 := w) (W := w') (own := own) (v := .slice Ag N.lst.length cg) (t := 3) dq31 (.tmp 159) (.tmp 161) rfl N.lst la (g := g26) (u := 6) (vy := .slice Al6 la.length cl6) (eval_of e159) (eval_of e161) hn_ hk_ hy_ dq25 HH.out.low (by have := HSZ.out.2.2.1; unfold LIMK at this; omega) ?_
     intro v w42 own' hv_ st_ hb9_
     have h' : S23 (⟨w, X, gb, .slice (some ad) n c0, .slice An N.nul.length cn, .slice Af N.fst.length cf, .slice Ag N.lst.length cg, wv9, .slice Av fi.length cv, .slice Al6 la.length cl6, ms9, { N with fol := fol1 }, nb, fi, la, .cells #[.int .i64 kind, .string name, .slice A2 kids.length c2, .int .i64 occ] 42 (0, 0)⟩ : Fix) (b 12) (b 13) (b 19) (b 20) (b 26) true (b 30) (b 33) (b 36) g12 g19 g26 v13 v20 v own' w42 := by rw [e30]; have q_ := HH.out; rw [hb_, e30] at q_; exact q_.a27 hv_ st_ hb9_
     refine hK.out _ _ ⟨g12, g19, g26, v13, v20, v, own', (by rw [ha.out]; exact putSel_upk 11 hb_ rfl rfl rfl), h'⟩
    refine steps_cons ?_ ?_
    ·rintro b a w' ⟨g12, g19, g26, v13, v20, v27, own, ha, h⟩ hb_ hon hoff
     refine ⟨_, rfl, fun K hK => ?_⟩
     have e135 : a.tmps[135]? = some (.pointer (some ⟨X, 0, none⟩)) := by rw [ha]; exact (putSel_off rfl).trans rfl
     replace ha := Zq.i ha
     have HH := Zq.i h
     refine value_ (w1 := w') (v := .pointer (some ⟨X, 0, none⟩)) dq31 rfl ?_ ?_
     ·go_simp
      try rfl
     refine hK.out _ _ ⟨g12, g19, g26, v13, v20, v27, own, (by rw [ha.out]; exact putSel_upk 12 hb_ rfl rfl rfl), HH.out⟩
    refine steps_cons ?_ ?_
    ·rintro b a w' ⟨g12, g19, g26, v13, v20, v27, own, ha, h⟩ hb_ hon hoff
     refine ⟨_, rfl, fun K hK => ?_⟩
     have e163 : a.tmps[163]? = some (.pointer (some ⟨X, 0, none⟩)) := by rw [ha]; exact putSel_on (e := (28, 163, .pointer (some ⟨X, 0, none⟩))) 12 rfl rfl (hon 28 dq24) rfl
     replace ha := Zq.i ha
     have HH := Zq.i h
     refine value_ (w1 := w') (v := .pointer (some ⟨X, 1, none⟩)) dq31 rfl ?_ ?_
     ·go_simp
      try rfl
     refine hK.out _ _ ⟨g12, g19, g26, v13, v20, v27, own, (by rw [ha.out]; exact putSel_upk 13 hb_ rfl rfl rfl), HH.out⟩
    refine steps_cons ?_ ?_
    ·rintro b a w' ⟨g12, g19, g26, v13, v20, v27, own, ha, h⟩ hb_ hon hoff
     refine ⟨_, rfl, fun K hK => ?_⟩
     obtain ⟨A_, c_, ev_⟩ := Kd.R_slice (by have q_ := h.n; rw [hon 13 dq24] at q_; exact q_ : Kd.bool.R 4 w' w.heap.size (fun k => own k = 1) v13 (N.nul ++ [nb]))
     subst ev_
     have e164 : a.tmps[164]? = some (.pointer (some ⟨X, 1, none⟩)) := by rw [ha]; exact putSel_on (e := (29, 164, .pointer (some ⟨X, 1, none⟩))) 13 rfl rfl (hon 29 dq24) rfl
     have e148 : a.tmps[148]? = some ((.slice A_ (N.nul ++ [nb]).length c_)) := by rw [ha]; exact putSel_on (e := (13, 148, (.slice A_ (N.nul ++ [nb]).length c_))) 5 rfl rfl (hon 13 dq24) rfl
     have hx : w'.cell? ⟨X, 1, none⟩ = some (.slice An N.nul.length cn) := by have q_ := h.cell.1; rw [hb_] at q_; exact q_
     have hxf : w'.frozen? ⟨X, 1, none⟩ = false := h.cell.2.2.2 1
     replace ha := Zq.i ha
     have HH := Zq.i h
     clear h
     refine skip_ (w1 := w'.setCell ⟨X, 1, none⟩ (.slice A_ (N.nul ++ [nb]).length c_)) dq31 rfl ?_ ?_
     ·go_simp
      try rfl
     have h' : S23 (⟨w, X, gb, .slice (some ad) n c0, .slice An N.nul.length cn, .slice Af N.fst.length cf, .slice Ag N.lst.length cg, wv9, .slice Av fi.length cv, .slice Al6 la.length cl6, ms9, { N with fol := fol1 }, nb, fi, la, .cells #[.int .i64 kind, .string name, .slice A2 kids.length c2, .int .i64 occ] 42 (0, 0)⟩ : Fix) (b 12) (b 13) (b 19) (b 20) (b 26) (b 27) true (b 33) (b 36) g12 g19 g26 (.slice A_ (N.nul ++ [nb]).length c_) v20 v27 own (w'.setCell ⟨X, 1, none⟩ (.slice A_ (N.nul ++ [nb]).length c_)) := by have q_ := HH.out; rw [hb_] at q_; exact q_.p30
     refine hK.out _ _ ⟨g12, g19, g26, (.slice A_ (N.nul ++ [nb]).length c_), v20, v27, own, dq117, h'⟩
    refine steps_cons ?_ ?_
    ·rintro b a w' ⟨g12, g19, g26, v13, v20, v27, own, ha, h⟩ hb_ hon hoff
     refine ⟨_, rfl, fun K hK => ?_⟩
     have e136 : a.tmps[136]? = some (.pointer (some ⟨X, 0, none⟩)) := by rw [ha]; exact (putSel_off rfl).trans rfl
     replace ha := Zq.i ha
     have HH := Zq.i h
     refine value_ (w1 := w') (v := .pointer (some ⟨X, 0, none⟩)) dq31 rfl ?_ ?_
     ·go_simp
      try rfl
     refine hK.out _ _ ⟨g12, g19, g26, v13, v20, v27, own, (by rw [ha.out]; exact putSel_upk 14 hb_ rfl rfl rfl), HH.out⟩
    refine steps_cons ?_ ?_
    ·rintro b a w' ⟨g12, g19, g26, v13, v20, v27, own, ha, h⟩ hb_ hon hoff
     refine ⟨_, rfl, fun K hK => ?_⟩
     have e165 : a.tmps[165]? = some (.pointer (some ⟨X, 0, none⟩)) := by rw [ha]; exact putSel_on (e := (31, 165, .pointer (some ⟨X, 0, none⟩))) 14 rfl rfl (hon 31 dq24) rfl
     replace ha := Zq.i ha
     have HH := Zq.i h
     refine value_ (w1 := w') (v := .pointer (some ⟨X, 2, none⟩)) dq31 rfl ?_ ?_
     ·go_simp
      try rfl
     refine hK.out _ _ ⟨g12, g19, g26, v13, v20, v27, own, (by rw [ha.out]; exact putSel_upk 15 hb_ rfl rfl rfl), HH.out⟩
    refine steps_cons ?_ ?_
    ·rintro b a w' ⟨g12, g19, g26, v13, v20, v27, own, ha, h⟩ hb_ hon hoff
     refine ⟨_, rfl, fun K hK => ?_⟩
     obtain ⟨A_, c_, ev_⟩ := Kd.R_slice (by have q_ := h.f; rw [hon 20 dq24] at q_; exact q_ : krow.R 33 w' w.heap.size (fun k => own k = 2) v20 (N.fst ++ [fi]))
     subst ev_
     have e166 : a.tmps[166]? = some (.pointer (some ⟨X, 2, none⟩)) := by rw [ha]; exact putSel_on (e := (32, 166, .pointer (some ⟨X, 2, none⟩))) 15 rfl rfl (hon 32 dq24) rfl
     have e155 : a.tmps[155]? = some ((.slice A_ (N.fst ++ [fi]).length c_)) := by rw [ha]; exact putSel_on (e := (20, 155, (.slice A_ (N.fst ++ [fi]).length c_))) 8 rfl rfl (hon 20 dq24) rfl
     have hx : w'.cell? ⟨X, 2, none⟩ = some (.slice Af N.fst.length cf) := by have q_ := h.cell.2.1; rw [hb_] at q_; exact q_
     have hxf : w'.frozen? ⟨X, 2, none⟩ = false := h.cell.2.2.2 2
     replace ha := Zq.i ha
     have HH := Zq.i h
     clear h
     refine skip_ (w1 := w'.setCell ⟨X, 2, none⟩ (.slice A_ (N.fst ++ [fi]).length c_)) dq31 rfl ?_ ?_
     ·go_simp
      try rfl
     have h' : S23 (⟨w, X, gb, .slice (some ad) n c0, .slice An N.nul.length cn, .slice Af N.fst.length cf, .slice Ag N.lst.length cg, wv9, .slice Av fi.length cv, .slice Al6 la.length cl6, ms9, { N with fol := fol1 }, nb, fi, la, .cells #[.int .i64 kind, .string name, .slice A2 kids.length c2, .int .i64 occ] 42 (0, 0)⟩ : Fix) (b 12) (b 13) (b 19) (b 20) (b 26) (b 27) (b 30) true (b 36) g12 g19 g26 v13 (.slice A_ (N.fst ++ [fi]).length c_) v27 own (w'.setCell ⟨X, 2, none⟩ (.slice A_ (N.fst ++ [fi]).length c_)) := by have q_ := HH.out; rw [hb_] at q_; exact q_.p33
     refine hK.out _ _ ⟨g12, g19, g26, v13, (.slice A_ (N.fst ++ [fi]).length c_), v27, own, dq117, h'⟩
    refine steps_cons ?_ ?_
    ·rintro b a w' ⟨g12, g19, g26, v13, v20, v27, own, ha, h⟩ hb_ hon hoff
     refine ⟨_, rfl, fun K hK => ?_⟩
     have e137 : a.tmps[137]? = some (.pointer (some ⟨X, 0, none⟩)) := by rw [ha]; exact (putSel_off rfl).trans rfl
     replace ha := Zq.i ha
     have HH := Zq.i h
     refine value_ (w1 := w') (v := .pointer (some ⟨X, 0, none⟩)) dq31 rfl ?_ ?_
     ·go_simp
      try rfl
     refine hK.out _ _ ⟨g12, g19, g26, v13, v20, v27, own, (by rw [ha.out]; exact putSel_upk 16 hb_ rfl rfl rfl), HH.out⟩
    refine steps_cons ?_ ?_
    ·rintro b a w' ⟨g12, g19, g26, v13, v20, v27, own, ha, h⟩ hb_ hon hoff
     refine ⟨_, rfl, fun K hK => ?_⟩
     have e167 : a.tmps[167]? = some (.pointer (some ⟨X, 0, none⟩)) := by rw [ha]; exact putSel_on (e := (34, 167, .pointer (some ⟨X, 0, none⟩))) 16 rfl rfl (hon 34 dq24) rfl
     replace ha := Zq.i ha
     have HH := Zq.i h
     refine value_ (w1 := w') (v := .pointer (some ⟨X, 3, none⟩)) dq31 rfl ?_ ?_
     ·go_simp
      try rfl
     refine hK.out _ _ ⟨g12, g19, g26, v13, v20, v27, own, (by rw [ha.out]; exact putSel_upk 17 hb_ rfl rfl rfl), HH.out⟩
    refine steps_cons ?_ ?_
    ·rintro b a w' ⟨g12, g19, g26, v13, v20, v27, own, ha, h⟩ hb_ hon hoff
     refine ⟨_, rfl, fun K hK => ?_⟩
     obtain ⟨A_, c_, ev_⟩ := Kd.R_slice (by have q_ := h.l; rw [hon 27 dq24] at q_; exact q_ : krow.R 33 w' w.heap.size (fun k => own k = 3) v27 (N.lst ++ [la]))
     subst ev_
     have e168 : a.tmps[168]? = some (.pointer (some ⟨X, 3, none⟩)) := by rw [ha]; exact putSel_on (e := (35, 168, .pointer (some ⟨X, 3, none⟩))) 17 rfl rfl (hon 35 dq24) rfl
     have e162 : a.tmps[162]? = some ((.slice A_ (N.lst ++ [la]).length c_)) := by rw [ha]; exact putSel_on (e := (27, 162, (.slice A_ (N.lst ++ [la]).length c_))) 11 rfl rfl (hon 27 dq24) rfl
     have hx : w'.cell? ⟨X, 3, none⟩ = some (.slice Ag N.lst.length cg) := by have q_ := h.cell.2.2.1; rw [hb_] at q_; exact q_
     have hxf : w'.frozen? ⟨X, 3, none⟩ = false := h.cell.2.2.2 3
     replace ha := Zq.i ha
     have HH := Zq.i h
     clear h
     refine skip_ (w1 := w'.setCell ⟨X, 3, none⟩ (.slice A_ (N.lst ++ [la]).length c_)) dq31 rfl ?_ ?_
     ·go_simp
      try rfl
     have h' : S23 (⟨w, X, gb, .slice (some ad) n c0, .slice An N.nul.length cn, .slice Af N.fst.length cf, .slice Ag N.lst.length cg, wv9, .slice Av fi.length cv, .slice Al6 la.length cl6, ms9, { N with fol := fol1 }, nb, fi, la, .cells #[.int .i64 kind, .string name, .slice A2 kids.length c2, .int .i64 occ] 42 (0, 0)⟩ : Fix) (b 12) (b 13) (b 19) (b 20) (b 26) (b 27) (b 30) (b 33) true g12 g19 g26 v13 v20 (.slice A_ (N.lst ++ [la]).length c_) own (w'.setCell ⟨X, 3, none⟩ (.slice A_ (N.lst ++ [la]).length c_)) := by have q_ := HH.out; rw [hb_] at q_; exact q_.p36
     refine hK.out _ _ ⟨g12, g19, g26, v13, v20, (.slice A_ (N.lst ++ [la]).length c_), own, dq117, h'⟩
    exact steps_nil
   rintro b a w43 hall ⟨g12, g19, g26, v13, v20, v27, own, ha, h⟩
   clear HQ1
   have hb6_ := hall 6 dq24
   have hb9_ := hall 9 dq24
   have hb10_ := hall 10 dq24
   have hb11_ := hall 11 dq24
   have hb12_ := hall 12 dq24
   have hb13_ := hall 13 dq24
   have hb17_ := hall 17 dq24
   have hb19_ := hall 19 dq24
   have hb20_ := hall 20 dq24
   have hb24_ := hall 24 dq24
   have hb26_ := hall 26 dq24
   have hb27_ := hall 27 dq24
   have hb28_ := hall 28 dq24
   have hb29_ := hall 29 dq24
   have hb30_ := hall 30 dq24
   have hb31_ := hall 31 dq24
   have hb32_ := hall 32 dq24
   have hb33_ := hall 33 dq24
   have hb34_ := hall 34 dq24
   have hb35_ := hall 35 dq24
   have hb36_ := hall 36 dq24
   rw [hb12_, hb13_, hb19_, hb20_, hb26_, hb27_, hb30_, hb33_, hb36_] at h
   have hnw := Zq.i h.net
   have hlw := Zq.i h.low
   clear h
   subst ha
   simp only [putSel, hb6_, hb9_, hb10_, hb11_, hb12_, hb13_, hb17_, hb19_, hb20_, hb24_, hb26_, hb27_, hb28_, hb29_, hb31_, hb32_, hb34_, hb35_, if_true, Act.put, List.setIfInBounds_toArray, List.set_cons_zero, List.set_cons_succ]
   clear hall hb6_ hb9_ hb10_ hb11_ hb12_ hb13_ hb17_ hb19_ hb20_ hb24_ hb26_ hb27_ hb28_ hb29_ hb30_ hb31_ hb32_ hb33_ hb34_ hb35_ hb36_
   have hn3 := HN3.out
   rw [HNB.out] at hn3
   subst hn3
   go_wp2
   go_roundg (n - (i + 1))
   case measure => have := HGG.out; omega
   case rel => exact ⟨i + 1, _, own, v13, v20, v27, wv9, ms9, dq28, dq28, by go_num, HF1, hnw, hlw⟩
 have hjz : (j : Int) < (m : Int) := by omega
 have hlj : j < kids.length := by have := HM.out; omega
 obtain ⟨adk, e, hkc⟩ := Kd.at_int (Kd.C_below HI2.out L3.out) (j : Int) dq28 dq28
 subst e
 rw [Int.toNat_natCast] at hkc
 have hkf := KF.out
 rw [List.drop_eq_getElem_cons hlj] at hkf
 have hkr : kids[j] = rd kids (j : Int) := by unfold rd; rw [Int.toNat_natCast, List.getD_eq_getElem?_getD, List.getElem?_eq_getElem hlj]; rfl
 rw [hkr] at hkf
 generalize rd kids (j : Int) = k at hkc hkf
 unfold kidsF at hkf
 obtain ⟨q1, hq1, hks⟩ := Option.bind_eq_some_iff.1 hkf
 unfold kidF at hq1
 dsimp only at hq1
 by_cases hgu : (0 ≤ k ∧ k < N.nul.length ∧ k < N.fst.length ∧ k < N.lst.length) ∧ fi.length + (rdL N.fst k).length < LIMK ∧ la.length + (rdL N.lst k).length < LIMK
 rotate_left
 ·rw [if_neg hgu] at hq1
  cases hq1
 rw [if_pos hgu] at hq1
 obtain ⟨⟨k0, k1, k2, k3⟩, hl5, hl6⟩ := hgu
 obtain ⟨gn, cn, gf, cf, Af, af, gl, cl, Al, al, e1, hcn, hon, e2, hcf, hof, HRf, e3, hcl, hol, HRl⟩ := N3.out.kid k k0 k1 k2 k3
 subst e1
 subst e2
 subst e3
 obtain ⟨Av, cv, e4⟩ := Kd.R_slice R5.out
 obtain ⟨Al6, cl6, e5⟩ := Kd.R_slice R6.out
 subst e4
 subst e5
 have RF := Zq.i HRf
 have RL := Zq.i HRl
 have ON := Zq.i hon
 have OF := Zq.i hof
 have OL := Zq.i hol
 have HKS := Zq.i hks
 have HL5 := Zq.i hl5
 have HL6 := Zq.i hl6
 have HQ := Zq.i hq1
 have HGJ := Zq.i hgj
 have k1z : k < (N.nul.length : Int) := k1
 have k2z : k < (N.fst.length : Int) := k2
 have k3z : k < (N.lst.length : Int) := k3
 clear HRf HRl hon hof hol hks hl5 hl6 hq1 hkf hkr hlj hgj KF k1 k2 k3
 obtain ⟨-, hx1, hx2, hx3, -, -⟩ := N3.out.cellAt
 have hk0 : wr.cell? ⟨gb, 0, none⟩ = some (.int .i64 kind) := (blk_cell BX3.out 0).trans rfl
 by_cases c3 : kind = 3
 ·have c3b : (kind == 3) = true := bE c3
  go_upto_region 13 with (fail)
  cases nu with
  | true => as_aux_lemma =>
   replace N3 := Zq.i (N3.out.drew)
   replace O3 := Zq.i (O3.out)
   replace BX3 := Zq.i (blk_drew BX3.out)
   replace L3 := Zq.i (below_drew1 L3.out)
   replace R5 := Zq.i (Kd.R_drew R5.out)
   replace R6 := Zq.i (Kd.R_drew R6.out)
   replace RF := Zq.i (Kd.R_drew RF.out)
   replace RL := Zq.i (Kd.R_drew RL.out)
   refine start_ (n := 31) (S := fun w' => w'.cell? ⟨X, 1, none⟩ = some (.slice (some ⟨gn, 0, none⟩) N.nul.length cn) ∧ w'.cell? ⟨X, 2, none⟩ = some (.slice (some ⟨gf, 0, none⟩) N.fst.length cf) ∧ w'.cell? ⟨X, 3, none⟩ = some (.slice (some ⟨gl, 0, none⟩) N.lst.length cl) ∧ w'.cell? ⟨gn, k.toNat, none⟩ = some (.bool (rdOf false N.nul k)) ∧ w'.cell? ⟨gf, k.toNat, none⟩ = some (.slice Af (rdL N.fst k).length af) ∧ w'.cell? ⟨gl, k.toNat, none⟩ = some (.slice Al (rdL N.lst k).length al)) (ds := []) (bitsA 31 0) dq24 rfl rfl ⟨hx1, hx2, hx3, hcn, hcf, hcl⟩ (fun hHeld => ?_); refine with_tabW net_of.tab13 net_of.bits13 (fun HT_ HW_ => ?_)
   clear hx1 hx2 hx3 hcn hcf hcl hk0
   generalize wr.drew = w13 at N3 BX3 L3 R5 R6 RF RL hHeld ⊢
   refine pureA (i := 0) (N := some 52) (bitsA 31 1) ?_
   refine pureA (i := 1) (N := some 53) (bitsA 31 3) ?_
   refine pureN (i := 2) (N := some 54) (bitsA 31 7) ?_
   refine pureN (i := 3) (N := some 55) (bitsA 31 15) ?_
   refine pureN (i := 4) (N := some 56) (bitsA 31 31) ?_
   refine pureN (i := 5) (N := some 57) (bitsA 31 63) ?_
   refine pureN (i := 6) (N := some 58) (bitsA 31 127) ?_
   refine pureN (i := 7) (N := some 59) (bitsA 31 255) ?_
   refine pureN (i := 8) (N := some 60) (bitsA 31 511) ?_
   refine pureA (i := 9) (N := some 61) (bitsA 31 1023) ?_
   refine pureA (i := 10) (N := some 62) (bitsA 31 2047) ?_
   refine pureA (i := 11) (N := some 63) (bitsA 31 4095) ?_
   refine pureA (i := 12) (N := some 64) (bitsA 31 8191) ?_
   refine pureA (i := 13) (N := some 65) (bitsA 31 16383) ?_
   refine takeA6 (i := 14) (N := some 66) (bitsA 31 32767) ?_
   refine pureA (i := 15) (N := some 67) (bitsA 31 65535) ?_
   refine pureA (i := 16) (N := some 68) (bitsA 31 131071) ?_
   refine takeA6 (i := 17) (N := some 69) (bitsA 31 262143) ?_
   refine pureA (i := 19) (N := some 71) (bitsA 31 786431) ?_
   refine pureA (i := 20) (N := some 72) (bitsA 31 1835007) ?_
   refine pureA (i := 21) (N := some 73) (bitsA 31 3932159) ?_
   refine pureA (i := 22) (N := some 74) (bitsA 31 8126463) ?_
   refine takeA6 (i := 23) (N := some 75) (bitsA 31 16515071) ?_
   refine pureA (i := 24) (N := some 76) (bitsA 31 33292287) ?_
   refine pureA (i := 25) (N := some 77) (bitsA 31 66846719) ?_
   refine takeA6 (i := 26) (N := some 78) (bitsA 31 133955583) ?_
   refine one_ (i := 18) (N := some 70) (bitsA 31 134217727) rfl rfl (one_of HT_.out dq24) dq25 (fun K hK => ?_)
   refine app_ints_step (w0 := w) (W := w13) (own := own) (v := .slice Av fi.length cv) (t := 5) dq31 (.tmp 62) (.tmp 69) rfl fi (rdL N.fst k) (A := Af) (m := (rdL N.fst k).length) (c := af) rfl rfl R5.out (Kd.R_reads' RF.out).2.2 L3.out (by have := HL5.out; unfold LIMK at this; omega) ?_
   intro v70 w14 own14 hv_ st_ hb_
   obtain ⟨s1, s2, s3, s4, s5, s6⟩ := hHeld
   have XO := Zq.i N3.out.xo
   have HS_ := Zq.i (show (fun w' => w'.cell? ⟨X, 1, none⟩ = some (.slice (some ⟨gn, 0, none⟩) N.nul.length cn) ∧ w'.cell? ⟨X, 2, none⟩ = some (.slice (some ⟨gf, 0, none⟩) N.fst.length cf) ∧ w'.cell? ⟨X, 3, none⟩ = some (.slice (some ⟨gl, 0, none⟩) N.lst.length cl) ∧ w'.cell? ⟨gn, k.toNat, none⟩ = some (.bool (rdOf false N.nul k)) ∧ w'.cell? ⟨gf, k.toNat, none⟩ = some (.slice Af (rdL N.fst k).length af) ∧ w'.cell? ⟨gl, k.toNat, none⟩ = some (.slice Al (rdL N.lst k).length al)) w14 from ⟨st_.cell s1 dq115, st_.cell s2 dq115, st_.cell s3 dq115, st_.cell s4 dq114, st_.cell s5 dq113, st_.cell s6 dq112⟩)
   have z0_ := Zq.i (st_.net N3.out mine5)
   have z1_ := Zq.i ((st_.block BX3.out dq111).2.trans O3.out)
   have z2_ := Zq.i (st_.row R6.out dq25)
   have z3_ := Zq.i (st_.row RF.out dq25)
   have z4_ := Zq.i (st_.row RL.out dq25)
   have z5_ := Zq.i ((st_.block BX3.out dq111).1)
   have z6_ := Zq.i (hb_)
   have z7_ := Zq.i (hv_)
   have z8_ := Zq.i ((st_.tagc s4 dq114).trans ON.out)
   have z9_ := Zq.i ((st_.tagc s5 dq113).trans OF.out)
   have z10_ := Zq.i ((st_.tagc s6 dq112).trans OL.out)
   clear N3 O3 R6 RF RL BX3 L3 R5 ON OF OL
   have N3 := z0_
   have O3 := z1_
   have R6 := z2_
   have RF := z3_
   have RL := z4_
   have BX3 := z5_
   have L3 := z6_
   have R5 := z7_
   have ON := z8_
   have OF := z9_
   have OL := z10_
   clear z0_ z1_ z2_ z3_ z4_ z5_ z6_ z7_ z8_ z9_ z10_ s1 s2 s3 s4 s5 s6 XO st_ hv_ hb_
   refine hK.out _ _ HS_.out (fun hHeld => ?_)
   clear hK K
   refine norm_ (a' := ?_) ?_ ?_
   rotate_left
   ·exact (dAct : Act.put _ (some 70) _ = _)
   clear HS_
   refine one_ (i := 27) (N := some 79) (bitsA 31 268435455) rfl rfl (one_of HT_.out dq24) dq25 (fun K hK => ?_)
   refine app_ints_step (w0 := w) (W := w14) (own := own14) (v := .slice Al6 la.length cl6) (t := 6) dq31 (.tmp 71) (.tmp 78) rfl la (rdL N.lst k) (A := Al) (m := (rdL N.lst k).length) (c := al) rfl rfl R6.out (Kd.R_reads' RL.out).2.2 L3.out (by have := HL6.out; unfold LIMK at this; omega) ?_
   intro v79 w15 own15 hv_ st_ hb_
   obtain ⟨s1, s2, s3, s4, s5, s6⟩ := hHeld
   have XO := Zq.i N3.out.xo
   have HS_ := Zq.i (show (fun w' => w'.cell? ⟨X, 1, none⟩ = some (.slice (some ⟨gn, 0, none⟩) N.nul.length cn) ∧ w'.cell? ⟨X, 2, none⟩ = some (.slice (some ⟨gf, 0, none⟩) N.fst.length cf) ∧ w'.cell? ⟨X, 3, none⟩ = some (.slice (some ⟨gl, 0, none⟩) N.lst.length cl) ∧ w'.cell? ⟨gn, k.toNat, none⟩ = some (.bool (rdOf false N.nul k)) ∧ w'.cell? ⟨gf, k.toNat, none⟩ = some (.slice Af (rdL N.fst k).length af) ∧ w'.cell? ⟨gl, k.toNat, none⟩ = some (.slice Al (rdL N.lst k).length al)) w15 from ⟨st_.cell s1 dq115, st_.cell s2 dq115, st_.cell s3 dq115, st_.cell s4 dq114, st_.cell s5 dq113, st_.cell s6 dq112⟩)
   have z0_ := Zq.i (st_.net N3.out mine6)
   have z1_ := Zq.i ((st_.block BX3.out dq111).2.trans O3.out)
   have z2_ := Zq.i (st_.row R5.out dq25)
   have z3_ := Zq.i (st_.row RF.out dq25)
   have z4_ := Zq.i (st_.row RL.out dq25)
   have z5_ := Zq.i ((st_.block BX3.out dq111).1)
   have z6_ := Zq.i (hb_)
   have z7_ := Zq.i (hv_)
   have z8_ := Zq.i ((st_.tagc s4 dq114).trans ON.out)
   have z9_ := Zq.i ((st_.tagc s5 dq113).trans OF.out)
   have z10_ := Zq.i ((st_.tagc s6 dq112).trans OL.out)
   clear N3 O3 R5 RF RL BX3 L3 R6 ON OF OL
   have N3 := z0_
   have O3 := z1_
   have R5 := z2_
   have RF := z3_
   have RL := z4_
   have BX3 := z5_
   have L3 := z6_
   have R6 := z7_
   have ON := z8_
   have OF := z9_
   have OL := z10_
   clear z0_ z1_ z2_ z3_ z4_ z5_ z6_ z7_ z8_ z9_ z10_ s1 s2 s3 s4 s5 s6 XO st_ hv_ hb_
   refine hK.out _ _ HS_.out (fun hHeld => ?_)
   clear hK K
   refine norm_ (a' := ?_) ?_ ?_
   rotate_left
   ·exact (dAct : Act.put _ (some 79) _ = _)
   clear HS_
   refine pureA (i := 28) (N := some 6) (bitsA 31 536870911) ?_
   refine pureA (i := 29) (N := some 7) (bitsA 31 1073741823) ?_
   refine pureA (i := 30) (N := some 8) (bitsA 31 2147483647) ?_
   refine done_ (done_of HT_.out dq24) ?_
   have hq_ := HQ.out
   rw [if_pos c3] at hq_
   have hq2_ := oI hq_
   subst hq2_
   clear hq_ HQ
   go_wp2
   go_roundg (m - (j + 1))
   case measure => have := HGJ.out; omega
   case rel => exact ⟨j + 1, _, own15, _, _, dq28, dq28, dq31, rfl, rfl, by go_num, HKS, N3, O3, BX3, L3, R5, R6⟩
  | false => as_aux_lemma =>
   replace N3 := Zq.i (N3.out.drew)
   replace O3 := Zq.i (O3.out)
   replace BX3 := Zq.i (blk_drew BX3.out)
   replace L3 := Zq.i (below_drew1 L3.out)
   replace R5 := Zq.i (Kd.R_drew R5.out)
   replace R6 := Zq.i (Kd.R_drew R6.out)
   replace RF := Zq.i (Kd.R_drew RF.out)
   replace RL := Zq.i (Kd.R_drew RL.out)
   refine start_ (n := 31) (S := fun w' => w'.cell? ⟨X, 1, none⟩ = some (.slice (some ⟨gn, 0, none⟩) N.nul.length cn) ∧ w'.cell? ⟨X, 2, none⟩ = some (.slice (some ⟨gf, 0, none⟩) N.fst.length cf) ∧ w'.cell? ⟨X, 3, none⟩ = some (.slice (some ⟨gl, 0, none⟩) N.lst.length cl) ∧ w'.cell? ⟨gn, k.toNat, none⟩ = some (.bool (rdOf false N.nul k)) ∧ w'.cell? ⟨gf, k.toNat, none⟩ = some (.slice Af (rdL N.fst k).length af) ∧ w'.cell? ⟨gl, k.toNat, none⟩ = some (.slice Al (rdL N.lst k).length al)) (ds := []) (bitsA 31 0) dq24 rfl rfl ⟨hx1, hx2, hx3, hcn, hcf, hcl⟩ (fun hHeld => ?_); refine with_tabW net_of.tab13 net_of.bits13 (fun HT_ HW_ => ?_)
   clear hx1 hx2 hx3 hcn hcf hcl hk0
   generalize wr.drew = w13 at N3 BX3 L3 R5 R6 RF RL hHeld ⊢
   refine pureA (i := 0) (N := some 52) (bitsA 31 1) ?_
   refine pureA (i := 1) (N := some 53) (bitsA 31 3) ?_
   refine pureA (i := 2) (N := some 54) (bitsA 31 7) ?_
   refine pureA (i := 3) (N := some 55) (bitsA 31 15) ?_
   refine pureA (i := 4) (N := some 56) (bitsA 31 31) ?_
   refine takeA6 (i := 5) (N := some 57) (bitsA 31 63) ?_
   refine pureA (i := 6) (N := some 58) (bitsA 31 127) ?_
   refine pureA (i := 7) (N := some 59) (bitsA 31 255) ?_
   refine takeA6 (i := 8) (N := some 60) (bitsA 31 511) ?_
   refine pureA (i := 9) (N := some 61) (bitsA 31 1023) ?_
   refine pureA (i := 10) (N := some 62) (bitsA 31 2047) ?_
   refine pureA (i := 11) (N := some 63) (bitsA 31 4095) ?_
   refine pureA (i := 12) (N := some 64) (bitsA 31 8191) ?_
   refine pureA (i := 13) (N := some 65) (bitsA 31 16383) ?_
   refine takeA6 (i := 14) (N := some 66) (bitsA 31 32767) ?_
   refine pureA (i := 15) (N := some 67) (bitsA 31 65535) ?_
   refine pureA (i := 16) (N := some 68) (bitsA 31 131071) ?_
   refine takeA6 (i := 17) (N := some 69) (bitsA 31 262143) ?_
   refine pureA (i := 19) (N := some 71) (bitsA 31 786431) ?_
   refine pureA (i := 20) (N := some 72) (bitsA 31 1835007) ?_
   refine pureA (i := 21) (N := some 73) (bitsA 31 3932159) ?_
   refine pureA (i := 22) (N := some 74) (bitsA 31 8126463) ?_
   refine takeA6 (i := 23) (N := some 75) (bitsA 31 16515071) ?_
   refine pureA (i := 24) (N := some 76) (bitsA 31 33292287) ?_
   refine pureA (i := 25) (N := some 77) (bitsA 31 66846719) ?_
   refine takeA6 (i := 26) (N := some 78) (bitsA 31 133955583) ?_
   refine one_ (i := 18) (N := some 70) (bitsA 31 134217727) rfl rfl (one_of HT_.out dq24) dq25 (fun K hK => ?_)
   refine app_ints_step (w0 := w) (W := w13) (own := own) (v := .slice Av fi.length cv) (t := 5) dq31 (.tmp 62) (.tmp 69) rfl fi (rdL N.fst k) (A := Af) (m := (rdL N.fst k).length) (c := af) rfl rfl R5.out (Kd.R_reads' RF.out).2.2 L3.out (by have := HL5.out; unfold LIMK at this; omega) ?_
   intro v70 w14 own14 hv_ st_ hb_
   obtain ⟨s1, s2, s3, s4, s5, s6⟩ := hHeld
   have XO := Zq.i N3.out.xo
   have HS_ := Zq.i (show (fun w' => w'.cell? ⟨X, 1, none⟩ = some (.slice (some ⟨gn, 0, none⟩) N.nul.length cn) ∧ w'.cell? ⟨X, 2, none⟩ = some (.slice (some ⟨gf, 0, none⟩) N.fst.length cf) ∧ w'.cell? ⟨X, 3, none⟩ = some (.slice (some ⟨gl, 0, none⟩) N.lst.length cl) ∧ w'.cell? ⟨gn, k.toNat, none⟩ = some (.bool (rdOf false N.nul k)) ∧ w'.cell? ⟨gf, k.toNat, none⟩ = some (.slice Af (rdL N.fst k).length af) ∧ w'.cell? ⟨gl, k.toNat, none⟩ = some (.slice Al (rdL N.lst k).length al)) w14 from ⟨st_.cell s1 dq115, st_.cell s2 dq115, st_.cell s3 dq115, st_.cell s4 dq114, st_.cell s5 dq113, st_.cell s6 dq112⟩)
   have z0_ := Zq.i (st_.net N3.out mine5)
   have z1_ := Zq.i ((st_.block BX3.out dq111).2.trans O3.out)
   have z2_ := Zq.i (st_.row R6.out dq25)
   have z3_ := Zq.i (st_.row RF.out dq25)
   have z4_ := Zq.i (st_.row RL.out dq25)
   have z5_ := Zq.i ((st_.block BX3.out dq111).1)
   have z6_ := Zq.i (hb_)
   have z7_ := Zq.i (hv_)
   have z8_ := Zq.i ((st_.tagc s4 dq114).trans ON.out)
   have z9_ := Zq.i ((st_.tagc s5 dq113).trans OF.out)
   have z10_ := Zq.i ((st_.tagc s6 dq112).trans OL.out)
   clear N3 O3 R6 RF RL BX3 L3 R5 ON OF OL
   have N3 := z0_
   have O3 := z1_
   have R6 := z2_
   have RF := z3_
   have RL := z4_
   have BX3 := z5_
   have L3 := z6_
   have R5 := z7_
   have ON := z8_
   have OF := z9_
   have OL := z10_
   clear z0_ z1_ z2_ z3_ z4_ z5_ z6_ z7_ z8_ z9_ z10_ s1 s2 s3 s4 s5 s6 XO st_ hv_ hb_
   refine hK.out _ _ HS_.out (fun hHeld => ?_)
   clear hK K
   refine norm_ (a' := ?_) ?_ ?_
   rotate_left
   ·exact (dAct : Act.put _ (some 70) _ = _)
   clear HS_
   refine one_ (i := 27) (N := some 79) (bitsA 31 268435455) rfl rfl (one_of HT_.out dq24) dq25 (fun K hK => ?_)
   refine app_ints_step (w0 := w) (W := w14) (own := own14) (v := .slice Al6 la.length cl6) (t := 6) dq31 (.tmp 71) (.tmp 78) rfl la (rdL N.lst k) (A := Al) (m := (rdL N.lst k).length) (c := al) rfl rfl R6.out (Kd.R_reads' RL.out).2.2 L3.out (by have := HL6.out; unfold LIMK at this; omega) ?_
   intro v79 w15 own15 hv_ st_ hb_
   obtain ⟨s1, s2, s3, s4, s5, s6⟩ := hHeld
   have XO := Zq.i N3.out.xo
   have HS_ := Zq.i (show (fun w' => w'.cell? ⟨X, 1, none⟩ = some (.slice (some ⟨gn, 0, none⟩) N.nul.length cn) ∧ w'.cell? ⟨X, 2, none⟩ = some (.slice (some ⟨gf, 0, none⟩) N.fst.length cf) ∧ w'.cell? ⟨X, 3, none⟩ = some (.slice (some ⟨gl, 0, none⟩) N.lst.length cl) ∧ w'.cell? ⟨gn, k.toNat, none⟩ = some (.bool (rdOf false N.nul k)) ∧ w'.cell? ⟨gf, k.toNat, none⟩ = some (.slice Af (rdL N.fst k).length af) ∧ w'.cell? ⟨gl, k.toNat, none⟩ = some (.slice Al (rdL N.lst k).length al)) w15 from ⟨st_.cell s1 dq115, st_.cell s2 dq115, st_.cell s3 dq115, st_.cell s4 dq114, st_.cell s5 dq113, st_.cell s6 dq112⟩)
   have z0_ := Zq.i (st_.net N3.out mine6)
   have z1_ := Zq.i ((st_.block BX3.out dq111).2.trans O3.out)
   have z2_ := Zq.i (st_.row R5.out dq25)
   have z3_ := Zq.i (st_.row RF.out dq25)
   have z4_ := Zq.i (st_.row RL.out dq25)
   have z5_ := Zq.i ((st_.block BX3.out dq111).1)
   have z6_ := Zq.i (hb_)
   have z7_ := Zq.i (hv_)
   have z8_ := Zq.i ((st_.tagc s4 dq114).trans ON.out)
   have z9_ := Zq.i ((st_.tagc s5 dq113).trans OF.out)
   have z10_ := Zq.i ((st_.tagc s6 dq112).trans OL.out)
   clear N3 O3 R5 RF RL BX3 L3 R6 ON OF OL
   have N3 := z0_
   have O3 := z1_
   have R5 := z2_
   have RF := z3_
   have RL := z4_
   have BX3 := z5_
   have L3 := z6_
   have R6 := z7_
   have ON := z8_
   have OF := z9_
   have OL := z10_
   clear z0_ z1_ z2_ z3_ z4_ z5_ z6_ z7_ z8_ z9_ z10_ s1 s2 s3 s4 s5 s6 XO st_ hv_ hb_
   refine hK.out _ _ HS_.out (fun hHeld => ?_)
   clear hK K
   refine norm_ (a' := ?_) ?_ ?_
   rotate_left
   ·exact (dAct : Act.put _ (some 79) _ = _)
   clear HS_
   refine pureA (i := 28) (N := some 6) (bitsA 31 536870911) ?_
   refine pureA (i := 29) (N := some 7) (bitsA 31 1073741823) ?_
   refine pureA (i := 30) (N := some 8) (bitsA 31 2147483647) ?_
   refine done_ (done_of HT_.out dq24) ?_
   have hq_ := HQ.out
   rw [if_pos c3] at hq_
   have hq2_ := oI hq_
   subst hq2_
   clear hq_ HQ
   go_wp2
   go_roundg (m - (j + 1))
   case measure => have := HGJ.out; omega
   case rel => exact ⟨j + 1, _, own15, _, _, dq28, dq28, dq31, rfl, rfl, by go_num, HKS, N3, O3, BX3, L3, R5, R6⟩
 have c3b : (kind == 3) = false := bN c3
 have hq1 := HQ.out
 rw [if_neg c3] at hq1
 by_cases hgl : (∀ a ∈ la, 0 ≤ a ∧ a < (fol.length : Int)) ∧ ∀ b ∈ rdL N.fst k, 0 ≤ b ∧ b < 4096
 rotate_left
 ·rw [if_neg hgl] at hq1
  cases hq1
 rw [if_pos hgl] at hq1
 have hq2 := oI hq1
 obtain ⟨nk, hnk⟩ : ∃ b, rdOf false N.nul k = b := ⟨_, rfl⟩
 rw [hnk] at hcn hq2
 have HQ2 := Zq.i hq2
 have HGL := Zq.i hgl
 clear hq1 hq2 hgl hnk HQ
 cases nu <;> cases nk
 ·as_aux_lemma =>
  go_upto_region 19 with (first | ((with_reducible refine gate_callee (f := 91) rfl ?_); refine goesL_ (some 89) rfl rfl Try.func91 dq24 rfl #[.pointer (some ⟨X, 0, none⟩), .slice Al6 la.length cl6, .slice Af (rdL N.fst k).length af] rfl dq42 ?_; (with_reducible refine (net_lead w wr X own _ _ _ _ wv9 { N with fol := fol } ms9 la (rdL N.fst k) Al6 Af cl6 af N3.out (Kd.R_reads' R6.out).2.2 (Kd.R_reads' R6.out).2.1 (Kd.R_reads' RF.out).2.2 (Kd.R_reads' RF.out).2.1 HGL.out.1 HGL.out.2 L3.out).mono ?_); rintro e w14 ⟨rfl, hn_, hk_, hb_⟩; refine ⟨_, rfl, ?_⟩; have st_ : Stp wr w14 own own (fun q => q = 8) := Stp.of_kept hk_; have zc1 := st_.cell hcn dq114; have zc2 := st_.cell hcf dq113; have zc3 := st_.cell hcl dq112; have z0_ := Zq.i (hn_); have z1_ := Zq.i ((st_.block BX3.out dq111).2.trans O3.out); have z2_ := Zq.i (st_.row R5.out dq25); have z3_ := Zq.i (st_.row R6.out dq25); have z4_ := Zq.i (st_.row RF.out dq25); have z5_ := Zq.i (st_.row RL.out dq25); have z6_ := Zq.i ((st_.block BX3.out dq111).1); have z7_ := Zq.i (hb_); clear N3 O3 R5 R6 RF RL BX3 L3; have N3 := z0_; have O3 := z1_; have R5 := z2_; have R6 := z3_; have RF := z4_; have RL := z5_; have BX3 := z6_; have L3 := z7_; clear z0_ z1_ z2_ z3_ z4_ z5_ z6_ z7_; clear hn_ hk_ st_ hb_ hcn hcf hcl hx1 hx2 hx3 hk0; have hcn := zc1; have hcf := zc2; have hcl := zc3; clear zc1 zc2 zc3; obtain ⟨-, hx1, hx2, hx3, -, -⟩ := N3.out.cellAt))
  clear R6
  have R6 := Zq.i (Kd.R_nil (Kd.int .i64) 2 w14 w.heap.size (fun q => own q = 6))
  replace N3 := Zq.i (N3.out.drew)
  replace O3 := Zq.i (O3.out)
  replace BX3 := Zq.i (blk_drew BX3.out)
  replace L3 := Zq.i (below_drew1 L3.out)
  replace R5 := Zq.i (Kd.R_drew R5.out)
  replace R6 := Zq.i (Kd.R_drew R6.out)
  replace RF := Zq.i (Kd.R_drew RF.out)
  replace RL := Zq.i (Kd.R_drew RL.out)
  refine start_ (n := 22) (S := fun w' => w'.cell? ⟨X, 1, none⟩ = some (.slice (some ⟨gn, 0, none⟩) N.nul.length cn) ∧ w'.cell? ⟨X, 2, none⟩ = some (.slice (some ⟨gf, 0, none⟩) N.fst.length cf) ∧ w'.cell? ⟨X, 3, none⟩ = some (.slice (some ⟨gl, 0, none⟩) N.lst.length cl) ∧ w'.cell? ⟨gn, k.toNat, none⟩ = some (.bool false) ∧ w'.cell? ⟨gf, k.toNat, none⟩ = some (.slice Af (rdL N.fst k).length af) ∧ w'.cell? ⟨gl, k.toNat, none⟩ = some (.slice Al (rdL N.lst k).length al)) (ds := []) (bitsA 22 0) dq24 rfl rfl ⟨hx1, hx2, hx3, hcn, hcf, hcl⟩ (fun hHeld => ?_); refine with_tabW net_of.tab19 net_of.bits19 (fun HT_ HW_ => ?_)
  clear hx1 hx2 hx3 hcn hcf hcl
  generalize w14.drew = w19 at N3 BX3 L3 R5 R6 RF RL hHeld ⊢
  refine pureA (i := 0) (N := some 108) (bitsA 22 1) ?_
  refine pureA (i := 1) (N := some 109) (bitsA 22 3) ?_
  refine pureN (i := 2) (N := some 110) (bitsA 22 7) ?_
  refine pureN (i := 3) (N := some 111) (bitsA 22 15) ?_
  refine pureN (i := 4) (N := some 112) (bitsA 22 31) ?_
  refine pureN (i := 5) (N := some 113) (bitsA 22 63) ?_
  refine pureN (i := 6) (N := some 114) (bitsA 22 127) ?_
  refine pureN (i := 7) (N := some 115) (bitsA 22 255) ?_
  refine pureN (i := 8) (N := some 116) (bitsA 22 511) ?_
  refine pureA (i := 9) (N := some 117) (bitsA 22 1023) ?_
  refine pureA (i := 10) (N := some 118) (bitsA 22 2047) ?_
  refine pureA (i := 12) (N := some 120) (bitsA 22 6143) ?_
  refine pureA (i := 13) (N := some 121) (bitsA 22 14335) ?_
  refine pureA (i := 14) (N := some 122) (bitsA 22 30719) ?_
  refine takeA6 (i := 15) (N := some 123) (bitsA 22 63487) ?_
  refine pureA (i := 16) (N := some 124) (bitsA 22 129023) ?_
  refine pureA (i := 17) (N := some 125) (bitsA 22 260095) ?_
  refine takeA6 (i := 18) (N := some 126) (bitsA 22 522239) ?_
  refine one_ (i := 11) (N := some 119) (bitsA 22 524287) rfl rfl (one_of HT_.out dq24) dq25 (fun K hK => ?_)
  refine goes_ Try.func81 dq24 rfl #[.slice none 0 0] dq31 rfl rfl dq42 ?_
  refine (clone_ints none 0 ([] : List Int) _ (Kd.R_reads' R6.out).2.2 (Kd.R_reads' R6.out).2.1 dq25).mono ?_
  rintro e w20 ⟨v119, rfl, hr_, hb_⟩
  refine ⟨_, rfl, ?_⟩
  obtain ⟨own20, hv_, st_⟩ := fresh_row hr_ hb_ L3.out.size own 6
  obtain ⟨s1, s2, s3, s4, s5, s6⟩ := hHeld
  have HS_ := Zq.i (show (fun w' => w'.cell? ⟨X, 1, none⟩ = some (.slice (some ⟨gn, 0, none⟩) N.nul.length cn) ∧ w'.cell? ⟨X, 2, none⟩ = some (.slice (some ⟨gf, 0, none⟩) N.fst.length cf) ∧ w'.cell? ⟨X, 3, none⟩ = some (.slice (some ⟨gl, 0, none⟩) N.lst.length cl) ∧ w'.cell? ⟨gn, k.toNat, none⟩ = some (.bool false) ∧ w'.cell? ⟨gf, k.toNat, none⟩ = some (.slice Af (rdL N.fst k).length af) ∧ w'.cell? ⟨gl, k.toNat, none⟩ = some (.slice Al (rdL N.lst k).length al)) w20 from ⟨st_.cell s1 (fun h => h), st_.cell s2 (fun h => h), st_.cell s3 (fun h => h), st_.cell s4 (fun h => h), st_.cell s5 (fun h => h), st_.cell s6 (fun h => h)⟩)
  replace N3 := Zq.i (st_.net N3.out (fun _ _ h => h))
  replace O3 := Zq.i ((st_.block BX3.out (fun h => h)).2.trans O3.out)
  replace R5 := Zq.i (st_.row R5.out (fun h => h))
  replace RF := Zq.i (st_.row RF.out (fun h => h))
  replace RL := Zq.i (st_.row RL.out (fun h => h))
  replace BX3 := Zq.i ((st_.block BX3.out (fun h => h)).1)
  replace L3 := Zq.i (below_step L3.out hb_)
  replace R6 := Zq.i (hv_)
  replace ON := Zq.i ((st_.tagc s4 (fun h => h)).trans ON.out)
  replace OF := Zq.i ((st_.tagc s5 (fun h => h)).trans OF.out)
  replace OL := Zq.i ((st_.tagc s6 (fun h => h)).trans OL.out)
  clear s1 s2 s3 s4 s5 s6 st_ hv_ hb_ hr_
  refine hK.out _ _ HS_.out (fun hHeld => ?_)
  clear hK K
  refine norm_ (a' := ?_) ?_ ?_
  rotate_left
  ·exact (dAct : Act.put _ (some 119) _ = _)
  clear HS_
  refine one_ (i := 19) (N := some 127) (bitsA 22 1048575) rfl rfl (one_of HT_.out dq24) dq25 (fun K hK => ?_)
  refine app_ints_step (w0 := w) (W := w20) (own := own20) (v := v119) (t := 6) dq31 (.tmp 119) (.tmp 126) rfl ([] : List Int) (rdL N.lst k) (A := Al) (m := (rdL N.lst k).length) (c := al) rfl rfl R6.out (Kd.R_reads' RL.out).2.2 L3.out dq116 ?_
  intro v127 w21 own21 hv_ st_ hb_
  obtain ⟨s1, s2, s3, s4, s5, s6⟩ := hHeld
  have XO := Zq.i N3.out.xo
  have HS_ := Zq.i (show (fun w' => w'.cell? ⟨X, 1, none⟩ = some (.slice (some ⟨gn, 0, none⟩) N.nul.length cn) ∧ w'.cell? ⟨X, 2, none⟩ = some (.slice (some ⟨gf, 0, none⟩) N.fst.length cf) ∧ w'.cell? ⟨X, 3, none⟩ = some (.slice (some ⟨gl, 0, none⟩) N.lst.length cl) ∧ w'.cell? ⟨gn, k.toNat, none⟩ = some (.bool false) ∧ w'.cell? ⟨gf, k.toNat, none⟩ = some (.slice Af (rdL N.fst k).length af) ∧ w'.cell? ⟨gl, k.toNat, none⟩ = some (.slice Al (rdL N.lst k).length al)) w21 from ⟨st_.cell s1 dq115, st_.cell s2 dq115, st_.cell s3 dq115, st_.cell s4 dq114, st_.cell s5 dq113, st_.cell s6 dq112⟩)
  have z0_ := Zq.i (st_.net N3.out mine6)
  have z1_ := Zq.i ((st_.block BX3.out dq111).2.trans O3.out)
  have z2_ := Zq.i (st_.row R5.out dq25)
  have z3_ := Zq.i (st_.row RF.out dq25)
  have z4_ := Zq.i (st_.row RL.out dq25)
  have z5_ := Zq.i ((st_.block BX3.out dq111).1)
  have z6_ := Zq.i (hb_)
  have z7_ := Zq.i (hv_)
  have z8_ := Zq.i ((st_.tagc s4 dq114).trans ON.out)
  have z9_ := Zq.i ((st_.tagc s5 dq113).trans OF.out)
  have z10_ := Zq.i ((st_.tagc s6 dq112).trans OL.out)
  clear N3 O3 R5 RF RL BX3 L3 R6 ON OF OL
  have N3 := z0_
  have O3 := z1_
  have R5 := z2_
  have RF := z3_
  have RL := z4_
  have BX3 := z5_
  have L3 := z6_
  have R6 := z7_
  have ON := z8_
  have OF := z9_
  have OL := z10_
  clear z0_ z1_ z2_ z3_ z4_ z5_ z6_ z7_ z8_ z9_ z10_ s1 s2 s3 s4 s5 s6 XO st_ hv_ hb_
  refine hK.out _ _ HS_.out (fun hHeld => ?_)
  clear hK K
  refine norm_ (a' := ?_) ?_ ?_
  rotate_left
  ·exact (dAct : Act.put _ (some 127) _ = _)
  clear HS_
  refine pureA (i := 20) (N := some 6) (bitsA 22 2097151) ?_
  refine pureA (i := 21) (N := some 8) (bitsA 22 4194303) ?_
  refine done_ (done_of HT_.out dq24) ?_
  have hq_ := HQ2.out
  subst hq_
  clear HQ2
  go_wp2
  go_roundg (m - (j + 1))
  case measure => have := HGJ.out; omega
  case rel => exact ⟨j + 1, _, own21, _, _, dq28, dq28, dq31, rfl, rfl, by go_num, HKS, N3, O3, BX3, L3, R5, R6⟩
 ·as_aux_lemma =>
  go_upto_region 19 with (first | ((with_reducible refine gate_callee (f := 91) rfl ?_); refine goesL_ (some 89) rfl rfl Try.func91 dq24 rfl #[.pointer (some ⟨X, 0, none⟩), .slice Al6 la.length cl6, .slice Af (rdL N.fst k).length af] rfl dq42 ?_; (with_reducible refine (net_lead w wr X own _ _ _ _ wv9 { N with fol := fol } ms9 la (rdL N.fst k) Al6 Af cl6 af N3.out (Kd.R_reads' R6.out).2.2 (Kd.R_reads' R6.out).2.1 (Kd.R_reads' RF.out).2.2 (Kd.R_reads' RF.out).2.1 HGL.out.1 HGL.out.2 L3.out).mono ?_); rintro e w14 ⟨rfl, hn_, hk_, hb_⟩; refine ⟨_, rfl, ?_⟩; have st_ : Stp wr w14 own own (fun q => q = 8) := Stp.of_kept hk_; have zc1 := st_.cell hcn dq114; have zc2 := st_.cell hcf dq113; have zc3 := st_.cell hcl dq112; have z0_ := Zq.i (hn_); have z1_ := Zq.i ((st_.block BX3.out dq111).2.trans O3.out); have z2_ := Zq.i (st_.row R5.out dq25); have z3_ := Zq.i (st_.row R6.out dq25); have z4_ := Zq.i (st_.row RF.out dq25); have z5_ := Zq.i (st_.row RL.out dq25); have z6_ := Zq.i ((st_.block BX3.out dq111).1); have z7_ := Zq.i (hb_); clear N3 O3 R5 R6 RF RL BX3 L3; have N3 := z0_; have O3 := z1_; have R5 := z2_; have R6 := z3_; have RF := z4_; have RL := z5_; have BX3 := z6_; have L3 := z7_; clear z0_ z1_ z2_ z3_ z4_ z5_ z6_ z7_; clear hn_ hk_ st_ hb_ hcn hcf hcl hx1 hx2 hx3 hk0; have hcn := zc1; have hcf := zc2; have hcl := zc3; clear zc1 zc2 zc3; obtain ⟨-, hx1, hx2, hx3, -, -⟩ := N3.out.cellAt))
  replace N3 := Zq.i (N3.out.drew)
  replace O3 := Zq.i (O3.out)
  replace BX3 := Zq.i (blk_drew BX3.out)
  replace L3 := Zq.i (below_drew1 L3.out)
  replace R5 := Zq.i (Kd.R_drew R5.out)
  replace R6 := Zq.i (Kd.R_drew R6.out)
  replace RF := Zq.i (Kd.R_drew RF.out)
  replace RL := Zq.i (Kd.R_drew RL.out)
  refine start_ (n := 22) (S := fun w' => w'.cell? ⟨X, 1, none⟩ = some (.slice (some ⟨gn, 0, none⟩) N.nul.length cn) ∧ w'.cell? ⟨X, 2, none⟩ = some (.slice (some ⟨gf, 0, none⟩) N.fst.length cf) ∧ w'.cell? ⟨X, 3, none⟩ = some (.slice (some ⟨gl, 0, none⟩) N.lst.length cl) ∧ w'.cell? ⟨gn, k.toNat, none⟩ = some (.bool true) ∧ w'.cell? ⟨gf, k.toNat, none⟩ = some (.slice Af (rdL N.fst k).length af) ∧ w'.cell? ⟨gl, k.toNat, none⟩ = some (.slice Al (rdL N.lst k).length al)) (ds := []) (bitsA 22 0) dq24 rfl rfl ⟨hx1, hx2, hx3, hcn, hcf, hcl⟩ (fun hHeld => ?_); refine with_tabW net_of.tab19 net_of.bits19 (fun HT_ HW_ => ?_)
  clear hx1 hx2 hx3 hcn hcf hcl
  generalize w14.drew = w19 at N3 BX3 L3 R5 R6 RF RL hHeld ⊢
  refine pureA (i := 0) (N := some 108) (bitsA 22 1) ?_
  refine pureA (i := 1) (N := some 109) (bitsA 22 3) ?_
  refine pureN (i := 2) (N := some 110) (bitsA 22 7) ?_
  refine pureN (i := 3) (N := some 111) (bitsA 22 15) ?_
  refine pureN (i := 4) (N := some 112) (bitsA 22 31) ?_
  refine pureN (i := 5) (N := some 113) (bitsA 22 63) ?_
  refine pureN (i := 6) (N := some 114) (bitsA 22 127) ?_
  refine pureN (i := 7) (N := some 115) (bitsA 22 255) ?_
  refine pureN (i := 8) (N := some 116) (bitsA 22 511) ?_
  refine pureA (i := 9) (N := some 117) (bitsA 22 1023) ?_
  refine pureA (i := 10) (N := some 118) (bitsA 22 2047) ?_
  refine pureA (i := 12) (N := some 120) (bitsA 22 6143) ?_
  refine pureA (i := 13) (N := some 121) (bitsA 22 14335) ?_
  refine pureA (i := 14) (N := some 122) (bitsA 22 30719) ?_
  refine takeA6 (i := 15) (N := some 123) (bitsA 22 63487) ?_
  refine pureA (i := 16) (N := some 124) (bitsA 22 129023) ?_
  refine pureA (i := 17) (N := some 125) (bitsA 22 260095) ?_
  refine takeA6 (i := 18) (N := some 126) (bitsA 22 522239) ?_
  refine one_ (i := 11) (N := some 119) (bitsA 22 524287) rfl rfl (one_of HT_.out dq24) dq25 (fun K hK => ?_)
  refine goes_ Try.func81 dq24 rfl #[.slice Al6 la.length cl6] dq31 rfl rfl dq42 ?_
  refine (clone_ints Al6 cl6 la _ (Kd.R_reads' R6.out).2.2 (Kd.R_reads' R6.out).2.1 (by have := HL6.out; unfold LIMK at this; omega)).mono ?_
  rintro e w20 ⟨v119, rfl, hr_, hb_⟩
  refine ⟨_, rfl, ?_⟩
  obtain ⟨own20, hv_, st_⟩ := fresh_row hr_ hb_ L3.out.size own 6
  obtain ⟨s1, s2, s3, s4, s5, s6⟩ := hHeld
  have HS_ := Zq.i (show (fun w' => w'.cell? ⟨X, 1, none⟩ = some (.slice (some ⟨gn, 0, none⟩) N.nul.length cn) ∧ w'.cell? ⟨X, 2, none⟩ = some (.slice (some ⟨gf, 0, none⟩) N.fst.length cf) ∧ w'.cell? ⟨X, 3, none⟩ = some (.slice (some ⟨gl, 0, none⟩) N.lst.length cl) ∧ w'.cell? ⟨gn, k.toNat, none⟩ = some (.bool true) ∧ w'.cell? ⟨gf, k.toNat, none⟩ = some (.slice Af (rdL N.fst k).length af) ∧ w'.cell? ⟨gl, k.toNat, none⟩ = some (.slice Al (rdL N.lst k).length al)) w20 from ⟨st_.cell s1 (fun h => h), st_.cell s2 (fun h => h), st_.cell s3 (fun h => h), st_.cell s4 (fun h => h), st_.cell s5 (fun h => h), st_.cell s6 (fun h => h)⟩)
  replace N3 := Zq.i (st_.net N3.out (fun _ _ h => h))
  replace O3 := Zq.i ((st_.block BX3.out (fun h => h)).2.trans O3.out)
  replace R5 := Zq.i (st_.row R5.out (fun h => h))
  replace RF := Zq.i (st_.row RF.out (fun h => h))
  replace RL := Zq.i (st_.row RL.out (fun h => h))
  replace BX3 := Zq.i ((st_.block BX3.out (fun h => h)).1)
  replace L3 := Zq.i (below_step L3.out hb_)
  replace R6 := Zq.i (hv_)
  replace ON := Zq.i ((st_.tagc s4 (fun h => h)).trans ON.out)
  replace OF := Zq.i ((st_.tagc s5 (fun h => h)).trans OF.out)
  replace OL := Zq.i ((st_.tagc s6 (fun h => h)).trans OL.out)
  clear s1 s2 s3 s4 s5 s6 st_ hv_ hb_ hr_
  refine hK.out _ _ HS_.out (fun hHeld => ?_)
  clear hK K
  refine norm_ (a' := ?_) ?_ ?_
  rotate_left
  ·exact (dAct : Act.put _ (some 119) _ = _)
  clear HS_
  refine one_ (i := 19) (N := some 127) (bitsA 22 1048575) rfl rfl (one_of HT_.out dq24) dq25 (fun K hK => ?_)
  refine app_ints_step (w0 := w) (W := w20) (own := own20) (v := v119) (t := 6) dq31 (.tmp 119) (.tmp 126) rfl la (rdL N.lst k) (A := Al) (m := (rdL N.lst k).length) (c := al) rfl rfl R6.out (Kd.R_reads' RL.out).2.2 L3.out dq116 ?_
  intro v127 w21 own21 hv_ st_ hb_
  obtain ⟨s1, s2, s3, s4, s5, s6⟩ := hHeld
  have XO := Zq.i N3.out.xo
  have HS_ := Zq.i (show (fun w' => w'.cell? ⟨X, 1, none⟩ = some (.slice (some ⟨gn, 0, none⟩) N.nul.length cn) ∧ w'.cell? ⟨X, 2, none⟩ = some (.slice (some ⟨gf, 0, none⟩) N.fst.length cf) ∧ w'.cell? ⟨X, 3, none⟩ = some (.slice (some ⟨gl, 0, none⟩) N.lst.length cl) ∧ w'.cell? ⟨gn, k.toNat, none⟩ = some (.bool true) ∧ w'.cell? ⟨gf, k.toNat, none⟩ = some (.slice Af (rdL N.fst k).length af) ∧ w'.cell? ⟨gl, k.toNat, none⟩ = some (.slice Al (rdL N.lst k).length al)) w21 from ⟨st_.cell s1 dq115, st_.cell s2 dq115, st_.cell s3 dq115, st_.cell s4 dq114, st_.cell s5 dq113, st_.cell s6 dq112⟩)
  have z0_ := Zq.i (st_.net N3.out mine6)
  have z1_ := Zq.i ((st_.block BX3.out dq111).2.trans O3.out)
  have z2_ := Zq.i (st_.row R5.out dq25)
  have z3_ := Zq.i (st_.row RF.out dq25)
  have z4_ := Zq.i (st_.row RL.out dq25)
  have z5_ := Zq.i ((st_.block BX3.out dq111).1)
  have z6_ := Zq.i (hb_)
  have z7_ := Zq.i (hv_)
  have z8_ := Zq.i ((st_.tagc s4 dq114).trans ON.out)
  have z9_ := Zq.i ((st_.tagc s5 dq113).trans OF.out)
  have z10_ := Zq.i ((st_.tagc s6 dq112).trans OL.out)
  clear N3 O3 R5 RF RL BX3 L3 R6 ON OF OL
  have N3 := z0_
  have O3 := z1_
  have R5 := z2_
  have RF := z3_
  have RL := z4_
  have BX3 := z5_
  have L3 := z6_
  have R6 := z7_
  have ON := z8_
  have OF := z9_
  have OL := z10_
  clear z0_ z1_ z2_ z3_ z4_ z5_ z6_ z7_ z8_ z9_ z10_ s1 s2 s3 s4 s5 s6 XO st_ hv_ hb_
  refine hK.out _ _ HS_.out (fun hHeld => ?_)
  clear hK K
  refine norm_ (a' := ?_) ?_ ?_
  rotate_left
  ·exact (dAct : Act.put _ (some 127) _ = _)
  clear HS_
  refine pureA (i := 20) (N := some 6) (bitsA 22 2097151) ?_
  refine pureA (i := 21) (N := some 8) (bitsA 22 4194303) ?_
  refine done_ (done_of HT_.out dq24) ?_
  have hq_ := HQ2.out
  subst hq_
  clear HQ2
  go_wp2
  go_roundg (m - (j + 1))
  case measure => have := HGJ.out; omega
  case rel => exact ⟨j + 1, _, own21, _, _, dq28, dq28, dq31, rfl, rfl, by go_num, HKS, N3, O3, BX3, L3, R5, R6⟩
 ·as_aux_lemma =>
  go_upto_region 19 with (first | ((with_reducible refine gate_callee (f := 91) rfl ?_); refine goesL_ (some 89) rfl rfl Try.func91 dq24 rfl #[.pointer (some ⟨X, 0, none⟩), .slice Al6 la.length cl6, .slice Af (rdL N.fst k).length af] rfl dq42 ?_; (with_reducible refine (net_lead w wr X own _ _ _ _ wv9 { N with fol := fol } ms9 la (rdL N.fst k) Al6 Af cl6 af N3.out (Kd.R_reads' R6.out).2.2 (Kd.R_reads' R6.out).2.1 (Kd.R_reads' RF.out).2.2 (Kd.R_reads' RF.out).2.1 HGL.out.1 HGL.out.2 L3.out).mono ?_); rintro e w14 ⟨rfl, hn_, hk_, hb_⟩; refine ⟨_, rfl, ?_⟩; have st_ : Stp wr w14 own own (fun q => q = 8) := Stp.of_kept hk_; have zc1 := st_.cell hcn dq114; have zc2 := st_.cell hcf dq113; have zc3 := st_.cell hcl dq112; have z0_ := Zq.i (hn_); have z1_ := Zq.i ((st_.block BX3.out dq111).2.trans O3.out); have z2_ := Zq.i (st_.row R5.out dq25); have z3_ := Zq.i (st_.row R6.out dq25); have z4_ := Zq.i (st_.row RF.out dq25); have z5_ := Zq.i (st_.row RL.out dq25); have z6_ := Zq.i ((st_.block BX3.out dq111).1); have z7_ := Zq.i (hb_); clear N3 O3 R5 R6 RF RL BX3 L3; have N3 := z0_; have O3 := z1_; have R5 := z2_; have R6 := z3_; have RF := z4_; have RL := z5_; have BX3 := z6_; have L3 := z7_; clear z0_ z1_ z2_ z3_ z4_ z5_ z6_ z7_; clear hn_ hk_ st_ hb_ hcn hcf hcl hx1 hx2 hx3 hk0; have hcn := zc1; have hcf := zc2; have hcl := zc3; clear zc1 zc2 zc3; obtain ⟨-, hx1, hx2, hx3, -, -⟩ := N3.out.cellAt) | ((with_reducible refine gate_builtin (b := .append) (xs := #[.tmp 91, .tmp 98]) rfl ?_); at_builtin; refine app_ints (w0 := w) (W := w14) (own := own) (v := .slice Av fi.length cv) (t := 5) ?hg (.tmp 91) (.tmp 98) ?ho fi (rdL N.fst k) (A := Af) (m := (rdL N.fst k).length) (c := af) ?hs ?hx R5.out (Kd.R_reads' RF.out).2.2 L3.out (by have := HL5.out; unfold LIMK at this; omega) ?_; (case hg => rfl); (case ho => rfl); (case hs => rfl); (case hx => rfl); intro v99 w15 own15 hv_ st_ hb_; have zc1 := st_.cell hcn dq114; have zc2 := st_.cell hcf dq113; have zc3 := st_.cell hcl dq112; have z0_ := Zq.i (st_.net N3.out mine5); have z1_ := Zq.i ((st_.block BX3.out dq111).2.trans O3.out); have z2_ := Zq.i (st_.row R6.out dq25); have z3_ := Zq.i (st_.row RF.out dq25); have z4_ := Zq.i (st_.row RL.out dq25); have z5_ := Zq.i ((st_.block BX3.out dq111).1); have z6_ := Zq.i (hb_); have z7_ := Zq.i (hv_); have z8_ := Zq.i ((st_.tagc hcn dq114).trans ON.out); have z9_ := Zq.i ((st_.tagc hcf dq113).trans OF.out); have z10_ := Zq.i ((st_.tagc hcl dq112).trans OL.out); clear N3 O3 R6 RF RL BX3 L3 R5 ON OF OL; have N3 := z0_; have O3 := z1_; have R6 := z2_; have RF := z3_; have RL := z4_; have BX3 := z5_; have L3 := z6_; have R5 := z7_; have ON := z8_; have OF := z9_; have OL := z10_; clear z0_ z1_ z2_ z3_ z4_ z5_ z6_ z7_ z8_ z9_ z10_; clear hv_ st_ hb_ hcn hcf hcl hx1 hx2 hx3; have hcn := zc1; have hcf := zc2; have hcl := zc3; clear zc1 zc2 zc3; obtain ⟨-, hx1, hx2, hx3, -, -⟩ := N3.out.cellAt))
  clear R6
  have R6 := Zq.i (Kd.R_nil (Kd.int .i64) 2 w15 w.heap.size (fun q => own15 q = 6))
  replace N3 := Zq.i (N3.out.drew)
  replace O3 := Zq.i (O3.out)
  replace BX3 := Zq.i (blk_drew BX3.out)
  replace L3 := Zq.i (below_drew1 L3.out)
  replace R5 := Zq.i (Kd.R_drew R5.out)
  replace R6 := Zq.i (Kd.R_drew R6.out)
  replace RF := Zq.i (Kd.R_drew RF.out)
  replace RL := Zq.i (Kd.R_drew RL.out)
  refine start_ (n := 22) (S := fun w' => w'.cell? ⟨X, 1, none⟩ = some (.slice (some ⟨gn, 0, none⟩) N.nul.length cn) ∧ w'.cell? ⟨X, 2, none⟩ = some (.slice (some ⟨gf, 0, none⟩) N.fst.length cf) ∧ w'.cell? ⟨X, 3, none⟩ = some (.slice (some ⟨gl, 0, none⟩) N.lst.length cl) ∧ w'.cell? ⟨gn, k.toNat, none⟩ = some (.bool false) ∧ w'.cell? ⟨gf, k.toNat, none⟩ = some (.slice Af (rdL N.fst k).length af) ∧ w'.cell? ⟨gl, k.toNat, none⟩ = some (.slice Al (rdL N.lst k).length al)) (ds := []) (bitsA 22 0) dq24 rfl rfl ⟨hx1, hx2, hx3, hcn, hcf, hcl⟩ (fun hHeld => ?_); refine with_tabW net_of.tab19 net_of.bits19 (fun HT_ HW_ => ?_)
  clear hx1 hx2 hx3 hcn hcf hcl
  generalize w15.drew = w19 at N3 BX3 L3 R5 R6 RF RL hHeld ⊢
  refine pureA (i := 0) (N := some 108) (bitsA 22 1) ?_
  refine pureA (i := 1) (N := some 109) (bitsA 22 3) ?_
  refine pureA (i := 2) (N := some 110) (bitsA 22 7) ?_
  refine pureA (i := 3) (N := some 111) (bitsA 22 15) ?_
  refine pureA (i := 4) (N := some 112) (bitsA 22 31) ?_
  refine takeA6 (i := 5) (N := some 113) (bitsA 22 63) ?_
  refine pureA (i := 6) (N := some 114) (bitsA 22 127) ?_
  refine pureA (i := 7) (N := some 115) (bitsA 22 255) ?_
  refine takeA6 (i := 8) (N := some 116) (bitsA 22 511) ?_
  refine pureA (i := 9) (N := some 117) (bitsA 22 1023) ?_
  refine pureA (i := 10) (N := some 118) (bitsA 22 2047) ?_
  refine pureA (i := 12) (N := some 120) (bitsA 22 6143) ?_
  refine pureA (i := 13) (N := some 121) (bitsA 22 14335) ?_
  refine pureA (i := 14) (N := some 122) (bitsA 22 30719) ?_
  refine takeA6 (i := 15) (N := some 123) (bitsA 22 63487) ?_
  refine pureA (i := 16) (N := some 124) (bitsA 22 129023) ?_
  refine pureA (i := 17) (N := some 125) (bitsA 22 260095) ?_
  refine takeA6 (i := 18) (N := some 126) (bitsA 22 522239) ?_
  refine one_ (i := 11) (N := some 119) (bitsA 22 524287) rfl rfl (one_of HT_.out dq24) dq25 (fun K hK => ?_)
  refine goes_ Try.func81 dq24 rfl #[.slice none 0 0] dq31 rfl rfl dq42 ?_
  refine (clone_ints none 0 ([] : List Int) _ (Kd.R_reads' R6.out).2.2 (Kd.R_reads' R6.out).2.1 dq25).mono ?_
  rintro e w20 ⟨v119, rfl, hr_, hb_⟩
  refine ⟨_, rfl, ?_⟩
  obtain ⟨own20, hv_, st_⟩ := fresh_row hr_ hb_ L3.out.size own15 6
  obtain ⟨s1, s2, s3, s4, s5, s6⟩ := hHeld
  have HS_ := Zq.i (show (fun w' => w'.cell? ⟨X, 1, none⟩ = some (.slice (some ⟨gn, 0, none⟩) N.nul.length cn) ∧ w'.cell? ⟨X, 2, none⟩ = some (.slice (some ⟨gf, 0, none⟩) N.fst.length cf) ∧ w'.cell? ⟨X, 3, none⟩ = some (.slice (some ⟨gl, 0, none⟩) N.lst.length cl) ∧ w'.cell? ⟨gn, k.toNat, none⟩ = some (.bool false) ∧ w'.cell? ⟨gf, k.toNat, none⟩ = some (.slice Af (rdL N.fst k).length af) ∧ w'.cell? ⟨gl, k.toNat, none⟩ = some (.slice Al (rdL N.lst k).length al)) w20 from ⟨st_.cell s1 (fun h => h), st_.cell s2 (fun h => h), st_.cell s3 (fun h => h), st_.cell s4 (fun h => h), st_.cell s5 (fun h => h), st_.cell s6 (fun h => h)⟩)
  replace N3 := Zq.i (st_.net N3.out (fun _ _ h => h))
  replace O3 := Zq.i ((st_.block BX3.out (fun h => h)).2.trans O3.out)
  replace R5 := Zq.i (st_.row R5.out (fun h => h))
  replace RF := Zq.i (st_.row RF.out (fun h => h))
  replace RL := Zq.i (st_.row RL.out (fun h => h))
  replace BX3 := Zq.i ((st_.block BX3.out (fun h => h)).1)
  replace L3 := Zq.i (below_step L3.out hb_)
  replace R6 := Zq.i (hv_)
  replace ON := Zq.i ((st_.tagc s4 (fun h => h)).trans ON.out)
  replace OF := Zq.i ((st_.tagc s5 (fun h => h)).trans OF.out)
  replace OL := Zq.i ((st_.tagc s6 (fun h => h)).trans OL.out)
  clear s1 s2 s3 s4 s5 s6 st_ hv_ hb_ hr_
  refine hK.out _ _ HS_.out (fun hHeld => ?_)
  clear hK K
  refine norm_ (a' := ?_) ?_ ?_
  rotate_left
  ·exact (dAct : Act.put _ (some 119) _ = _)
  clear HS_
  refine one_ (i := 19) (N := some 127) (bitsA 22 1048575) rfl rfl (one_of HT_.out dq24) dq25 (fun K hK => ?_)
  refine app_ints_step (w0 := w) (W := w20) (own := own20) (v := v119) (t := 6) dq31 (.tmp 119) (.tmp 126) rfl ([] : List Int) (rdL N.lst k) (A := Al) (m := (rdL N.lst k).length) (c := al) rfl rfl R6.out (Kd.R_reads' RL.out).2.2 L3.out dq116 ?_
  intro v127 w21 own21 hv_ st_ hb_
  obtain ⟨s1, s2, s3, s4, s5, s6⟩ := hHeld
  have XO := Zq.i N3.out.xo
  have HS_ := Zq.i (show (fun w' => w'.cell? ⟨X, 1, none⟩ = some (.slice (some ⟨gn, 0, none⟩) N.nul.length cn) ∧ w'.cell? ⟨X, 2, none⟩ = some (.slice (some ⟨gf, 0, none⟩) N.fst.length cf) ∧ w'.cell? ⟨X, 3, none⟩ = some (.slice (some ⟨gl, 0, none⟩) N.lst.length cl) ∧ w'.cell? ⟨gn, k.toNat, none⟩ = some (.bool false) ∧ w'.cell? ⟨gf, k.toNat, none⟩ = some (.slice Af (rdL N.fst k).length af) ∧ w'.cell? ⟨gl, k.toNat, none⟩ = some (.slice Al (rdL N.lst k).length al)) w21 from ⟨st_.cell s1 dq115, st_.cell s2 dq115, st_.cell s3 dq115, st_.cell s4 dq114, st_.cell s5 dq113, st_.cell s6 dq112⟩)
  have z0_ := Zq.i (st_.net N3.out mine6)
  have z1_ := Zq.i ((st_.block BX3.out dq111).2.trans O3.out)
  have z2_ := Zq.i (st_.row R5.out dq25)
  have z3_ := Zq.i (st_.row RF.out dq25)
  have z4_ := Zq.i (st_.row RL.out dq25)
  have z5_ := Zq.i ((st_.block BX3.out dq111).1)
  have z6_ := Zq.i (hb_)
  have z7_ := Zq.i (hv_)
  have z8_ := Zq.i ((st_.tagc s4 dq114).trans ON.out)
  have z9_ := Zq.i ((st_.tagc s5 dq113).trans OF.out)
  have z10_ := Zq.i ((st_.tagc s6 dq112).trans OL.out)
  clear N3 O3 R5 RF RL BX3 L3 R6 ON OF OL
  have N3 := z0_
  have O3 := z1_
  have R5 := z2_
  have RF := z3_
  have RL := z4_
  have BX3 := z5_
  have L3 := z6_
  have R6 := z7_
  have ON := z8_
  have OF := z9_
  have OL := z10_
  clear z0_ z1_ z2_ z3_ z4_ z5_ z6_ z7_ z8_ z9_ z10_ s1 s2 s3 s4 s5 s6 XO st_ hv_ hb_
  refine hK.out _ _ HS_.out (fun hHeld => ?_)
  clear hK K
  refine norm_ (a' := ?_) ?_ ?_
  rotate_left
  ·exact (dAct : Act.put _ (some 127) _ = _)
  clear HS_
  refine pureA (i := 20) (N := some 6) (bitsA 22 2097151) ?_
  refine pureA (i := 21) (N := some 8) (bitsA 22 4194303) ?_
  refine done_ (done_of HT_.out dq24) ?_
  have hq_ := HQ2.out
  subst hq_
  clear HQ2
  go_wp2
  go_roundg (m - (j + 1))
  case measure => have := HGJ.out; omega
  case rel => exact ⟨j + 1, _, own21, _, _, dq28, dq28, dq31, rfl, rfl, by go_num, HKS, N3, O3, BX3, L3, R5, R6⟩
 as_aux_lemma =>
 go_upto_region 19 with (first | ((with_reducible refine gate_callee (f := 91) rfl ?_); refine goesL_ (some 89) rfl rfl Try.func91 dq24 rfl #[.pointer (some ⟨X, 0, none⟩), .slice Al6 la.length cl6, .slice Af (rdL N.fst k).length af] rfl dq42 ?_; (with_reducible refine (net_lead w wr X own _ _ _ _ wv9 { N with fol := fol } ms9 la (rdL N.fst k) Al6 Af cl6 af N3.out (Kd.R_reads' R6.out).2.2 (Kd.R_reads' R6.out).2.1 (Kd.R_reads' RF.out).2.2 (Kd.R_reads' RF.out).2.1 HGL.out.1 HGL.out.2 L3.out).mono ?_); rintro e w14 ⟨rfl, hn_, hk_, hb_⟩; refine ⟨_, rfl, ?_⟩; have st_ : Stp wr w14 own own (fun q => q = 8) := Stp.of_kept hk_; have zc1 := st_.cell hcn dq114; have zc2 := st_.cell hcf dq113; have zc3 := st_.cell hcl dq112; have z0_ := Zq.i (hn_); have z1_ := Zq.i ((st_.block BX3.out dq111).2.trans O3.out); have z2_ := Zq.i (st_.row R5.out dq25); have z3_ := Zq.i (st_.row R6.out dq25); have z4_ := Zq.i (st_.row RF.out dq25); have z5_ := Zq.i (st_.row RL.out dq25); have z6_ := Zq.i ((st_.block BX3.out dq111).1); have z7_ := Zq.i (hb_); clear N3 O3 R5 R6 RF RL BX3 L3; have N3 := z0_; have O3 := z1_; have R5 := z2_; have R6 := z3_; have RF := z4_; have RL := z5_; have BX3 := z6_; have L3 := z7_; clear z0_ z1_ z2_ z3_ z4_ z5_ z6_ z7_; clear hn_ hk_ st_ hb_ hcn hcf hcl hx1 hx2 hx3 hk0; have hcn := zc1; have hcf := zc2; have hcl := zc3; clear zc1 zc2 zc3; obtain ⟨-, hx1, hx2, hx3, -, -⟩ := N3.out.cellAt) | ((with_reducible refine gate_builtin (b := .append) (xs := #[.tmp 91, .tmp 98]) rfl ?_); at_builtin; refine app_ints (w0 := w) (W := w14) (own := own) (v := .slice Av fi.length cv) (t := 5) ?hg (.tmp 91) (.tmp 98) ?ho fi (rdL N.fst k) (A := Af) (m := (rdL N.fst k).length) (c := af) ?hs ?hx R5.out (Kd.R_reads' RF.out).2.2 L3.out (by have := HL5.out; unfold LIMK at this; omega) ?_; (case hg => rfl); (case ho => rfl); (case hs => rfl); (case hx => rfl); intro v99 w15 own15 hv_ st_ hb_; have zc1 := st_.cell hcn dq114; have zc2 := st_.cell hcf dq113; have zc3 := st_.cell hcl dq112; have z0_ := Zq.i (st_.net N3.out mine5); have z1_ := Zq.i ((st_.block BX3.out dq111).2.trans O3.out); have z2_ := Zq.i (st_.row R6.out dq25); have z3_ := Zq.i (st_.row RF.out dq25); have z4_ := Zq.i (st_.row RL.out dq25); have z5_ := Zq.i ((st_.block BX3.out dq111).1); have z6_ := Zq.i (hb_); have z7_ := Zq.i (hv_); have z8_ := Zq.i ((st_.tagc hcn dq114).trans ON.out); have z9_ := Zq.i ((st_.tagc hcf dq113).trans OF.out); have z10_ := Zq.i ((st_.tagc hcl dq112).trans OL.out); clear N3 O3 R6 RF RL BX3 L3 R5 ON OF OL; have N3 := z0_; have O3 := z1_; have R6 := z2_; have RF := z3_; have RL := z4_; have BX3 := z5_; have L3 := z6_; have R5 := z7_; have ON := z8_; have OF := z9_; have OL := z10_; clear z0_ z1_ z2_ z3_ z4_ z5_ z6_ z7_ z8_ z9_ z10_; clear hv_ st_ hb_ hcn hcf hcl hx1 hx2 hx3; have hcn := zc1; have hcf := zc2; have hcl := zc3; clear zc1 zc2 zc3; obtain ⟨-, hx1, hx2, hx3, -, -⟩ := N3.out.cellAt))
 replace N3 := Zq.i (N3.out.drew)
 replace O3 := Zq.i (O3.out)
 replace BX3 := Zq.i (blk_drew BX3.out)
 replace L3 := Zq.i (below_drew1 L3.out)
 replace R5 := Zq.i (Kd.R_drew R5.out)
 replace R6 := Zq.i (Kd.R_drew R6.out)
 replace RF := Zq.i (Kd.R_drew RF.out)
 replace RL := Zq.i (Kd.R_drew RL.out)
 refine start_ (n := 22) (S := fun w' => w'.cell? ⟨X, 1, none⟩ = some (.slice (some ⟨gn, 0, none⟩) N.nul.length cn) ∧ w'.cell? ⟨X, 2, none⟩ = some (.slice (some ⟨gf, 0, none⟩) N.fst.length cf) ∧ w'.cell? ⟨X, 3, none⟩ = some (.slice (some ⟨gl, 0, none⟩) N.lst.length cl) ∧ w'.cell? ⟨gn, k.toNat, none⟩ = some (.bool true) ∧ w'.cell? ⟨gf, k.toNat, none⟩ = some (.slice Af (rdL N.fst k).length af) ∧ w'.cell? ⟨gl, k.toNat, none⟩ = some (.slice Al (rdL N.lst k).length al)) (ds := []) (bitsA 22 0) dq24 rfl rfl ⟨hx1, hx2, hx3, hcn, hcf, hcl⟩ (fun hHeld => ?_); refine with_tabW net_of.tab19 net_of.bits19 (fun HT_ HW_ => ?_)
 clear hx1 hx2 hx3 hcn hcf hcl
 generalize w15.drew = w19 at N3 BX3 L3 R5 R6 RF RL hHeld ⊢
 refine pureA (i := 0) (N := some 108) (bitsA 22 1) ?_
 refine pureA (i := 1) (N := some 109) (bitsA 22 3) ?_
 refine pureA (i := 2) (N := some 110) (bitsA 22 7) ?_
 refine pureA (i := 3) (N := some 111) (bitsA 22 15) ?_
 refine pureA (i := 4) (N := some 112) (bitsA 22 31) ?_
 refine takeA6 (i := 5) (N := some 113) (bitsA 22 63) ?_
 refine pureA (i := 6) (N := some 114) (bitsA 22 127) ?_
 refine pureA (i := 7) (N := some 115) (bitsA 22 255) ?_
 refine takeA6 (i := 8) (N := some 116) (bitsA 22 511) ?_
 refine pureA (i := 9) (N := some 117) (bitsA 22 1023) ?_
 refine pureA (i := 10) (N := some 118) (bitsA 22 2047) ?_
 refine pureA (i := 12) (N := some 120) (bitsA 22 6143) ?_
 refine pureA (i := 13) (N := some 121) (bitsA 22 14335) ?_
 refine pureA (i := 14) (N := some 122) (bitsA 22 30719) ?_
 refine takeA6 (i := 15) (N := some 123) (bitsA 22 63487) ?_
 refine pureA (i := 16) (N := some 124) (bitsA 22 129023) ?_
 refine pureA (i := 17) (N := some 125) (bitsA 22 260095) ?_
 refine takeA6 (i := 18) (N := some 126) (bitsA 22 522239) ?_
 refine one_ (i := 11) (N := some 119) (bitsA 22 524287) rfl rfl (one_of HT_.out dq24) dq25 (fun K hK => ?_)
 refine goes_ Try.func81 dq24 rfl #[.slice Al6 la.length cl6] dq31 rfl rfl dq42 ?_
 refine (clone_ints Al6 cl6 la _ (Kd.R_reads' R6.out).2.2 (Kd.R_reads' R6.out).2.1 (by have := HL6.out; unfold LIMK at this; omega)).mono ?_
 rintro e w20 ⟨v119, rfl, hr_, hb_⟩
 refine ⟨_, rfl, ?_⟩
 obtain ⟨own20, hv_, st_⟩ := fresh_row hr_ hb_ L3.out.size own15 6
 obtain ⟨s1, s2, s3, s4, s5, s6⟩ := hHeld
 have HS_ := Zq.i (show (fun w' => w'.cell? ⟨X, 1, none⟩ = some (.slice (some ⟨gn, 0, none⟩) N.nul.length cn) ∧ w'.cell? ⟨X, 2, none⟩ = some (.slice (some ⟨gf, 0, none⟩) N.fst.length cf) ∧ w'.cell? ⟨X, 3, none⟩ = some (.slice (some ⟨gl, 0, none⟩) N.lst.length cl) ∧ w'.cell? ⟨gn, k.toNat, none⟩ = some (.bool true) ∧ w'.cell? ⟨gf, k.toNat, none⟩ = some (.slice Af (rdL N.fst k).length af) ∧ w'.cell? ⟨gl, k.toNat, none⟩ = some (.slice Al (rdL N.lst k).length al)) w20 from ⟨st_.cell s1 (fun h => h), st_.cell s2 (fun h => h), st_.cell s3 (fun h => h), st_.cell s4 (fun h => h), st_.cell s5 (fun h => h), st_.cell s6 (fun h => h)⟩)
 replace N3 := Zq.i (st_.net N3.out (fun _ _ h => h))
 replace O3 := Zq.i ((st_.block BX3.out (fun h => h)).2.trans O3.out)
 replace R5 := Zq.i (st_.row R5.out (fun h => h))
 replace RF := Zq.i (st_.row RF.out (fun h => h))
 replace RL := Zq.i (st_.row RL.out (fun h => h))
 replace BX3 := Zq.i ((st_.block BX3.out (fun h => h)).1)
 replace L3 := Zq.i (below_step L3.out hb_)
 replace R6 := Zq.i (hv_)
 replace ON := Zq.i ((st_.tagc s4 (fun h => h)).trans ON.out)
 replace OF := Zq.i ((st_.tagc s5 (fun h => h)).trans OF.out)
 replace OL := Zq.i ((st_.tagc s6 (fun h => h)).trans OL.out)
 clear s1 s2 s3 s4 s5 s6 st_ hv_ hb_ hr_
 refine hK.out _ _ HS_.out (fun hHeld => ?_)
 clear hK K
 refine norm_ (a' := ?_) ?_ ?_
 rotate_left
 ·exact (dAct : Act.put _ (some 119) _ = _)
 clear HS_
 refine one_ (i := 19) (N := some 127) (bitsA 22 1048575) rfl rfl (one_of HT_.out dq24) dq25 (fun K hK => ?_)
 refine app_ints_step (w0 := w) (W := w20) (own := own20) (v := v119) (t := 6) dq31 (.tmp 119) (.tmp 126) rfl la (rdL N.lst k) (A := Al) (m := (rdL N.lst k).length) (c := al) rfl rfl R6.out (Kd.R_reads' RL.out).2.2 L3.out dq116 ?_
 intro v127 w21 own21 hv_ st_ hb_
 obtain ⟨s1, s2, s3, s4, s5, s6⟩ := hHeld
 have XO := Zq.i N3.out.xo
 have HS_ := Zq.i (show (fun w' => w'.cell? ⟨X, 1, none⟩ = some (.slice (some ⟨gn, 0, none⟩) N.nul.length cn) ∧ w'.cell? ⟨X, 2, none⟩ = some (.slice (some ⟨gf, 0, none⟩) N.fst.length cf) ∧ w'.cell? ⟨X, 3, none⟩ = some (.slice (some ⟨gl, 0, none⟩) N.lst.length cl) ∧ w'.cell? ⟨gn, k.toNat, none⟩ = some (.bool true) ∧ w'.cell? ⟨gf, k.toNat, none⟩ = some (.slice Af (rdL N.fst k).length af) ∧ w'.cell? ⟨gl, k.toNat, none⟩ = some (.slice Al (rdL N.lst k).length al)) w21 from ⟨st_.cell s1 dq115, st_.cell s2 dq115, st_.cell s3 dq115, st_.cell s4 dq114, st_.cell s5 dq113, st_.cell s6 dq112⟩)
 have z0_ := Zq.i (st_.net N3.out mine6)
 have z1_ := Zq.i ((st_.block BX3.out dq111).2.trans O3.out)
 have z2_ := Zq.i (st_.row R5.out dq25)
 have z3_ := Zq.i (st_.row RF.out dq25)
 have z4_ := Zq.i (st_.row RL.out dq25)
 have z5_ := Zq.i ((st_.block BX3.out dq111).1)
 have z6_ := Zq.i (hb_)
 have z7_ := Zq.i (hv_)
 have z8_ := Zq.i ((st_.tagc s4 dq114).trans ON.out)
 have z9_ := Zq.i ((st_.tagc s5 dq113).trans OF.out)
 have z10_ := Zq.i ((st_.tagc s6 dq112).trans OL.out)
 clear N3 O3 R5 RF RL BX3 L3 R6 ON OF OL
 have N3 := z0_
 have O3 := z1_
 have R5 := z2_
 have RF := z3_
 have RL := z4_
 have BX3 := z5_
 have L3 := z6_
 have R6 := z7_
 have ON := z8_
 have OF := z9_
 have OL := z10_
 clear z0_ z1_ z2_ z3_ z4_ z5_ z6_ z7_ z8_ z9_ z10_ s1 s2 s3 s4 s5 s6 XO st_ hv_ hb_
 refine hK.out _ _ HS_.out (fun hHeld => ?_)
 clear hK K
 refine norm_ (a' := ?_) ?_ ?_
 rotate_left
 ·exact (dAct : Act.put _ (some 127) _ = _)
 clear HS_
 refine pureA (i := 20) (N := some 6) (bitsA 22 2097151) ?_
 refine pureA (i := 21) (N := some 8) (bitsA 22 4194303) ?_
 refine done_ (done_of HT_.out dq24) ?_
 have hq_ := HQ2.out
 subst hq_
 clear HQ2
 go_wp2
 go_roundg (m - (j + 1))
 case measure => have := HGJ.out; omega
 case rel => exact ⟨j + 1, _, own21, _, _, dq28, dq28, dq31, rfl, rfl, by go_num, HKS, N3, O3, BX3, L3, R5, R6⟩
end Go.Proofs.Ytajdfbgbkgabjaa.L

namespace Go.Proofs
open Go.Shelf
def Try.laysSlM5_f83_ren : Go.Shelf.Ren := ⟨fun | 5 => 83 | 8 => 112 | 7 => 111 | 19 => 133 | 20 => 134 | 10 => 124 | 11 => 125 | 12 => 126 | 13 => 127 | 14 => 128 | 15 => 129 | 16 => 130 | 17 => 131 | 18 => 132 | 30 => 142 | 31 => 143 | 32 => 144 | 33 => 145 | 34 => 146 | 35 => 147 | 40 => 151 | n => n, fun | 23 => 33 | 25 => 2 | 3 => 3 | 32 => 110 | 22 => 33 | 0 => 0 | 44 => 135 | 46 => 137 | 4 => 4 | 36 => 127 | 35 => 126 | 41 => 132 | 5 => 5 | 9 => 9 | 53 => 143 | 57 => 146 | 63 => 152 | 64 => 153 | n => n, fun | n => n⟩
theorem Try.laysSlM5_f83 : Go.Proofs.SlLaysM.n5 Try.prog Try.laysSlM5_f83_ren := {
  mixed := by kernel_rfl
  f5 := ⟨Try.f83.name, by decide, Try.func83.trans (congrArg some (by kernel_rfl))⟩
  f7 := ⟨Try.f111.name, by decide, Try.func111.trans (congrArg some (by kernel_rfl))⟩
  f8 := Try.func112.trans (congrArg some (by kernel_rfl))
  f10 := ⟨Try.f124.name, by decide, Try.func124.trans (congrArg some (by kernel_rfl))⟩
  f11 := ⟨Try.f125.name, by decide, Try.func125.trans (congrArg some (by kernel_rfl))⟩
  f12 := ⟨Try.f126.name, by decide, Try.func126.trans (congrArg some (by kernel_rfl))⟩
  f13 := ⟨Try.f127.name, by decide, Try.func127.trans (congrArg some (by kernel_rfl))⟩
  f14 := ⟨Try.f128.name, by decide, Try.func128.trans (congrArg some (by kernel_rfl))⟩
  f15 := ⟨Try.f129.name, by decide, Try.func129.trans (congrArg some (by kernel_rfl))⟩
  f16 := ⟨Try.f130.name, by decide, Try.func130.trans (congrArg some (by kernel_rfl))⟩
  f17 := ⟨Try.f131.name, by decide, Try.func131.trans (congrArg some (by kernel_rfl))⟩
  f18 := ⟨Try.f132.name, by decide, Try.func132.trans (congrArg some (by kernel_rfl))⟩
  f19 := Try.func133.trans (congrArg some (by kernel_rfl))
  f20 := Try.func134.trans (congrArg some (by kernel_rfl))
  f30 := ⟨Try.f142.name, by decide, Try.func142.trans (congrArg some (by kernel_rfl))⟩
  f31 := Try.func143.trans (congrArg some (by kernel_rfl))
  f32 := Try.func144.trans (congrArg some (by kernel_rfl))
  f33 := ⟨Try.f145.name, by decide, Try.func145.trans (congrArg some (by kernel_rfl))⟩
  f34 := ⟨Try.f146.name, by decide, Try.func146.trans (congrArg some (by kernel_rfl))⟩
  f35 := ⟨Try.f147.name, by decide, Try.func147.trans (congrArg some (by kernel_rfl))⟩
  f40 := ⟨Try.f151.name, by decide, Try.func151.trans (congrArg some (by kernel_rfl))⟩
  t0 := Try.underlying0
  a0 := Try.isAgg0
  z0 := Try.sizeOf0
  v0 := Try.zeroValue0
  t3 := Try.underlying3
  a3 := Try.isAgg3
  z3 := Try.sizeOf3
  v3 := Try.zeroValue3
  t4 := Try.underlying4
  a4 := Try.isAgg4
  z4 := Try.sizeOf4
  v4 := Try.zeroValue4
  t5 := Try.underlying5
  a5 := Try.isAgg5
  z5 := Try.sizeOf5
  v5 := Try.zeroValue5
  t9 := Try.underlying9
  a9 := Try.isAgg9
  z9 := Try.sizeOf9
  v9 := Try.zeroValue9
  t22 := Try.underlying33
  a22 := Try.isAgg33
  z22 := Try.sizeOf33
  v22 := Try.zeroValue33
  t23 := Try.underlying33
  a23 := Try.isAgg33
  z23 := Try.sizeOf33
  v23 := Try.zeroValue33
  t25 := Try.underlying2
  a25 := Try.isAgg2
  z25 := Try.sizeOf2
  v25 := Try.zeroValue2
  t32 := Try.underlying110
  a32 := Try.isAgg110
  z32 := Try.sizeOf110
  v32 := Try.zeroValue110
  t35 := Try.underlying126
  a35 := Try.isAgg126
  z35 := Try.sizeOf126
  v35 := Try.zeroValue126
  t36 := Try.underlying127
  a36 := Try.isAgg127
  z36 := Try.sizeOf127
  v36 := Try.zeroValue127
  t41 := Try.underlying132
  a41 := Try.isAgg132
  z41 := Try.sizeOf132
  v41 := Try.zeroValue132
  t44 := Try.underlying135
  a44 := Try.isAgg135
  z44 := Try.sizeOf135
  v44 := Try.zeroValue135
  t46 := Try.underlying137
  a46 := Try.isAgg137
  z46 := Try.sizeOf137
  v46 := Try.zeroValue137
  t53 := Try.underlying143
  a53 := Try.isAgg143
  z53 := Try.sizeOf143
  v53 := Try.zeroValue143
  t57 := Try.underlying146
  a57 := Try.isAgg146
  z57 := Try.sizeOf146
  v57 := Try.zeroValue146
  t63 := Try.underlying152
  a63 := Try.isAgg152
  z63 := Try.sizeOf152
  v63 := Try.zeroValue152
  t64 := Try.underlying153
  a64 := Try.isAgg153
  z64 := Try.sizeOf153
  v64 := Try.zeroValue153 }
open Go.Sort Go.RowKit in
theorem Try.slices_Sort_int (blk off cap : Nat) (zs : List Int) (w : World) (hH : Holds (Value.int .i64) w blk off zs.toArray) (hblk : blk < w.heap.size) (hsz : zs.length < 4611686018427387904) :
    Calls Try.prog 83 #[.slice (some ⟨blk, off, none⟩) zs.length cap] w fun e w' =>
      e = .returned (.tuple #[]) ∧ ∃ n os, w' = grow (putRow (Value.int .i64) (Sort.ahead w n) blk off (zs.mergeSort fun x y => decide (x ≤ y)).toArray) os := AnyM.slices_Sort_int Try.laysSlM5_f83 blk off cap zs w hH hblk hsz
open Go.RowKit Go.Sort in
theorem Try.slices_Sort_int_none (p : Option Addr) (cap : Nat) (w : World) :
    Calls Try.prog 83 #[.slice p 0 cap] w fun e w' => e = .returned (.tuple #[]) ∧ w' = w := AnyM.slices_Sort_int_none Try.laysSlM5_f83 p cap w
end Go.Proofs

namespace Go.Proofs.Ytajdfbgbkgabjaa.Pure
open Go.RowKit Ytajdfbgbkgabjaa.L YtajdfbgbkgabjaaW.PrintWords YtajdfbgbkgabjaaW.PrintLast YtajdfbgbkgabjaaW.PrintMore

theorem ba_ext {a b : ByteArray} (h : a.data.toList = b.data.toList) : a = b := by
 cases a; cases b; simp only [ByteArray.mk.injEq]; exact Array.toList_inj.mp h
theorem sz (a : ByteArray) : a.size = a.data.toList.length := (data_length a).symm
theorem w64 {n : Int} (h : -9223372036854775808 ≤ n) (h' : n ≤ 9223372036854775807) : wrap64 n = n := by unfold wrap64; omega
theorem bt_nat (s : ByteArray) (i : Nat) (h : i < s.data.toList.length) : bt s (i : Int) = ((s.data.toList[i]).toNat : Int) := by
 have h' : i < s.size := by rw [sz]; exact h
 unfold bt
 rw [dif_pos (by simpa using h')]
 simp only [Int.toNat_natCast]
 rfl
theorem first_bt (s : ByteArray) (b : UInt8) (l : List UInt8) (h : s.data.toList = b :: l) : bt s 0 = (b.toNat : Int) := by
 have := bt_nat s 0 (by rw [h]; simp)
 simp only [h, Int.ofNat_zero, List.getElem_cons_zero] at this
 simpa using this
end Go.Proofs.Ytajdfbgbkgabjaa.Pure

namespace Go.Proofs.Ytajdfbgbkgabjaa.Pure

namespace MT
def Ris (l : List Int) : Prop := l.Pairwise (· < ·)
theorem up_ext : ∀ {a b : List Int}, Ris a → Ris b → (∀ x, x ∈ a ↔ x ∈ b) → a = b
 | [], [], _, _, _ => rfl
 | [], y :: b, _, _, h => absurd ((h y).2 (by simp)) (by simp)
 | x :: a, [], _, _, h => absurd ((h x).1 (by simp)) (by simp)
 | x :: a, y :: b, ha, hb, h => by
  unfold Ris at ha hb
  rw [List.pairwise_cons] at ha hb
  have e : x = y := by
   rcases List.mem_cons.1 ((h x).1 (by simp)) with h1 | h1
   ·exact h1
   ·rcases List.mem_cons.1 ((h y).2 (by simp)) with h2 | h2
    ·exact h2.symm
    ·have := hb.1 x h1
     have := ha.1 y h2
     omega
  subst e
  rw [up_ext ha.2 hb.2 (fun z => ?_)]
  constructor
  ·intro hz
   rcases List.mem_cons.1 ((h z).1 (by simp [hz])) with h1 | h1
   ·have := ha.1 z hz
    omega
   ·exact h1
  ·intro hz
   rcases List.mem_cons.1 ((h z).2 (by simp [hz])) with h1 | h1
   ·have := hb.1 z hz
    omega
   ·exact h1
def put1 (x : Int) : List Int → List Int
 | [] => [x]
 | y :: l => if y < x then y :: put1 x l else if y = x then y :: l else x :: y :: l
def srt (l : List Int) : List Int := l.foldl (fun a x => put1 x a) []
theorem mem_put1 {x z : Int} : ∀ {l : List Int}, z ∈ put1 x l ↔ z = x ∨ z ∈ l
 | [] => by simp [put1]
 | y :: l => by
  unfold put1
  split
  ·rw [List.mem_cons, mem_put1, List.mem_cons]
   constructor
   ·rintro (h | h | h)
    ·exact .inr (.inl h)
    ·exact .inl h
    ·exact .inr (.inr h)
   ·rintro (h | h | h)
    ·exact .inr (.inl h)
    ·exact .inl h
    ·exact .inr (.inr h)
  ·split
   ·rename_i e
    subst e
    simp
   ·simp
theorem up_put1 {x : Int} : ∀ {l : List Int}, Ris l → Ris (put1 x l)
 | [], _ => by simp [put1, Ris]
 | y :: l, h => by
  unfold Ris at h
  rw [List.pairwise_cons] at h
  unfold put1
  split
  ·rename_i c
   refine List.pairwise_cons.2 ⟨fun z hz => ?_, up_put1 h.2⟩
   rcases mem_put1.1 hz with rfl | hz
   ·exact c
   ·exact h.1 z hz
  ·split
   ·exact List.pairwise_cons.2 h
   ·refine List.pairwise_cons.2 ⟨fun z hz => ?_, List.pairwise_cons.2 h⟩
    rcases List.mem_cons.1 hz with rfl | hz
    ·omega
    ·have := h.1 z hz
     omega
theorem srt_from : ∀ (l a : List Int), Ris a → Ris (l.foldl (fun a x => put1 x a) a) ∧ ∀ z, z ∈ l.foldl (fun a x => put1 x a) a ↔ z ∈ a ∨ z ∈ l
 | [], a, h => ⟨h, by simp⟩
 | x :: l, a, h => by
  obtain ⟨h1, h2⟩ := srt_from l (put1 x a) (up_put1 h)
  refine ⟨h1, fun z => ?_⟩
  rw [List.foldl_cons, h2, mem_put1, List.mem_cons]
  constructor
  ·rintro ((h | h) | h)
   ·exact .inr (.inl h)
   ·exact .inl h
   ·exact .inr (.inr h)
  ·rintro (h | h | h)
   ·exact .inl (.inr h)
   ·exact .inl (.inl h)
   ·exact .inr h
theorem up_srt (l : List Int) : Ris (srt l) := (srt_from l [] .nil).1
theorem mem_srt {l : List Int} {z : Int} : z ∈ srt l ↔ z ∈ l := by
 rw [srt, (srt_from l [] .nil).2]
 simp
theorem srt_of {a l : List Int} (h : Ris a) (hm : ∀ z, z ∈ a ↔ z ∈ l) : a = srt l := up_ext h (up_srt l) (fun z => by rw [hm, mem_srt])
theorem srt_congr {a b : List Int} (h : ∀ z, z ∈ a ↔ z ∈ b) : srt a = srt b := up_ext (up_srt a) (up_srt b) (fun z => by rw [mem_srt, mem_srt, h])
end MT
end Go.Proofs.Ytajdfbgbkgabjaa.Pure

namespace Go.Proofs.Ytajdfbgbkgabjaa.L
open Go.RowKit YtajdfbgbkgabjaaW.PrintWords YtajdfbgbkgabjaaW.PrintLast YtajdfbgbkgabjaaW.PrintMore

def isort (xs : List Int) : List Int := xs.mergeSort fun x y => decide (x ≤ y)
theorem isort_length (xs : List Int) : (isort xs).length = xs.length := List.length_mergeSort _
theorem mem_isort {xs : List Int} {x : Int} : x ∈ isort xs ↔ x ∈ xs := List.mem_mergeSort
theorem sort_ints (w : World) (base : Nat) (ok : Nat → Prop) (v : Value) (xs : List Int) (HO : Kd.R (Kd.int .i64) 2 w base ok v xs) (hl : xs.length < 4611686018427387904) :
  Calls Try.prog 83 #[v] w fun e w' => e = .returned (.tuple #[]) ∧ Kd.R (Kd.int .i64) 2 w' base ok v (isort xs) ∧ w.grownBy w' v.ownBlock := by
 have h := Kd.own_of_R (enc := Value.int .i64) (h1 := fun _ => rfl) HO
 rcases h.2 with ⟨rfl, h0⟩ | ⟨g, cap, cur, rfl, hg, hh, hnc, hcm, hcs, ht⟩
 ·have hx : xs = [] := List.eq_nil_of_length_eq_zero h0
  subst hx
  refine (Try.slices_Sort_int_none none 0 w).mono ?_
  rintro e w' ⟨rfl, rfl⟩
  exact ⟨rfl, (by rw [show isort [] = [] by simp [isort]]; exact HO), ⟨rfl, rfl, rfl, Nat.le_refl _, fun _ _ _ => rfl⟩⟩
 ·have ht' : cur.toList.take xs.length = xs.map (Value.int .i64) := by simpa [Kd.scalar, encs] using ht
  refine (Try.slices_Sort_int g 0 cap xs w (holds_of_blockI hh ht') (blk_lt hh) hl).mono ?_
  rintro e w' ⟨rfl, n, os, rfl⟩
  refine ⟨rfl, ?_, grownBy_sortedI _⟩
  have h2 := ownsRow_sortedI (base := base) (n := n) (os := os) (ss := xs) (ts := isort xs) (isort_length xs) hg hh hnc hcm (by simpa using hcs)
  refine Kd.R_of_own (enc := Value.int .i64) (h1 := fun _ => rfl) ?_ HO.1
  rw [isort_length]
  exact h2
open Pure.MT in
theorem isort_up {xs : List Int} (hn : xs.Nodup) : Ris (isort xs) := by
 have h1 : (isort xs).Pairwise (fun x y => decide (x ≤ y) = true) := List.pairwise_mergeSort (fun a b c h1 h2 => by simp only [decide_eq_true_eq] at *; omega) (fun a b => by simp only [Bool.or_eq_true, decide_eq_true_eq]; omega) xs
 have h2 : (isort xs).Nodup := (List.mergeSort_perm xs _).nodup_iff.2 hn
 exact (List.pairwise_and_iff.2 ⟨h1, h2⟩).imp (fun {a b} h => by have := of_decide_eq_true h.1; have := h.2; omega)
open Pure.MT in
theorem isort_srt {xs l : List Int} (hn : xs.Nodup) (h : ∀ x, x ∈ xs ↔ x ∈ l) : isort xs = srt l := srt_of (isort_up hn) (fun z => by rw [mem_isort, h])
def nextF (N : NetV) (n : Nat) (q : Int) : List Int := if q < 0 then isort (rdL N.fst ((n : Int) - 1)) else Pure.MT.srt (rdL N.fol q)
section
variable {w w1 : World} {base X : Nat} {own own' : Tags} {nv fv lv wv : Value} {N : NetV} {ms : List Nat} {A0 : Option Addr} {n c0 : Nat}
theorem net_whole (hN : NetW w base X own (.slice A0 n c0) nv fv lv wv N ms) (hn : n ≤ 9223372036854775807) (h0 : 0 < n) :
  Calls Try.prog 82 #[.pointer (some ⟨X, 0, none⟩)] w fun e w' => e = .returned (.int .i64 ((n : Int) - 1)) ∧ Below w.heap.size w w' := by
 obtain ⟨hx0, -, -, -, -, -⟩ := hN.cellAt
 clear hN
 go_enter Try.func82, Try.ntmps82
 go_wp2
 go_ret
 exact ⟨rfl, Below.refl _ _⟩
theorem Going.step {b r : Nat} {l done : List Int} (h : Going w b r l done) (hb : w1.heap[b]? = w.heap[b]?) (hr : w1.heap[r]? = w.heap[r]?) : Going w1 b r l done ∧ w1.rangeLeft b r = w.rangeLeft b r := by
 obtain ⟨D, left, cnt, ⟨es, clock, since, seen, q, h1, h2, h3, h4, h5, h6⟩, h7⟩ := h
 refine ⟨⟨D, left, cnt, ⟨es, clock, since, seen, q, hb.trans h1, h2, h3, h4, hr.trans h5, h6⟩, h7⟩, ?_⟩
 unfold World.rangeLeft
 rw [hb, hr]
theorem Going.rlt {b r : Nat} {l done : List Int} (h : Going w b r l done) : r < w.heap.size := by
 obtain ⟨D, left, cnt, h1, _⟩ := h
 exact h1.lt
theorem Going.small {b r : Nat} {l done : List Int} (h : Going w b r l done) : done.length ≤ 4096 := by
 obtain ⟨D, left, cnt, _, _, hr, _, hn, hs⟩ := h
 have := pigeon 4096 (done.map Int.toNat) (List.pairwise_map.2 (hn.imp_of_mem (fun {a c} ha hc hne e => hne (by have := hr a (hs a ha); have := hr c (hs c hc); omega)))) (fun z hz => by
  obtain ⟨x, hx, rfl⟩ := List.mem_map.1 hz
  have := hr x (hs x hx)
  omega)
 rwa [List.length_map] at this
end
end Go.Proofs.Ytajdfbgbkgabjaa.L
