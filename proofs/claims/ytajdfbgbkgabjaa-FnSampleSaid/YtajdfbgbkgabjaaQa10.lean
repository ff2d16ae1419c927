/- Words and contracts for the row RowFnSample; printed, and merged. -/
import Derived.Test.YtajdfbgbkgabjaaQa9
import Derived.Lib.Hide
import Derived.Outline
set_option linter.unusedVariables false
set_option linter.unusedSimpArgs false
set_option maxHeartbeats 16000000
set_option maxRecDepth 100000
namespace Go.Proofs.Ytajdfbgbkgabjaa.L
open Go.RowKit YtajdfbgbkgabjaaW.PrintWords YtajdfbgbkgabjaaW.PrintLast YtajdfbgbkgabjaaW.PrintMore
def net_next.T3 : Bool × List (List Nat × List Nat) := (true, [([], []), ([], []), ([1], [1]), ([2], [2]), ([3], [3]), ([], []), ([5], [5]), ([4, 6], [4, 6]), ([7], [7]), ([0, 8, 6], [0, 8]), ([9, 9, 0, 1, 2, 3, 4, 5, 6, 7, 8, 9], [0, 9])])
def net_next.B3 : List Nat := [0, 0, 2, 6, 14, 0, 32, 126, 254, 511, 1023]
theorem net_next.tab3 : rtab .any (opsOf Try.f59 3) = net_next.T3 := by kernel_rfl
theorem net_next.bits3 : waitsOk net_next.T3.2 net_next.B3 = true := by kernel_rfl

def NextPost (w : World) (r : List Int) (e : Ending) (w' : World) : Prop := ∃ v, e = .returned v ∧ Kd.R (Kd.int .i64) 2 w' w.heap.size (fun _ => True) v r ∧ Below w.heap.size w w'
theorem net_next (w : World) (base X : Nat) (own : Tags) (nv fv lv wv : Value) (N : NetV) (ms : List Nat) (A0 : Option Addr) (n c0 : Nat) (q : Int) (hN : NetW w base X own (.slice A0 n c0) nv fv lv wv N ms) (hm : n ≤ 9223372036854775807) (h0 : 0 < n)
  (hf : N.fst.length = n) (hl : ∀ l ∈ N.fst, l.length < LIMK) (hq : q < N.fol.length) :
  Calls Try.prog 59 #[.pointer (some ⟨X, 0, none⟩), .int .i64 q] w (NextPost w (nextF N n q)) := by
 have N3 := Zq.i hN
 have HF := Zq.i hf
 have HL := Zq.i hl
 have L3 := Zq.i (Below.refl w.heap.size w)
 clear hN hf hl
 by_cases hneg : q < 0
 rotate_left
 ·have hneg2 : decide (q < 0) = false := dF hneg
  rw [show nextF N n q = Pure.MT.srt (rdL N.fol q) from if_neg hneg]
  have hqz : 0 ≤ q := by omega
  obtain ⟨g, c, b, e, hgc, hmc, hms, hmi⟩ := N3.out.map_at q hqz hq
  subst e
  obtain ⟨l, hlq⟩ : ∃ l, rdL N.fol q = l := ⟨_, rfl⟩
  rw [hlq]
  have hms2 : MapSet w b l := by rw [← hlq]; exact hms
  have og : own g = 4 := N3.out.wv_.1 g rfl
  have ob : own b = 8 := N3.out.m.own_ b (List.mem_of_getElem? hmi)
  have OG := Zq.i og
  have OB := Zq.i ob
  have HMS := Zq.i hms2
  clear hms hms2 hmi og ob hlq
  go_enter Try.func59, Try.ntmps59
  go_upto_region 5 with (first | ((with_reducible refine gate_dst (N := 7) rfl ?_); refine lit_ints (w0 := w) (W := w) (own := own) ?hg (N := 7) ?hd [] 5 ?hr L3.out dq15 ?_; (case hd => rfl); (case hg => rfl); (case hr => exact dq0); intro v7 w4 own4 hv_ st_ hb_; have R5 := Zq.i hv_; have hc4 := st_.cell hmc (fun h => h); have OB4 := Zq.i ((st_.tag b HMS.out.lt (fun h => h)).trans OB.out); have HM4 := Zq.i (HMS.out.step (st_.blk b HMS.out.lt (fun h => h))); replace N3 := Zq.i (st_.net N3.out (fun _ _ h => h)); replace L3 := Zq.i (hb_); clear hv_ st_ hb_ hmc; obtain ⟨-, -, -, -, hx4, -⟩ := N3.out.cellAt) | (at_range; have L4_ := L3.out.size; refine set_range rfl _ rfl b l rfl HM4.out ?_; intro w5 hgo_ hg_ hsz_; have hb_ : Below w4.heap.size w4 w5 := ⟨hg_.os, hg_.tape, hg_.output, hg_.size, fun k hk => hg_.block k hk dq15⟩; obtain ⟨own5, ho9, hot⟩ := fresh_tag w4 own4 (Nat.le_refl w4.heap.size) 9; have st_ : Stp w4 w5 own4 own5 (fun _ => False) := Stp.fresh hb_ hot _; obtain ⟨r, hr9⟩ : ∃ r, w4.heap.size = r := ⟨_, rfl⟩; have GO := Zq.i hgo_; have O9 := Zq.i ho9; have OB5 := Zq.i ((st_.tag b HM4.out.lt (fun h => h)).trans OB4.out); replace N3 := Zq.i (st_.net N3.out (fun _ _ h => h)); replace L3 := Zq.i (below_step L3.out hb_); replace R5 := Zq.i (st_.row R5.out (fun h => h)); rw [hr9] at GO O9; have HR9 := Lib.hid hr9; have HW4 := Lib.hid L4_; clear L4_ hgo_ hg_ hsz_ hb_ hot st_ ho9 hx4 hc4))
  go_loopg [5] (w5.rangeLeft b r) (fun gg s5 wr => ∃ (done : List Int) (ow : Tags) (v : Value), s5 = v ∧ wr.rangeLeft b r ≤ gg ∧ Zq (Going wr b r l done) ∧ Zq (Kd.R (Kd.int .i64) 2 wr w.heap.size (fun k => ow k = 5) v done) ∧ Zq (ow r = 9) ∧ Zq (ow b = 8) ∧ Zq (Below w.heap.size w wr))
  case atStart => exact ⟨[], own5, v7, rfl, Nat.le_refl _, GO, R5, O9, OB5, L3⟩
  clear GO R5 O9 OB5 L3 N3
  obtain ⟨done, ow, v, rfl, hgg, GO, R5, O9, OB5, L3⟩ := hrel
  obtain ⟨Av, cv, e4⟩ := Kd.R_slice R5.out
  subst e4
  have HGG := Lib.hid hgg
  clear hgg
  go_wp2_with (at_next; refine set_next rfl _ rfl b r l done rfl GO.out ?_ ?_)
  ·intro hall_ hnd_
   have HALL := Lib.hid hall_
   have HND := Zq.i hnd_
   clear hall_ hnd_
   go_wp2_with (first | ((with_reducible refine gate_callee (f := 83) rfl ?_); refine goesL_ (some 37) rfl rfl Try.func83 dq24 rfl #[.slice Av done.length cv] rfl dq42 ?_; (with_reducible refine (sort_ints _ _ _ _ _ R5.out (by have := GO.out.small; omega)).mono ?_); rintro e w9 ⟨rfl, hr_, hg_⟩; refine ⟨_, rfl, ?_⟩; replace L3 := Zq.i (grown_low L3.out hg_ R5.out); replace R5 := Zq.i (hr_); clear hr_ hg_))
   go_ret
   exact ⟨_, rfl, by rw [← isort_srt HND.out HALL.out]; exact Kd.R_mono R5.out (fun _ _ => trivial), L3.out⟩
  intro x cx w6 hxl hxd hx0 hx1 hgo_ hlt_ hg_ hsz_ hen_
  have st_ : Stp wr w6 ow ow (fun t => t = 9) := ⟨hg_.size, fun k hk hn => hg_.block k hk (fun e => hn (by injection e with e; rw [e]; exact O9.out)), fun _ _ _ => rfl⟩
  have z0_ := Zq.i (st_.row R5.out dq25)
  have z1_ := Zq.i (pw_below_grown L3.out (some r) L3.out.size hg_ (fun k hk => by injection hk with hk; have := HR9.out; have := HW4.out; omega))
  have HLT := Lib.hid hlt_
  clear R5 L3 GO hg_ st_ hlt_ hxl hxd hsz_
  have R5 := z0_
  have L3 := z1_
  have GO := Zq.i hgo_
  clear z0_ z1_ hgo_
  go_wp2_with (first | ((with_reducible refine gate_dst (N := 34) rfl ?_); refine lit_one (W := w6) ?hg (N := 34) ?hd (.int .i64 x) 2 ?hr ?_; (case hd => rfl); (case hg => rfl); (case hr => exact dq0); intro g7 w7 hg7 hbk hb_; have HK7 := Zq.i hbk; have st_ : Stp w6 w7 ow ow (fun _ => False) := Stp.below hb_ _ _; have hq_ := GO.out.step (st_.blk b GO.out.set_.lt (fun h => h)) (st_.blk r (GO.out.rlt) (fun h => h)); have HLE7 := Lib.hid hq_.2; replace GO := Zq.i (hq_.1); replace R5 := Zq.i (st_.row R5.out (fun h => h)); replace L3 := Zq.i (below_step L3.out hb_); clear hbk hg7 st_ hb_ hq_) | ((with_reducible refine gate_builtin (b := .append) (xs := #[.tmp 32, .tmp 34]) rfl ?_); at_builtin; refine app_ints (w0 := w) (W := w7) (own := ow) (v := .slice Av done.length cv) (t := 5) ?hg (.tmp 32) (.tmp 34) ?ho done [x] (A := some ⟨g7, 0, none⟩) (m := 1) (c := 1) ?hs ?hx R5.out (one_row HK7.out rfl) L3.out (by have := GO.out.small; rw [List.length_append] at this; omega) ?_; (case hg => rfl); (case ho => rfl); (case hs => rfl); (case hx => rfl); intro v35 w8 own8 hv_ st_ hb_; have hq_ := GO.out.step (st_.blk b GO.out.set_.lt (by rw [OB5.out]; decide)) (st_.blk r (GO.out.rlt) (by rw [O9.out]; decide)); have HLE := Lib.hid (hq_.2.trans HLE7.out); replace O9 := Zq.i ((st_.tag r GO.out.rlt (by rw [O9.out]; decide)).trans O9.out); replace OB5 := Zq.i ((st_.tag b GO.out.set_.lt (by rw [OB5.out]; decide)).trans OB5.out); replace R5 := Zq.i (hv_); replace L3 := Zq.i (hb_); replace GO := Zq.i (hq_.1); clear hv_ st_ hb_ hq_))
  go_roundg (w8.rangeLeft b r)
  case measure => have := HLE.out; have := HLT.out; have := HGG.out; omega
  case rel => exact ⟨done ++ [x], own8, v35, rfl, Nat.le_refl _, GO, R5, O9, OB5, L3⟩
 have hneg2 : decide (q < 0) = true := dT hneg
 rw [show nextF N n q = isort (rdL N.fst ((n : Int) - 1)) from if_pos hneg]
 have hnz : 0 ≤ (n : Int) - 1 := by omega
 have hnz1 : 1 ≤ (n : Int) := by omega
 go_enter Try.func59, Try.ntmps59
 go_upto_region 3 with (first | ((with_reducible refine gate_dst (N := 7) rfl ?_); refine lit_ints (w0 := w) (W := w) (own := own) ?hg (N := 7) ?hd [] 5 ?hr L3.out dq15 ?_; (case hd => rfl); (case hg => rfl); (case hr => exact dq0); intro v7 w4 own4 hv_ st_ hb_; have R5 := Zq.i hv_; replace N3 := Zq.i (st_.net N3.out (fun _ _ h => h)); replace L3 := Zq.i (hb_); clear hv_ st_ hb_))
 obtain ⟨gf, cf, vk, e2, hcf, hRf⟩ := rows_at N3.out.f ((n : Int) - 1) hnz (by have := HF.out; omega)
 have hof : own4 gf = 2 := by have q_ := N3.out.f.1; rw [e2] at q_; exact q_ gf rfl
 subst e2
 obtain ⟨Af, af, e3⟩ := Kd.R_slice hRf
 subst e3
 rw [show ((n : Int) - 1).toNat = n - 1 by omega] at hcf
 obtain ⟨-, -, hx2, -, -, -⟩ := N3.out.cellAt
 have RF := Zq.i hRf
 have OF := Zq.i hof
 have XO := Zq.i N3.out.xo
 have HLK : Zq ((rdL N.fst ((n : Int) - 1)).length < LIMK) := ⟨HL.out _ (by unfold rdL rdOf; rw [List.getD_eq_getElem?_getD, List.getElem?_eq_getElem (by have := HF.out; omega)]; exact List.getElem_mem _)⟩
 have hfz : ((n : Int) - 1 : Int) < (N.fst.length : Int) := by have := HF.out; omega
 clear hRf hof
 replace N3 := Zq.i (N3.out.drew)
 replace L3 := Zq.i (below_drew1 L3.out)
 replace R5 := Zq.i (Kd.R_drew R5.out)
 replace RF := Zq.i (Kd.R_drew RF.out)
 refine start_ (n := 11) (S := fun w' => w'.cell? ⟨X, 2, none⟩ = some (.slice (some ⟨gf, 0, none⟩) N.fst.length cf) ∧ w'.cell? ⟨gf, n - 1, none⟩ = some (.slice Af (rdL N.fst ((n : Int) - 1)).length af)) (ds := []) #[false, false, false, false, false, false, false, false, false, false, false] dq24 rfl rfl ⟨hx2, hcf⟩ (fun hHeld => ?_); refine with_tabW net_next.tab3 net_next.bits3 (fun HT_ HW_ => ?_)
 clear hx2 hcf
 generalize w4.drew = w5 at N3 L3 R5 RF hHeld ⊢
 refine pureA (i := 0) (N := some 10) #[true, false, false, false, false, false, false, false, false, false, false] ?_
 refine pureA (i := 1) (N := some 11) #[true, true, false, false, false, false, false, false, false, false, false] ?_
 refine pureA (i := 2) (N := some 12) #[true, true, true, false, false, false, false, false, false, false, false] ?_
 refine pureA (i := 3) (N := some 13) #[true, true, true, true, false, false, false, false, false, false, false] ?_
 refine takeA2 (i := 4) (N := some 14) #[true, true, true, true, true, false, false, false, false, false, false] ?_
 refine pureA (i := 5) (N := some 15) #[true, true, true, true, true, true, false, false, false, false, false] ?_
 refine one_ (i := 6) (N := some 16) #[true, true, true, true, true, true, true, false, false, false, false] rfl rfl (one_of HT_.out dq24) dq25 (fun K hK => ?_)
 refine goes_ Try.func82 dq24 rfl #[.pointer (some ⟨X, 0, none⟩)] dq31 rfl rfl dq42 ?_
 refine (net_whole N3.out hm h0).mono ?_
 rintro e w6 ⟨rfl, hb_⟩
 refine ⟨_, rfl, ?_⟩
 obtain ⟨s1, s2⟩ := hHeld
 have st_ := Stp.below hb_ own4 (fun _ => False)
 have HS_ := Zq.i (show (fun w' => w'.cell? ⟨X, 2, none⟩ = some (.slice (some ⟨gf, 0, none⟩) N.fst.length cf) ∧ w'.cell? ⟨gf, n - 1, none⟩ = some (.slice Af (rdL N.fst ((n : Int) - 1)).length af)) w6 from ⟨st_.cell s1 (fun h => h), st_.cell s2 (fun h => h)⟩)
 replace N3 := Zq.i (st_.net N3.out (fun _ _ h => h))
 replace L3 := Zq.i (below_step L3.out hb_)
 replace R5 := Zq.i (st_.row R5.out (fun h => h))
 replace RF := Zq.i (st_.row RF.out (fun h => h))
 clear s1 s2 st_ hb_
 refine hK.out _ _ HS_.out (fun hHeld => ?_)
 clear hK K
 refine norm_ (a' := ?_) ?_ ?_
 rotate_left
 ·exact (dAct : Act.put _ (some 16) _ = _)
 clear HS_
 refine pureA (i := 7) (N := some 17) #[true, true, true, true, true, true, true, true, false, false, false] ?_
 refine takeA2 (i := 8) (N := some 18) #[true, true, true, true, true, true, true, true, true, false, false] ?_
 refine one_ (i := 9) (N := some 19) #[true, true, true, true, true, true, true, true, true, true, false] rfl rfl (one_of HT_.out dq24) dq25 (fun K hK => ?_)
 refine app_ints_step (w0 := w) (W := w6) (own := own4) (v := v7) (t := 5) dq31 (.tmp 10) (.tmp 18) rfl [] (rdL N.fst ((n : Int) - 1)) (A := Af) (m := (rdL N.fst ((n : Int) - 1)).length) (c := af) rfl rfl R5.out (Kd.R_reads' RF.out).2.2 L3.out (by have := HLK.out; unfold LIMK at this; simp only [List.length_nil]; omega) ?_
 intro v19 w7 own7 hv_ st_ hb_
 obtain ⟨s1, s2⟩ := hHeld
 have HS_ := Zq.i (show (fun w' => w'.cell? ⟨X, 2, none⟩ = some (.slice (some ⟨gf, 0, none⟩) N.fst.length cf) ∧ w'.cell? ⟨gf, n - 1, none⟩ = some (.slice Af (rdL N.fst ((n : Int) - 1)).length af)) w7 from ⟨st_.cell s1 dq115, st_.cell s2 dq113⟩)
 replace N3 := Zq.i (st_.net N3.out mine5)
 replace L3 := Zq.i (hb_)
 replace R5 := Zq.i (hv_)
 clear s1 s2 st_ hv_ hb_
 refine hK.out _ _ HS_.out (fun hHeld => ?_)
 clear hK K
 refine norm_ (a' := ?_) ?_ ?_
 rotate_left
 ·exact (dAct : Act.put _ (some 19) _ = _)
 clear HS_
 refine pureA (i := 10) (N := some 5) #[true, true, true, true, true, true, true, true, true, true, true] ?_
 refine done_ (done_of HT_.out dq24) ?_
 rw [List.nil_append] at R5
 go_wp2_with (first | ((with_reducible refine gate_callee (f := 83) rfl ?_); refine goesL_ (some 37) rfl rfl Try.func83 dq24 rfl #[v19] rfl dq42 ?_; (with_reducible refine (sort_ints _ _ _ _ _ R5.out (by have := HLK.out; unfold LIMK at this; omega)).mono ?_); rintro e w9 ⟨rfl, hr_, hg_⟩; refine ⟨_, rfl, ?_⟩; replace L3 := Zq.i (grown_low L3.out hg_ R5.out); replace R5 := Zq.i (hr_); clear hr_ hg_))
 go_ret
 exact ⟨_, rfl, Kd.R_mono R5.out (fun _ _ => trivial), L3.out⟩
end Go.Proofs.Ytajdfbgbkgabjaa.L

namespace Go.Proofs.Ytajdfbgbkgabjaa.L
open Go.RowKit YtajdfbgbkgabjaaW.PrintWords YtajdfbgbkgabjaaW.PrintLast YtajdfbgbkgabjaaW.PrintMore

theorem drop_rd {l : List Int} {i : Nat} (h : i < l.length) : l.drop i = rd l (i : Int) :: l.drop (i + 1) := by
 rw [List.drop_eq_getElem_cons h]
 unfold rd
 rw [Int.toNat_natCast, List.getD_eq_getElem?_getD, List.getElem?_eq_getElem h]
 rfl
set_option maxHeartbeats 1000000 in
set_option maxRecDepth 100000 in
theorem index_ints (A0 : Option Addr) (c0 : Nat) (l : List Int) (x : Int) (w : World) (hr : Kd.C (Kd.int .i64) w A0 l.length l) (hc : l.length ≤ c0) :
  Calls Try.prog 118 #[.slice A0 l.length c0, .int .i64 x] w fun e w' => (∃ r : Int, e = .returned (.int .i64 r) ∧ (0 ≤ r ↔ x ∈ l)) ∧ w' = w := by
 have hm : l.length ≤ 9223372036854775807 := Kd.C_max hr
 obtain ⟨n, hn⟩ : ∃ n, l.length = n := ⟨_, rfl⟩
 have HR := Zq.i hr
 have HN := Zq.i hn
 rw [hn] at hc hm ⊢
 clear hn hr
 go_enter Try.func118, Try.ntmps118
 go_wp2
 go_loopg [8] n (fun gg s8 wr => ∃ i : Nat, i ≤ n ∧ n - i ≤ gg ∧ s8 = .int .i64 i ∧ Zq (x ∈ l ↔ x ∈ l.drop i) ∧ wr = w)
 case atStart => exact ⟨0, Nat.zero_le _, by omega, rfl, ⟨by rw [List.drop_zero]⟩, rfl⟩
 case round =>
  obtain ⟨i, hi, hg, rfl, GM, rfl⟩ := hrel
  by_cases hlt : i < n
  ·have hlz : (i : Int) < (n : Int) := by omega
   have hiz : (0 : Int) ≤ (i : Int) := by omega
   have hl : i < l.length := by have := HN.out; omega
   obtain ⟨ad, e, hcell⟩ := Kd.at_int HR.out (i : Int) (by omega) (by omega)
   subst e
   rw [Int.toNat_natCast] at hcell
   have hd := drop_rd hl
   obtain ⟨y, hy⟩ : ∃ y, rd l (i : Int) = y := ⟨_, rfl⟩
   rw [hy] at hcell hd
   have HG := Zq.i hg
   have HD := Zq.i hd
   clear hy hd hg hl
   by_cases cx : x = y
   ·have ex : (x == y) = true := beq_iff_eq.2 cx
    subst cx
    have HX := Zq.i (show x ∈ l by rw [GM.out, HD.out]; simp)
    go_wp2
    go_ret
    exact ⟨⟨i, rfl, by have := HX.out; simp [this]⟩, rfl⟩
   ·have ex : (x == y) = false := beq_eq_false_iff_ne.2 cx
    have HM := Zq.i (show x ∈ l ↔ x ∈ l.drop (i + 1) by
     rw [GM.out, HD.out, List.mem_cons]
     constructor
     ·rintro (h | h)
      ·exact absurd h cx
      ·exact h
     ·exact .inr)
    go_wp2
    go_roundg (n - (i + 1))
    case measure => have := HG.out; omega
    case rel => exact ⟨i + 1, by omega, by omega, by go_num, HM, rfl⟩
  ·have hlz : ¬ ((i : Int) < (n : Int)) := by omega
   have : i = n := by omega
   subst this
   have HX := Zq.i (show x ∉ l by rw [GM.out, ← HN.out, List.drop_length]; simp)
   go_wp2
   go_ret
   exact ⟨⟨-1, rfl, by have := HX.out; simp [this]⟩, rfl⟩
set_option maxHeartbeats 1000000 in
set_option maxRecDepth 100000 in
theorem contains_ints (A0 : Option Addr) (c0 : Nat) (l : List Int) (x : Int) (w : World) (hr : Kd.C (Kd.int .i64) w A0 l.length l) (hc : l.length ≤ c0) :
  Calls Try.prog 95 #[.slice A0 l.length c0, .int .i64 x] w fun e w' => e = .returned (.bool (decide (x ∈ l))) ∧ w' = w := by
 have HR := Zq.i hr
 have HC := Zq.i hc
 clear hr hc
 go_enter Try.func95, Try.ntmps95
 go_wp2_with (first | ((with_reducible refine gate_callee (f := 118) rfl ?_); refine goesL_ (some 7) rfl rfl Try.func118 (by kernel_rfl) rfl #[.slice A0 l.length c0, .int .i64 x] rfl (by (try simp only [List.map_toArray, List.map_cons, List.map_nil]); first | done | rfl) ?_; (with_reducible refine (index_ints A0 c0 l x _ HR.out HC.out).mono ?_); rintro e w' ⟨⟨r, rfl, hrx⟩, rfl⟩; refine ⟨_, rfl, ?_⟩; have HX := Zq.i hrx; clear hrx))
 go_ret
 exact ⟨by rw [show decide (x ∈ l) = decide (0 ≤ r) from decide_eq_decide.2 HX.out.symm]; first | done | rfl, rfl⟩
def takesB (p : List (S42)) (k : Int) (nm : ByteArray) : Bool := ((rd_T42 p k).f0 == 4) || ((rd_T42 p k).f1.toList == nm.toList)
set_option maxHeartbeats 2000000 in
set_option maxRecDepth 100000 in
theorem net_takes (w0 w : World) (X : Nat) (own : Tags) (nv fv lv wv : Value) (N : NetV) (ms : List Nat) (A0 : Option Addr) (n c0 : Nat) (l0 : List (S42)) (a : Int) (nm : ByteArray)
  (hN : NetW w w0.heap.size X own (.slice A0 n c0) nv fv lv wv N ms) (hR : Kd.C k42 w A0 l0.length l0) (hn : l0.length = n) (h0 : 0 ≤ a) (h1 : a < (n : Int)) :
  Calls Try.prog 94 #[.pointer (some ⟨X, 0, none⟩), .int .i64 a, .string nm] w fun e w' => e = .returned (.bool (takesB l0 a nm)) ∧ w' = w := by
 obtain ⟨ad, Aa, ca, e1, ha0_, ha1_, -, -, -, -⟩ := at_T42 hR a h0 (by rw [hn]; exact h1)
 subst e1
 obtain ⟨ka, hka⟩ : ∃ ka, (rd_T42 l0 a).f0 = ka := ⟨_, rfl⟩
 obtain ⟨na, hna⟩ : ∃ na, (rd_T42 l0 a).f1 = na := ⟨_, rfl⟩
 rw [hka] at ha0_
 rw [hna] at ha1_
 have HT := Zq.i (show takesB l0 a nm = ((ka == 4) || (na.toList == nm.toList)) by unfold takesB; rw [hka, hna])
 obtain ⟨hx0, -, -, -, -, -⟩ := hN.cellAt
 have hm0 : n ≤ 9223372036854775807 := by have := Kd.C_max hR; omega
 clear hka hna hN hR
 by_cases ca : ka = 4
 ·have ea : (ka == 4) = true := beq_iff_eq.2 ca
  subst ca
  go_enter Try.func94, Try.ntmps94
  go_wp2
  go_ret
  exact ⟨by rw [HT.out]; rfl, rfl⟩
 ·have ea : (ka == 4) = false := beq_eq_false_iff_ne.2 ca
  go_enter Try.func94, Try.ntmps94
  go_wp2
  go_ret
  exact ⟨by rw [HT.out, ea]; rfl, rfl⟩
def inB (n : Nat) (l : List Int) : Prop := ∀ a ∈ l, 0 ≤ a ∧ a < (n : Int)
instance (n : Nat) (l : List Int) : Decidable (inB n l) := inferInstanceAs (Decidable (∀ a ∈ l, 0 ≤ a ∧ a < (n : Int)))
theorem inB.at_ {n : Nat} {l : List Int} (h : inB n l) : ∀ a ∈ l, 0 ≤ a ∧ a < (n : Int) := h
def addK (p : List (S42)) (nm : ByteArray) (out : List Int) (k : Int) : List Int := if takesB p k nm && !decide (k ∈ out) then out ++ [k] else out
def stepRow (p : List (S42)) (N : NetV) (n : Nat) (nm : ByteArray) (out : List Int) (q : Int) : List Int := (nextF N n q).foldl (addK p nm) out
def stepF (p : List (S42)) (N : NetV) (n : Nat) (nm : ByteArray) (from_ : List Int) : List Int := isort (from_.foldl (stepRow p N n nm) [])
def sumN (N : NetV) (n : Nat) : List Int → Nat
 | [] => 0
 | q :: l => (nextF N n q).length + sumN N n l
theorem tag_row {W w1 : World} {v : Value} {xs : List Int} (t : Nat) (own : Tags) (h : Kd.R (Kd.int .i64) 2 w1 W.heap.size (fun _ => True) v xs) :
  ∃ own' : Tags, Kd.R (Kd.int .i64) 2 w1 W.heap.size (fun k => own' k = t) v xs ∧ ∀ k, k < W.heap.size → own' k = own k :=
 ⟨fun k => if k < W.heap.size then own k else t, Kd.R_mono (Kd.R_bound h) (fun k hk => if_neg (by have := hk.2.1; omega)), fun k hk => if_pos hk⟩
def StepPost (w : World) (r : List Int) (e : Ending) (w' : World) : Prop := ∃ v, e = .returned v ∧ Kd.R (Kd.int .i64) 2 w' w.heap.size (fun _ => True) v r ∧ Below w.heap.size w w'
set_option maxHeartbeats 4000000 in
set_option maxRecDepth 100000 in
theorem net_step (w0 w : World) (X : Nat) (own : Tags) (nv fv lv wv : Value) (N : NetV) (ms : List Nat) (A0 : Option Addr) (n c0 : Nat) (l0 : List (S42)) (A1 : Option Addr) (c1 : Nat) (from_ : List Int) (nm : ByteArray)
  (hN : NetW w w0.heap.size X own (.slice A0 n c0) nv fv lv wv N ms) (hR : Kd.C k42 w A0 l0.length l0) (hn : l0.length = n) (h1 : Kd.C (Kd.int .i64) w A1 from_.length from_) (hc1 : from_.length ≤ c1)
  (h0 : 0 < n) (hf : N.fst.length = n) (hl : ∀ l ∈ N.fst, l.length < LIMK) (hq : ∀ q ∈ from_, q < (N.fol.length : Int) ∧ inB n (nextF N n q)) (hs : sumN N n from_ < LIMK) :
  Calls Try.prog 51 #[.pointer (some ⟨X, 0, none⟩), .slice A1 from_.length c1, .string nm] w (StepPost w (stepF l0 N n nm from_)) := by
 have N3 := Zq.i hN
 have HR := Zq.i hR
 have H1 := Zq.i h1
 have HE := Zq.i hn
 have L3 := Zq.i (Below.refl w.heap.size w)
 have hm1 : from_.length ≤ 9223372036854775807 := Kd.C_max h1
 have HM := Zq.i (show n ≤ 9223372036854775807 by have := Kd.C_max hR; omega)
 have H0 := Lib.hid h0
 have HFL := Zq.i hf
 have HLL := Zq.i hl
 have HQA := Zq.i hq
 have HSA := Zq.i hs
 clear hN hR h1 hn h0 hf hl hq hs
 obtain ⟨n1, hn1⟩ : ∃ n, from_.length = n := ⟨_, rfl⟩
 rw [hn1] at hc1 hm1 ⊢
 have HN1 := Zq.i hn1
 clear hn1
 go_enter Try.func51, Try.ntmps51
 go_wp2_with (first | ((with_reducible refine gate_dst (N := 12) rfl ?_); refine lit_ints (w0 := w) (W := w) (own := own) ?hg (N := 12) ?hd [] 5 ?hr L3.out (by simp) ?_; (case hd => rfl); (case hg => rfl); (case hr => first | (go_simp; done) | (go_simp; rfl)); intro v7 w4 own4 hv_ st_ hb_; obtain ⟨Ao, co, eo⟩ := Kd.R_slice hv_; subst eo; have R5 := Zq.i hv_; have z0_ := Zq.i (st_.net N3.out (fun _ _ h => h)); have z1_ := Zq.i (hb_); clear N3 L3; have N3 := z0_; have L3 := z1_; clear z0_ z1_; clear hv_ st_ hb_))
 go_loopg [7, 15] n1 (fun gg s7 s15 wr => ∃ (i : Nat) (ow : Tags) (v : Value) (out : List Int), i ≤ n1 ∧ n1 - i ≤ gg ∧ s7 = v ∧ s15 = .int .i64 i ∧ Zq ((from_.take i).foldl (stepRow l0 N n nm) [] = out) ∧ Zq (out.length + sumN N n (from_.drop i) < LIMK) ∧ Zq (Kd.R (Kd.int .i64) 2 wr w.heap.size (fun k => ow k = 5) v out) ∧ Zq (NetW wr w0.heap.size X ow (.slice A0 n c0) nv fv lv wv N ms) ∧ Zq (Below w.heap.size w wr))
 case atStart => exact ⟨0, own4, _, [], Nat.zero_le _, by omega, rfl, rfl, ⟨rfl⟩, ⟨by rw [List.drop_zero]; have := HSA.out; simp only [List.length_nil]; omega⟩, R5, N3, L3⟩
 case round =>
  obtain ⟨i, ow, v, out, hi, hg, rfl, rfl, GE, HS, R5', N3', L3'⟩ := hrel
  clear R5 N3 L3
  have R5 := R5'
  have N3 := N3'
  have L3 := L3'
  clear R5' N3' L3'
  obtain ⟨Ap, cp, eo⟩ := Kd.R_slice R5.out
  subst eo
  by_cases hlt : i < n1
  ·have hlz : (i : Int) < (n1 : Int) := by omega
   have hl : i < from_.length := by have := HN1.out; omega
   obtain ⟨ad1, e, hcell⟩ := Kd.at_int H1.out (i : Int) (by omega) (by omega)
   subst e
   rw [Int.toNat_natCast] at hcell
   replace hcell := (L3.out.cell (World.block_lt_of_cell? w _ hcell)).trans hcell
   have hmem : rd from_ (i : Int) ∈ from_ := by unfold rd; rw [Int.toNat_natCast, List.getD_eq_getElem?_getD, List.getElem?_eq_getElem hl]; exact List.getElem_mem hl
   have HQ := Zq.i (HQA.out _ hmem)
   have hd := drop_rd hl
   have ht := take_snoc hl
   obtain ⟨q, hq⟩ : ∃ q, rd from_ (i : Int) = q := ⟨_, rfl⟩
   rw [hq] at hcell HQ hd ht
   have HG := Zq.i hg
   have HD := Zq.i hd
   have HT := Zq.i ht
   have HLI := Zq.i hl
   have HS2 := Zq.i (show out.length + ((nextF N n q).length + sumN N n (from_.drop (i + 1))) < LIMK by have h_ := HS.out; rw [hd] at h_; exact h_)
   clear hmem hq hd ht hg hl HS
   go_wp2_with (first | ((with_reducible refine gate_callee (f := 59) rfl ?_); refine goesL_ (some 21) rfl rfl Try.func59 (by kernel_rfl) rfl #[.pointer (some ⟨X, 0, none⟩), .int .i64 q] rfl (by (try simp only [List.map_toArray, List.map_cons, List.map_nil]); first | done | rfl) ?_; (with_reducible refine (net_next _ _ X ow nv fv lv wv N ms _ n c0 q N3.out HM.out H0.out HFL.out HLL.out HQ.out.1).mono ?_); rintro e w5 ⟨vr, rfl, hr_, hb_⟩; refine ⟨_, rfl, ?_⟩; obtain ⟨Av, av, ev⟩ := Kd.R_slice hr_; subst ev; obtain ⟨ow6, hr6, hot⟩ := tag_row 6 ow hr_; have st_ := Stp.fresh hb_ hot (fun _ => False); have R6 := Zq.i (Kd.R_lower hr6 L3.out.size); have z0_ := Zq.i (st_.net N3.out (fun _ _ h => h)); have z1_ := Zq.i (below_step L3.out hb_); have z2_ := Zq.i (st_.row R5.out (fun h => h)); clear N3 L3 R5; have N3 := z0_; have L3 := z1_; have R5 := z2_; clear z0_ z1_ z2_; clear hb_ hr_ st_ hr6 hot))
   obtain ⟨m, hm⟩ : ∃ m, (nextF N n q).length = m := ⟨_, rfl⟩
   have HMM := Zq.i hm
   have hmm : m ≤ 9223372036854775807 := by have := HS2.out; unfold LIMK at this; omega
   rw [hm]
   clear hm
   go_loopg [7, 23] m (fun gg s7 s23 wr => ∃ (j : Nat) (ow : Tags) (v : Value) (out' : List Int), j ≤ m ∧ m - j ≤ gg ∧ s7 = v ∧ s23 = .int .i64 j ∧ Zq (((nextF N n q).take j).foldl (addK l0 nm) out = out') ∧ Zq (out'.length + ((m - j) + sumN N n (from_.drop (i + 1))) < LIMK) ∧ Zq (Kd.R (Kd.int .i64) 2 wr w.heap.size (fun k => ow k = 5) v out') ∧ Zq (Kd.R (Kd.int .i64) 2 wr w.heap.size (fun k => ow k = 6) (.slice Av m av) (nextF N n q)) ∧ Zq (NetW wr w0.heap.size X ow (.slice A0 n c0) nv fv lv wv N ms) ∧ Zq (Below w.heap.size w wr))
   case atStart => exact ⟨0, ow6, _, out, Nat.zero_le _, by omega, rfl, rfl, ⟨rfl⟩, ⟨by have h_ := HS2.out; have e_ := HMM.out; omega⟩, R5, ⟨by have h_ := R6.out; rw [HMM.out] at h_; exact h_⟩, N3, L3⟩
   case round =>
    obtain ⟨j, ow, v, out', hj, hg2, rfl, rfl, GE2, HS3, R5', R6', N3', L3'⟩ := hrel
    clear R5 R6 N3 L3
    have R5 := R5'
    have R6 := R6'
    have N3 := N3'
    have L3 := L3'
    clear R5' R6' N3' L3'
    obtain ⟨Aq, cq, eo⟩ := Kd.R_slice R5.out
    subst eo
    by_cases hlt2 : j < m
    ·have hlz2 : (j : Int) < (m : Int) := by omega
     have hl2 : j < (nextF N n q).length := by have := HMM.out; omega
     have hC6 : Kd.C (Kd.int .i64) wr Av m (nextF N n q) := by have h_ := (Kd.R_reads' R6.out).2.2; first | exact h_ | (rw [HMM.out] at h_; exact h_)
     obtain ⟨ad2, e, hcell2⟩ := Kd.at_int hC6 (j : Int) (by omega) (by omega)
     subst e
     rw [Int.toNat_natCast] at hcell2
     have hmem2 : rd (nextF N n q) (j : Int) ∈ nextF N n q := by unfold rd; rw [Int.toNat_natCast, List.getD_eq_getElem?_getD, List.getElem?_eq_getElem hl2]; exact List.getElem_mem hl2
     have HA := Zq.i (HQ.out.2.at_ _ hmem2)
     have ht2 := take_snoc hl2
     obtain ⟨a, ha⟩ : ∃ a, rd (nextF N n q) (j : Int) = a := ⟨_, rfl⟩
     rw [ha] at hcell2 HA ht2
     have HG2 := Zq.i hg2
     have HT2 := Zq.i ht2
     clear hmem2 ha ht2 hg2 hl2 hC6
     obtain ⟨tk, htk⟩ : ∃ tk, takesB l0 a nm = tk := ⟨_, rfl⟩
     have HTK := Zq.i htk
     clear htk
     obtain ⟨cn, hcn⟩ : ∃ cn, decide (a ∈ out') = cn := ⟨_, rfl⟩
     have HCN := Zq.i hcn
     clear hcn
     have HAD := Zq.i (show addK l0 nm out' a = if (tk && !cn) = true then out' ++ [a] else out' by unfold addK; rw [HTK.out, HCN.out])
     cases tk with
     | false =>
      go_wp2_with (first | ((with_reducible refine gate_callee (f := 94) rfl ?_); refine goesL_ (some 30) rfl rfl Try.func94 (by kernel_rfl) rfl #[.pointer (some ⟨X, 0, none⟩), .int .i64 a, .string nm] rfl (by (try simp only [List.map_toArray, List.map_cons, List.map_nil]); first | done | rfl) ?_; (with_reducible refine (net_takes w0 _ X ow nv fv lv wv N ms _ n c0 l0 a nm N3.out (Kd.C_below HR.out L3.out) HE.out HA.out.1 HA.out.2).mono ?_); rintro e wt ⟨rfl, hw_⟩; have hw2_ := hw_.symm; subst hw2_; clear hw_; refine ⟨_, rfl, ?_⟩; rw [HTK.out]))
      go_roundg (m - (j + 1))
      case measure => have := HG2.out; omega
      case rel =>
       refine ⟨j + 1, ow, _, out', by omega, by omega, rfl, by go_num, ⟨?_⟩, ⟨?_⟩, R5, R6, N3, L3⟩
       ·rw [HT2.out, List.foldl_append, GE2.out]
        show addK l0 nm out' a = _
        rw [HAD.out]
        rfl
       ·have h_ := HS3.out
        omega
     | true =>
      cases cn with
      | true =>
       go_wp2_with (first | ((with_reducible refine gate_callee (f := 94) rfl ?_); refine goesL_ (some 30) rfl rfl Try.func94 (by kernel_rfl) rfl #[.pointer (some ⟨X, 0, none⟩), .int .i64 a, .string nm] rfl (by (try simp only [List.map_toArray, List.map_cons, List.map_nil]); first | done | rfl) ?_; (with_reducible refine (net_takes w0 _ X ow nv fv lv wv N ms _ n c0 l0 a nm N3.out (Kd.C_below HR.out L3.out) HE.out HA.out.1 HA.out.2).mono ?_); rintro e wt ⟨rfl, hw_⟩; have hw2_ := hw_.symm; subst hw2_; clear hw_; refine ⟨_, rfl, ?_⟩; rw [HTK.out]) | (go_at_call 95; (with_reducible refine (contains_ints _ _ out' a _ (Kd.R_reads' R5.out).2.2 (Kd.R_reads' R5.out).2.1).mono ?_); rintro e wt ⟨rfl, hw_⟩; have hw2_ := hw_.symm; subst hw2_; clear hw_; rw [HCN.out]))
       go_roundg (m - (j + 1))
       case measure => have := HG2.out; omega
       case rel =>
        refine ⟨j + 1, ow, _, out', by omega, by omega, rfl, by go_num, ⟨?_⟩, ⟨?_⟩, R5, R6, N3, L3⟩
        ·rw [HT2.out, List.foldl_append, GE2.out]
         show addK l0 nm out' a = _
         rw [HAD.out]
         rfl
        ·have h_ := HS3.out
         omega
      | false =>
       go_wp2_with (first | ((with_reducible refine gate_callee (f := 94) rfl ?_); refine goesL_ (some 30) rfl rfl Try.func94 (by kernel_rfl) rfl #[.pointer (some ⟨X, 0, none⟩), .int .i64 a, .string nm] rfl (by (try simp only [List.map_toArray, List.map_cons, List.map_nil]); first | done | rfl) ?_; (with_reducible refine (net_takes w0 _ X ow nv fv lv wv N ms _ n c0 l0 a nm N3.out (Kd.C_below HR.out L3.out) HE.out HA.out.1 HA.out.2).mono ?_); rintro e wt ⟨rfl, hw_⟩; have hw2_ := hw_.symm; subst hw2_; clear hw_; refine ⟨_, rfl, ?_⟩; rw [HTK.out]) | (go_at_call 95; (with_reducible refine (contains_ints _ _ out' a _ (Kd.R_reads' R5.out).2.2 (Kd.R_reads' R5.out).2.1).mono ?_); rintro e wt ⟨rfl, hw_⟩; have hw2_ := hw_.symm; subst hw2_; clear hw_; rw [HCN.out]) | ((with_reducible refine gate_dst (N := 39) rfl ?_); refine lit_one (W := wr) ?hg (N := 39) ?hd (.int .i64 a) 2 ?hr ?_; (case hd => rfl); (case hg => rfl); (case hr => first | (go_simp; done) | (go_simp; rfl)); intro g7 w7 hg7 hbk hb_; have HK7 := Zq.i hbk; have st_ : Stp wr w7 ow ow (fun _ => False) := Stp.below hb_ _ _; have z0_ := Zq.i (st_.net N3.out (fun _ _ h => h)); have z1_ := Zq.i (st_.row R5.out (fun h => h)); have z2_ := Zq.i (st_.row R6.out (fun h => h)); have z3_ := Zq.i (below_step L3.out hb_); clear N3 R5 R6 L3; have N3 := z0_; have R5 := z1_; have R6 := z2_; have L3 := z3_; clear z0_ z1_ z2_ z3_; clear hbk hg7 st_ hb_) | ((with_reducible refine gate_builtin (b := .append) (xs := #[.tmp 37, .tmp 39]) rfl ?_); at_builtin; refine app_ints (w0 := w) (W := w7) (own := ow) (v := .slice Aq out'.length cq) (t := 5) ?hg (.tmp 37) (.tmp 39) ?ho out' [a] (A := some ⟨g7, 0, none⟩) (m := 1) (c := 1) ?hs ?hx R5.out (one_row HK7.out rfl) L3.out (by have := HS3.out; unfold LIMK at this; omega) ?_; (case hg => rfl); (case ho => rfl); (case hs => rfl); (case hx => rfl); intro v35 w8 own8 hv_ st_ hb_; have z0_ := Zq.i (st_.net N3.out (by intro t ht h; subst h; unfold Mine at ht; omega)); have z1_ := Zq.i (hv_); have z2_ := Zq.i (st_.row R6.out (by decide)); have z3_ := Zq.i (hb_); clear N3 R5 R6 L3; have N3 := z0_; have R5 := z1_; have R6 := z2_; have L3 := z3_; clear z0_ z1_ z2_ z3_; clear hv_ st_ hb_))
       go_roundg (m - (j + 1))
       case measure => have := HG2.out; omega
       case rel =>
        refine ⟨j + 1, own8, _, out' ++ [a], by omega, by omega, rfl, by go_num, ⟨?_⟩, ⟨?_⟩, R5, R6, N3, L3⟩
        ·rw [HT2.out, List.foldl_append, GE2.out]
         show addK l0 nm out' a = _
         rw [HAD.out]
         rfl
        ·have h_ := HS3.out
         simp only [List.length_append, List.length_singleton]
         omega
    ·have hlz2 : ¬ ((j : Int) < (m : Int)) := by omega
     have : j = m := by omega
     subst this
     have hgo : stepRow l0 N n nm out q = out' := by
      unfold stepRow
      have h_ := GE2.out
      rw [List.take_of_length_le (by have := HMM.out; omega)] at h_
      exact h_
     have HGO := Zq.i hgo
     clear hgo
     go_wp2
     go_roundg (n1 - (i + 1))
     case measure => have := HG.out; omega
     case rel =>
      refine ⟨i + 1, ow, _, out', by omega, by omega, rfl, by go_num, ⟨?_⟩, ⟨?_⟩, R5, N3, L3⟩
      ·rw [HT.out, List.foldl_append, GE.out]
       exact HGO.out
      ·have h_ := HS3.out
       omega
  ·have hlz : ¬ ((i : Int) < (n1 : Int)) := by omega
   have : i = n1 := by omega
   subst this
   have hgo : stepF l0 N n nm from_ = isort out := by
    unfold stepF
    have h_ := GE.out
    rw [List.take_of_length_le (by have := HN1.out; omega)] at h_
    rw [h_]
   have HGO := Zq.i hgo
   clear hgo
   go_wp2_with (first | ((with_reducible refine gate_callee (f := 83) rfl ?_); refine goesL_ (some 44) rfl rfl Try.func83 (by kernel_rfl) rfl #[.slice Ap out.length cp] rfl (by (try simp only [List.map_toArray, List.map_cons, List.map_nil]); first | done | rfl) ?_; (with_reducible refine (sort_ints _ _ _ _ _ R5.out (by have := HS.out; unfold LIMK at this; omega)).mono ?_); rintro e w9 ⟨rfl, hr_, hg_⟩; refine ⟨_, rfl, ?_⟩; have z0_ := Zq.i (grown_low L3.out hg_ R5.out); have z1_ := Zq.i (hr_); clear L3 R5; have L3 := z0_; have R5 := z1_; clear z0_ z1_; clear hr_ hg_))
   go_ret
   exact ⟨_, rfl, by rw [HGO.out]; exact Kd.R_mono R5.out (fun _ _ => trivial), L3.out⟩
end Go.Proofs.Ytajdfbgbkgabjaa.L

namespace Go.Proofs.Ytajdfbgbkgabjaa.L
open Go.RowKit YtajdfbgbkgabjaaW.PrintWords YtajdfbgbkgabjaaW.PrintLast YtajdfbgbkgabjaaW.PrintMore
def may_end.T4 : Bool × List (List Nat × List Nat) := (true, [([], []), ([0], [0]), ([1], [1]), ([2], [2]), ([3, 2], [2, 3]), ([4, 2], [2, 4]), ([5, 2], [2, 5]), ([2], [2]), ([7, 2, 2], [2, 7]), ([6, 8, 2], [2, 6, 8]), ([9, 2], [2, 9]), ([2, 10], [2, 10]), ([11, 8], [11]), ([12], [12]), ([13, 12], [12, 13]), ([14, 12, 12], [12, 14]), ([15], [15]), ([16, 15], [15, 16]), ([17, 15], [15, 17]), ([18, 15], [15, 18]), ([15], [15]), ([20, 15, 15], [15, 20]), ([19, 21, 15], [15, 19, 21]), ([22, 15], [15, 22]), ([15], [15]), ([23, 24, 21, 15], [15, 23, 24]), ([15, 25, 12], [12, 15, 25]), ([12, 26], [12, 26])])
def may_end.B4 : List Nat := [0, 1, 3, 7, 15, 31, 63, 7, 135, 511, 1023, 2047, 4095, 8191, 16383, 32767, 65535, 131071, 262143, 524287, 65535, 1114111, 4194303, 8388607, 65535, 33554431, 67108863, 134217727]
theorem may_end.tab4 : rtab .any (opsOf Try.f62 4) = may_end.T4 := by kernel_rfl
theorem may_end.bits4 : waitsOk may_end.T4.2 may_end.B4 = true := by kernel_rfl

def endB (N : NetV) (n : Nat) (q : Int) : Bool := if q < 0 then rdOf false N.nul ((n : Int) - 1) else decide (q ∈ rdL N.lst ((n : Int) - 1))
def mayF (N : NetV) (n : Nat) (l : List Int) : Bool := l.any (endB N n)
theorem net_mayend (w0 w : World) (X : Nat) (own : Tags) (nv fv lv wv : Value) (N : NetV) (ms : List Nat) (A0 : Option Addr) (n c0 : Nat) (A1 : Option Addr) (c1 : Nat) (l : List Int)
  (hN : NetW w w0.heap.size X own (.slice A0 n c0) nv fv lv wv N ms) (hm : n ≤ 9223372036854775807) (h0 : 0 < n) (h1 : Kd.C (Kd.int .i64) w A1 l.length l) (hc1 : l.length ≤ c1)
  (hnu : N.nul.length = n) (hfi : N.fst.length = n) (hla : N.lst.length = n) :
  Calls Try.prog 62 #[.pointer (some ⟨X, 0, none⟩), .slice A1 l.length c1] w fun e w' => e = .returned (.bool (mayF N n l)) ∧ Below w.heap.size w w' := by
 have N3 := Zq.i hN
 have H1 := Zq.i h1
 have HM := Zq.i hm
 have H0 := Lib.hid h0
 have HNU := Zq.i hnu
 have HFI := Zq.i hfi
 have HLA := Zq.i hla
 have L3 := Zq.i (Below.refl w.heap.size w)
 have hm1 : l.length ≤ 9223372036854775807 := Kd.C_max h1
 clear hN h1 hm h0 hnu hfi hla
 obtain ⟨n1, hn1⟩ : ∃ n, l.length = n := ⟨_, rfl⟩
 rw [hn1] at hc1 hm1 ⊢
 have HN1 := Zq.i hn1
 clear hn1
 go_enter Try.func62, Try.ntmps62
 go_wp2
 go_loopg [9] n1 (fun gg s9 wr => ∃ i : Nat, i ≤ n1 ∧ n1 - i ≤ gg ∧ s9 = .int .i64 i ∧ Zq (mayF N n l = (l.drop i).any (endB N n)) ∧ Zq (NetW wr w0.heap.size X own (.slice A0 n c0) nv fv lv wv N ms) ∧ Zq (Below w.heap.size w wr))
 case atStart => exact ⟨0, Nat.zero_le _, dq28, rfl, ⟨rfl⟩, N3, L3⟩
 obtain ⟨i, hi, hg, rfl, GQ, N3', L3'⟩ := hrel
 clear N3 L3
 have N3 := N3'
 have L3 := L3'
 clear N3' L3'
 by_cases hlt : i < n1
 rotate_left
 ·have hlz : ¬ ((i : Int) < (n1 : Int)) := by omega
  have : i = n1 := by omega
  subst this
  have HF := Zq.i (show mayF N n l = false by rw [GQ.out, ← HN1.out, List.drop_length]; rfl)
  go_wp2
  go_ret
  exact ⟨by rw [HF.out]; first | done | rfl, L3.out⟩
 have hlz : (i : Int) < (n1 : Int) := by omega
 have hl : i < l.length := by have := HN1.out; omega
 obtain ⟨ad1, e, hcell⟩ := Kd.at_int H1.out (i : Int) dq28 dq28
 subst e
 rw [Int.toNat_natCast] at hcell
 replace hcell := (L3.out.cell (bC w _ hcell)).trans hcell
 have hd := drop_rd hl
 obtain ⟨q, hq⟩ : ∃ q, rd l (i : Int) = q := ⟨_, rfl⟩
 rw [hq] at hcell hd
 have HG := Zq.i hg
 have HD := Zq.i (show mayF N n l = (endB N n q || (l.drop (i + 1)).any (endB N n)) by rw [GQ.out, hd, List.any_cons])
 clear hq hd hg hl GQ
 obtain ⟨gn, cn, gf, cf, Af, af, gl, cl, Al, al, e1, hcn, hon, e2, hcf, hof, HRf, e3, hcl, hol, HRl⟩ := N3.out.kid ((n : Int) - 1) (by have := H0.out; omega) (by have := HNU.out; have := H0.out; omega) (by have := HFI.out; have := H0.out; omega) (by have := HLA.out; have := H0.out; omega)
 obtain ⟨-, hx1, -, hx3, -, -⟩ := N3.out.cellAt
 rw [e1] at hx1
 rw [e3] at hx3
 obtain ⟨bn, hbn⟩ : ∃ bn, rdOf false N.nul ((n : Int) - 1) = bn := ⟨_, rfl⟩
 rw [hbn] at hcn
 rw [show ((n : Int) - 1).toNat = n - 1 by omega] at hcn hcl
 have HBN := Zq.i hbn
 have RL := Zq.i (Kd.R_mono (ok' := fun k => own k = 3) HRl (fun _ h => h))
 have hnz1 : (1 : Int) ≤ (n : Int) := by have := H0.out; omega
 have hnz : (0 : Int) ≤ (n : Int) - 1 := by omega
 have hnn : ((n : Int) - 1 : Int) < (N.nul.length : Int) := by have := HNU.out; omega
 have hnl : ((n : Int) - 1 : Int) < (N.lst.length : Int) := by have := HLA.out; omega
 clear hcf hof HRf hon hol hbn HRl
 go_upto_region 4 with (fail)
 by_cases cq : q < 0
 ·have ed : decide (q < 0) = true := dT cq
  have ed2 : decide (q ≥ 0) = false := dF dq28
  have HEB := Zq.i (show endB N n q = bn by unfold endB; rw [if_pos cq]; exact HBN.out)
  cases bn with
  | true =>
   replace N3 := Zq.i (N3.out.drew)
   replace L3 := Zq.i (below_drew1 L3.out)
   replace RL := Zq.i (Kd.R_drew RL.out)
   refine start_ (n := 28) (S := fun w' => w'.cell? ⟨X, 1, none⟩ = some (.slice (some ⟨gn, 0, none⟩) N.nul.length cn) ∧ w'.cell? ⟨X, 3, none⟩ = some (.slice (some ⟨gl, 0, none⟩) N.lst.length cl) ∧ w'.cell? ⟨gn, n - 1, none⟩ = some (.bool true) ∧ w'.cell? ⟨gl, n - 1, none⟩ = some (.slice Al (rdL N.lst ((n : Int) - 1)).length al)) (ds := []) (bitsA 28 0) dq24 rfl rfl ⟨hx1, hx3, hcn, hcl⟩ (fun hHeld => ?_); refine with_tabW may_end.tab4 may_end.bits4 (fun HT_ HW_ => ?_)
   clear hx1 hx3 hcn hcl
   generalize wr.drew = wq at N3 L3 RL hHeld ⊢
   refine pureA (i := 0) (N := some 13) (bitsA 28 1) ?_
   refine pure_ (i := 1) (N := some 14) (v := ?_) (a' := ?_) (bitsA 28 3) rfl rfl (any_of HT_.out dq24) (fun _ _ _ h => h) (Or.inl ⟨dq31, ?_⟩) ?_ ?_
   rotate_left
   ·intro w'
    go_simp
    with_reducible rfl
   rotate_left
   ·exact dAct
   (first | rw [ed] | (simp only [ed]) | skip)
   refine pureA (i := 2) (N := some 15) (bitsA 28 7) ?_
   refine pureA (i := 3) (N := some 16) (bitsA 28 15) ?_
   refine pureA (i := 4) (N := some 17) (bitsA 28 31) ?_
   refine pureA (i := 5) (N := some 18) (bitsA 28 63) ?_
   refine takeA4 (i := 6) (N := some 19) (bitsA 28 127) ?_
   refine pureA (i := 7) (N := some 20) (bitsA 28 255) ?_
   refine one_ (i := 8) (N := some 21) (bitsA 28 511) rfl rfl (one_of HT_.out dq24) dq25 (fun K hK => ?_)
   refine goes_ Try.func82 dq24 rfl #[.pointer (some ⟨X, 0, none⟩)] dq31 rfl rfl dq42 ?_
   refine (net_whole N3.out HM.out H0.out).mono ?_
   rintro e w6 ⟨rfl, hb_⟩
   refine ⟨_, rfl, ?_⟩
   obtain ⟨s1, s2, s3, s4⟩ := hHeld
   have st_ := Stp.below hb_ own (fun _ => False)
   have HS_ := Zq.i (show (fun w' => w'.cell? ⟨X, 1, none⟩ = some (.slice (some ⟨gn, 0, none⟩) N.nul.length cn) ∧ w'.cell? ⟨X, 3, none⟩ = some (.slice (some ⟨gl, 0, none⟩) N.lst.length cl) ∧ w'.cell? ⟨gn, n - 1, none⟩ = some (.bool true) ∧ w'.cell? ⟨gl, n - 1, none⟩ = some (.slice Al (rdL N.lst ((n : Int) - 1)).length al)) w6 from ⟨st_.cell s1 (fun h => h), st_.cell s2 (fun h => h), st_.cell s3 (fun h => h), st_.cell s4 (fun h => h)⟩)
   replace N3 := Zq.i (st_.net N3.out (fun _ _ h => h))
   replace L3 := Zq.i (below_step L3.out hb_)
   replace RL := Zq.i (st_.row RL.out (fun h => h))
   clear s1 s2 s3 s4 st_ hb_
   refine hK.out _ _ HS_.out (fun hHeld => ?_)
   clear hK K
   refine norm_ (a' := ?_) ?_ ?_
   rotate_left
   ·exact (dAct : Act.put _ (some 21) _ = _)
   clear HS_
   refine pureA (i := 9) (N := some 22) (bitsA 28 1023) ?_
   refine takeA4 (i := 10) (N := some 23) (bitsA 28 2047) ?_
   refine pureA (i := 11) (N := some 24) (bitsA 28 4095) ?_
   refine pureA (i := 12) (N := some 25) (bitsA 28 8191) ?_
   refine pureN (i := 13) (N := some 26) (bitsA 28 16383) ?_
   refine pureN (i := 14) (N := some 27) (bitsA 28 32767) ?_
   refine pureN (i := 15) (N := some 28) (bitsA 28 65535) ?_
   refine pureN (i := 16) (N := some 29) (bitsA 28 131071) ?_
   refine pureN (i := 17) (N := some 30) (bitsA 28 262143) ?_
   refine pureN (i := 18) (N := some 31) (bitsA 28 524287) ?_
   refine pureN (i := 19) (N := some 32) (bitsA 28 1048575) ?_
   refine pureN (i := 20) (N := some 33) (bitsA 28 2097151) ?_
   refine pureN (i := 21) (N := some 34) (bitsA 28 4194303) ?_
   refine pureN (i := 22) (N := some 35) (bitsA 28 8388607) ?_
   refine pureN (i := 23) (N := some 36) (bitsA 28 16777215) ?_
   refine pureN (i := 24) (N := some 37) (bitsA 28 33554431) ?_
   refine pureN (i := 25) (N := some 38) (bitsA 28 67108863) ?_
   refine pureN (i := 26) (N := some 39) (bitsA 28 134217727) ?_
   refine pureA (i := 27) (N := some 40) (bitsA 28 268435455) ?_
   refine done_ (done_of HT_.out dq24) ?_
   have HF := Zq.i (show mayF N n l = true by rw [HD.out, HEB.out]; rfl)
   go_wp2
   go_ret
   exact ⟨by rw [HF.out]; first | done | rfl, L3.out⟩
  | false =>
   replace N3 := Zq.i (N3.out.drew)
   replace L3 := Zq.i (below_drew1 L3.out)
   replace RL := Zq.i (Kd.R_drew RL.out)
   refine start_ (n := 28) (S := fun w' => w'.cell? ⟨X, 1, none⟩ = some (.slice (some ⟨gn, 0, none⟩) N.nul.length cn) ∧ w'.cell? ⟨X, 3, none⟩ = some (.slice (some ⟨gl, 0, none⟩) N.lst.length cl) ∧ w'.cell? ⟨gn, n - 1, none⟩ = some (.bool false) ∧ w'.cell? ⟨gl, n - 1, none⟩ = some (.slice Al (rdL N.lst ((n : Int) - 1)).length al)) (ds := []) (bitsA 28 0) dq24 rfl rfl ⟨hx1, hx3, hcn, hcl⟩ (fun hHeld => ?_); refine with_tabW may_end.tab4 may_end.bits4 (fun HT_ HW_ => ?_)
   clear hx1 hx3 hcn hcl
   generalize wr.drew = wq at N3 L3 RL hHeld ⊢
   refine pureA (i := 0) (N := some 13) (bitsA 28 1) ?_
   refine pure_ (i := 1) (N := some 14) (v := ?_) (a' := ?_) (bitsA 28 3) rfl rfl (any_of HT_.out dq24) (fun _ _ _ h => h) (Or.inl ⟨dq31, ?_⟩) ?_ ?_
   rotate_left
   ·intro w'
    go_simp
    with_reducible rfl
   rotate_left
   ·exact dAct
   (first | rw [ed] | (simp only [ed]) | skip)
   refine pureA (i := 2) (N := some 15) (bitsA 28 7) ?_
   refine pureA (i := 3) (N := some 16) (bitsA 28 15) ?_
   refine pureA (i := 4) (N := some 17) (bitsA 28 31) ?_
   refine pureA (i := 5) (N := some 18) (bitsA 28 63) ?_
   refine takeA4 (i := 6) (N := some 19) (bitsA 28 127) ?_
   refine pureA (i := 7) (N := some 20) (bitsA 28 255) ?_
   refine one_ (i := 8) (N := some 21) (bitsA 28 511) rfl rfl (one_of HT_.out dq24) dq25 (fun K hK => ?_)
   refine goes_ Try.func82 dq24 rfl #[.pointer (some ⟨X, 0, none⟩)] dq31 rfl rfl dq42 ?_
   refine (net_whole N3.out HM.out H0.out).mono ?_
   rintro e w6 ⟨rfl, hb_⟩
   refine ⟨_, rfl, ?_⟩
   obtain ⟨s1, s2, s3, s4⟩ := hHeld
   have st_ := Stp.below hb_ own (fun _ => False)
   have HS_ := Zq.i (show (fun w' => w'.cell? ⟨X, 1, none⟩ = some (.slice (some ⟨gn, 0, none⟩) N.nul.length cn) ∧ w'.cell? ⟨X, 3, none⟩ = some (.slice (some ⟨gl, 0, none⟩) N.lst.length cl) ∧ w'.cell? ⟨gn, n - 1, none⟩ = some (.bool false) ∧ w'.cell? ⟨gl, n - 1, none⟩ = some (.slice Al (rdL N.lst ((n : Int) - 1)).length al)) w6 from ⟨st_.cell s1 (fun h => h), st_.cell s2 (fun h => h), st_.cell s3 (fun h => h), st_.cell s4 (fun h => h)⟩)
   replace N3 := Zq.i (st_.net N3.out (fun _ _ h => h))
   replace L3 := Zq.i (below_step L3.out hb_)
   replace RL := Zq.i (st_.row RL.out (fun h => h))
   clear s1 s2 s3 s4 st_ hb_
   refine hK.out _ _ HS_.out (fun hHeld => ?_)
   clear hK K
   refine norm_ (a' := ?_) ?_ ?_
   rotate_left
   ·exact (dAct : Act.put _ (some 21) _ = _)
   clear HS_
   refine pureA (i := 9) (N := some 22) (bitsA 28 1023) ?_
   refine takeA4 (i := 10) (N := some 23) (bitsA 28 2047) ?_
   refine pureA (i := 11) (N := some 24) (bitsA 28 4095) ?_
   refine pureA (i := 12) (N := some 25) (bitsA 28 8191) ?_
   refine pureA (i := 13) (N := some 26) (bitsA 28 16383) ?_
   refine pure_ (i := 14) (N := some 27) (v := ?_) (a' := ?_) (bitsA 28 32767) rfl rfl (any_of HT_.out dq24) (fun _ _ _ h => h) (Or.inl ⟨dq31, ?_⟩) ?_ ?_
   rotate_left
   ·intro w'
    go_simp
    with_reducible rfl
   rotate_left
   ·exact dAct
   (first | rw [ed2] | (simp only [ed2]) | skip)
   refine pureA (i := 15) (N := some 28) (bitsA 28 65535) ?_
   refine pureN (i := 16) (N := some 29) (bitsA 28 131071) ?_
   refine pureN (i := 17) (N := some 30) (bitsA 28 262143) ?_
   refine pureN (i := 18) (N := some 31) (bitsA 28 524287) ?_
   refine pureN (i := 19) (N := some 32) (bitsA 28 1048575) ?_
   refine pureN (i := 20) (N := some 33) (bitsA 28 2097151) ?_
   refine pureN (i := 21) (N := some 34) (bitsA 28 4194303) ?_
   refine pureN (i := 22) (N := some 35) (bitsA 28 8388607) ?_
   refine pureN (i := 23) (N := some 36) (bitsA 28 16777215) ?_
   refine pureN (i := 24) (N := some 37) (bitsA 28 33554431) ?_
   refine pureN (i := 25) (N := some 38) (bitsA 28 67108863) ?_
   refine pureA (i := 26) (N := some 39) (bitsA 28 134217727) ?_
   refine pureA (i := 27) (N := some 40) (bitsA 28 268435455) ?_
   refine done_ (done_of HT_.out dq24) ?_
   have HF := Zq.i (show mayF N n l = (l.drop (i + 1)).any (endB N n) by rw [HD.out, HEB.out, Bool.false_or])
   go_wp2
   go_roundg (n1 - (i + 1))
   case measure => have := HG.out; omega
   case rel => exact ⟨i + 1, dq28, dq28, by go_num, HF, N3, L3⟩
 have ed : decide (q < 0) = false := dF cq
 have ed2 : decide (q ≥ 0) = true := dT dq28
 have hqz : q ≥ 0 := by omega
 obtain ⟨bc, hbc⟩ : ∃ bc, decide (q ∈ rdL N.lst ((n : Int) - 1)) = bc := ⟨_, rfl⟩
 have HCN := Zq.i hbc
 have HEB := Zq.i (show endB N n q = bc by unfold endB; rw [if_neg cq]; exact hbc)
 clear hbc
 cases bc with
 | true =>
  replace N3 := Zq.i (N3.out.drew)
  replace L3 := Zq.i (below_drew1 L3.out)
  replace RL := Zq.i (Kd.R_drew RL.out)
  refine start_ (n := 28) (S := fun w' => w'.cell? ⟨X, 1, none⟩ = some (.slice (some ⟨gn, 0, none⟩) N.nul.length cn) ∧ w'.cell? ⟨X, 3, none⟩ = some (.slice (some ⟨gl, 0, none⟩) N.lst.length cl) ∧ w'.cell? ⟨gn, n - 1, none⟩ = some (.bool bn) ∧ w'.cell? ⟨gl, n - 1, none⟩ = some (.slice Al (rdL N.lst ((n : Int) - 1)).length al)) (ds := []) (bitsA 28 0) dq24 rfl rfl ⟨hx1, hx3, hcn, hcl⟩ (fun hHeld => ?_); refine with_tabW may_end.tab4 may_end.bits4 (fun HT_ HW_ => ?_)
  clear hx1 hx3 hcn hcl
  generalize wr.drew = wq at N3 L3 RL hHeld ⊢
  refine pureA (i := 0) (N := some 13) (bitsA 28 1) ?_
  refine pure_ (i := 1) (N := some 14) (v := ?_) (a' := ?_) (bitsA 28 3) rfl rfl (any_of HT_.out dq24) (fun _ _ _ h => h) (Or.inl ⟨dq31, ?_⟩) ?_ ?_
  rotate_left
  ·intro w'
   go_simp
   with_reducible rfl
  rotate_left
  ·exact dAct
  (first | rw [ed] | (simp only [ed]) | skip)
  refine pureA (i := 2) (N := some 15) (bitsA 28 7) ?_
  refine pureN (i := 3) (N := some 16) (bitsA 28 15) ?_
  refine pureN (i := 4) (N := some 17) (bitsA 28 31) ?_
  refine pureN (i := 5) (N := some 18) (bitsA 28 63) ?_
  refine pureN (i := 6) (N := some 19) (bitsA 28 127) ?_
  refine pureN (i := 7) (N := some 20) (bitsA 28 255) ?_
  refine pureN (i := 8) (N := some 21) (bitsA 28 511) ?_
  refine pureN (i := 9) (N := some 22) (bitsA 28 1023) ?_
  refine pureN (i := 10) (N := some 23) (bitsA 28 2047) ?_
  refine pureA (i := 11) (N := some 24) (bitsA 28 4095) ?_
  refine pureA (i := 12) (N := some 25) (bitsA 28 8191) ?_
  refine pureA (i := 13) (N := some 26) (bitsA 28 16383) ?_
  refine pure_ (i := 14) (N := some 27) (v := ?_) (a' := ?_) (bitsA 28 32767) rfl rfl (any_of HT_.out dq24) (fun _ _ _ h => h) (Or.inl ⟨dq31, ?_⟩) ?_ ?_
  rotate_left
  ·intro w'
   go_simp
   with_reducible rfl
  rotate_left
  ·exact dAct
  (first | rw [ed2] | (simp only [ed2]) | skip)
  refine pureA (i := 15) (N := some 28) (bitsA 28 65535) ?_
  refine pureA (i := 16) (N := some 29) (bitsA 28 131071) ?_
  refine pureA (i := 17) (N := some 30) (bitsA 28 262143) ?_
  refine pureA (i := 18) (N := some 31) (bitsA 28 524287) ?_
  refine takeA4 (i := 19) (N := some 32) (bitsA 28 1048575) ?_
  refine pureA (i := 20) (N := some 33) (bitsA 28 2097151) ?_
  refine pureA (i := 24) (N := some 37) (bitsA 28 18874367) ?_
  refine one_ (i := 21) (N := some 34) (bitsA 28 20971519) rfl rfl (one_of HT_.out dq24) dq25 (fun K hK => ?_)
  refine goes_ Try.func82 dq24 rfl #[.pointer (some ⟨X, 0, none⟩)] dq31 rfl rfl dq42 ?_
  refine (net_whole N3.out HM.out H0.out).mono ?_
  rintro e w6 ⟨rfl, hb_⟩
  refine ⟨_, rfl, ?_⟩
  obtain ⟨s1, s2, s3, s4⟩ := hHeld
  have st_ := Stp.below hb_ own (fun _ => False)
  have HS_ := Zq.i (show (fun w' => w'.cell? ⟨X, 1, none⟩ = some (.slice (some ⟨gn, 0, none⟩) N.nul.length cn) ∧ w'.cell? ⟨X, 3, none⟩ = some (.slice (some ⟨gl, 0, none⟩) N.lst.length cl) ∧ w'.cell? ⟨gn, n - 1, none⟩ = some (.bool bn) ∧ w'.cell? ⟨gl, n - 1, none⟩ = some (.slice Al (rdL N.lst ((n : Int) - 1)).length al)) w6 from ⟨st_.cell s1 (fun h => h), st_.cell s2 (fun h => h), st_.cell s3 (fun h => h), st_.cell s4 (fun h => h)⟩)
  replace N3 := Zq.i (st_.net N3.out (fun _ _ h => h))
  replace L3 := Zq.i (below_step L3.out hb_)
  replace RL := Zq.i (st_.row RL.out (fun h => h))
  clear s1 s2 s3 s4 st_ hb_
  refine hK.out _ _ HS_.out (fun hHeld => ?_)
  clear hK K
  refine norm_ (a' := ?_) ?_ ?_
  rotate_left
  ·exact (dAct : Act.put _ (some 34) _ = _)
  clear HS_
  refine pureA (i := 22) (N := some 35) (bitsA 28 25165823) ?_
  refine takeA4 (i := 23) (N := some 36) (bitsA 28 33554431) ?_
  refine one_ (i := 25) (N := some 38) (bitsA 28 67108863) rfl rfl (one_of HT_.out dq24) dq25 (fun K hK => ?_)
  refine goes_ Try.func95 dq24 rfl #[.slice Al (rdL N.lst ((n : Int) - 1)).length al, .int .i64 q] dq31 rfl rfl dq42 ?_
  refine (contains_ints Al al (rdL N.lst ((n : Int) - 1)) q _ (Kd.R_reads' RL.out).2.2 (Kd.R_reads' RL.out).2.1).mono ?_
  rintro e wt ⟨rfl, hw_⟩
  have hw2_ := hw_.symm
  subst hw2_
  clear hw_
  refine ⟨_, rfl, ?_⟩
  rw [HCN.out]
  refine hK.out _ _ hHeld (fun hHeld => ?_)
  clear hK K
  refine norm_ (a' := ?_) ?_ ?_
  rotate_left
  ·exact (dAct : Act.put _ (some 38) _ = _)
  refine pureA (i := 26) (N := some 39) (bitsA 28 134217727) ?_
  refine pureA (i := 27) (N := some 40) (bitsA 28 268435455) ?_
  refine done_ (done_of HT_.out dq24) ?_
  have HF := Zq.i (show mayF N n l = true by rw [HD.out, HEB.out]; rfl)
  go_wp2
  go_ret
  exact ⟨by rw [HF.out]; first | done | rfl, L3.out⟩
 | false =>
  replace N3 := Zq.i (N3.out.drew)
  replace L3 := Zq.i (below_drew1 L3.out)
  replace RL := Zq.i (Kd.R_drew RL.out)
  refine start_ (n := 28) (S := fun w' => w'.cell? ⟨X, 1, none⟩ = some (.slice (some ⟨gn, 0, none⟩) N.nul.length cn) ∧ w'.cell? ⟨X, 3, none⟩ = some (.slice (some ⟨gl, 0, none⟩) N.lst.length cl) ∧ w'.cell? ⟨gn, n - 1, none⟩ = some (.bool bn) ∧ w'.cell? ⟨gl, n - 1, none⟩ = some (.slice Al (rdL N.lst ((n : Int) - 1)).length al)) (ds := []) (bitsA 28 0) dq24 rfl rfl ⟨hx1, hx3, hcn, hcl⟩ (fun hHeld => ?_); refine with_tabW may_end.tab4 may_end.bits4 (fun HT_ HW_ => ?_)
  clear hx1 hx3 hcn hcl
  generalize wr.drew = wq at N3 L3 RL hHeld ⊢
  refine pureA (i := 0) (N := some 13) (bitsA 28 1) ?_
  refine pure_ (i := 1) (N := some 14) (v := ?_) (a' := ?_) (bitsA 28 3) rfl rfl (any_of HT_.out dq24) (fun _ _ _ h => h) (Or.inl ⟨dq31, ?_⟩) ?_ ?_
  rotate_left
  ·intro w'
   go_simp
   with_reducible rfl
  rotate_left
  ·exact dAct
  (first | rw [ed] | (simp only [ed]) | skip)
  refine pureA (i := 2) (N := some 15) (bitsA 28 7) ?_
  refine pureN (i := 3) (N := some 16) (bitsA 28 15) ?_
  refine pureN (i := 4) (N := some 17) (bitsA 28 31) ?_
  refine pureN (i := 5) (N := some 18) (bitsA 28 63) ?_
  refine pureN (i := 6) (N := some 19) (bitsA 28 127) ?_
  refine pureN (i := 7) (N := some 20) (bitsA 28 255) ?_
  refine pureN (i := 8) (N := some 21) (bitsA 28 511) ?_
  refine pureN (i := 9) (N := some 22) (bitsA 28 1023) ?_
  refine pureN (i := 10) (N := some 23) (bitsA 28 2047) ?_
  refine pureA (i := 11) (N := some 24) (bitsA 28 4095) ?_
  refine pureA (i := 12) (N := some 25) (bitsA 28 8191) ?_
  refine pureA (i := 13) (N := some 26) (bitsA 28 16383) ?_
  refine pure_ (i := 14) (N := some 27) (v := ?_) (a' := ?_) (bitsA 28 32767) rfl rfl (any_of HT_.out dq24) (fun _ _ _ h => h) (Or.inl ⟨dq31, ?_⟩) ?_ ?_
  rotate_left
  ·intro w'
   go_simp
   with_reducible rfl
  rotate_left
  ·exact dAct
  (first | rw [ed2] | (simp only [ed2]) | skip)
  refine pureA (i := 15) (N := some 28) (bitsA 28 65535) ?_
  refine pureA (i := 16) (N := some 29) (bitsA 28 131071) ?_
  refine pureA (i := 17) (N := some 30) (bitsA 28 262143) ?_
  refine pureA (i := 18) (N := some 31) (bitsA 28 524287) ?_
  refine takeA4 (i := 19) (N := some 32) (bitsA 28 1048575) ?_
  refine pureA (i := 20) (N := some 33) (bitsA 28 2097151) ?_
  refine pureA (i := 24) (N := some 37) (bitsA 28 18874367) ?_
  refine one_ (i := 21) (N := some 34) (bitsA 28 20971519) rfl rfl (one_of HT_.out dq24) dq25 (fun K hK => ?_)
  refine goes_ Try.func82 dq24 rfl #[.pointer (some ⟨X, 0, none⟩)] dq31 rfl rfl dq42 ?_
  refine (net_whole N3.out HM.out H0.out).mono ?_
  rintro e w6 ⟨rfl, hb_⟩
  refine ⟨_, rfl, ?_⟩
  obtain ⟨s1, s2, s3, s4⟩ := hHeld
  have st_ := Stp.below hb_ own (fun _ => False)
  have HS_ := Zq.i (show (fun w' => w'.cell? ⟨X, 1, none⟩ = some (.slice (some ⟨gn, 0, none⟩) N.nul.length cn) ∧ w'.cell? ⟨X, 3, none⟩ = some (.slice (some ⟨gl, 0, none⟩) N.lst.length cl) ∧ w'.cell? ⟨gn, n - 1, none⟩ = some (.bool bn) ∧ w'.cell? ⟨gl, n - 1, none⟩ = some (.slice Al (rdL N.lst ((n : Int) - 1)).length al)) w6 from ⟨st_.cell s1 (fun h => h), st_.cell s2 (fun h => h), st_.cell s3 (fun h => h), st_.cell s4 (fun h => h)⟩)
  replace N3 := Zq.i (st_.net N3.out (fun _ _ h => h))
  replace L3 := Zq.i (below_step L3.out hb_)
  replace RL := Zq.i (st_.row RL.out (fun h => h))
  clear s1 s2 s3 s4 st_ hb_
  refine hK.out _ _ HS_.out (fun hHeld => ?_)
  clear hK K
  refine norm_ (a' := ?_) ?_ ?_
  rotate_left
  ·exact (dAct : Act.put _ (some 34) _ = _)
  clear HS_
  refine pureA (i := 22) (N := some 35) (bitsA 28 25165823) ?_
  refine takeA4 (i := 23) (N := some 36) (bitsA 28 33554431) ?_
  refine one_ (i := 25) (N := some 38) (bitsA 28 67108863) rfl rfl (one_of HT_.out dq24) dq25 (fun K hK => ?_)
  refine goes_ Try.func95 dq24 rfl #[.slice Al (rdL N.lst ((n : Int) - 1)).length al, .int .i64 q] dq31 rfl rfl dq42 ?_
  refine (contains_ints Al al (rdL N.lst ((n : Int) - 1)) q _ (Kd.R_reads' RL.out).2.2 (Kd.R_reads' RL.out).2.1).mono ?_
  rintro e wt ⟨rfl, hw_⟩
  have hw2_ := hw_.symm
  subst hw2_
  clear hw_
  refine ⟨_, rfl, ?_⟩
  rw [HCN.out]
  refine hK.out _ _ hHeld (fun hHeld => ?_)
  clear hK K
  refine norm_ (a' := ?_) ?_ ?_
  rotate_left
  ·exact (dAct : Act.put _ (some 38) _ = _)
  refine pureA (i := 26) (N := some 39) (bitsA 28 134217727) ?_
  refine pureA (i := 27) (N := some 40) (bitsA 28 268435455) ?_
  refine done_ (done_of HT_.out dq24) ?_
  have HF := Zq.i (show mayF N n l = (l.drop (i + 1)).any (endB N n) by rw [HD.out, HEB.out, Bool.false_or])
  go_wp2
  go_roundg (n1 - (i + 1))
  case measure => have := HG.out; omega
  case rel => exact ⟨i + 1, dq28, dq28, by go_num, HF, N3, L3⟩
def stepOk (N : NetV) (n : Nat) (at_ : List Int) : Prop := (∀ q ∈ at_, q < (N.fol.length : Int) ∧ inB n (nextF N n q)) ∧ sumN N n at_ < LIMK
instance (N : NetV) (n : Nat) (at_ : List Int) : Decidable (stepOk N n at_) := inferInstanceAs (Decidable ((∀ q ∈ at_, q < (N.fol.length : Int) ∧ inB n (nextF N n q)) ∧ sumN N n at_ < LIMK))
def runO (p : List (S42)) (N : NetV) (n : Nat) : List ByteArray → List Int → Option (List Int)
 | [], at_ => some at_
 | nm :: names, at_ => if stepOk N n at_ then runO p N n names (stepF p N n nm at_) else none
def impl_Accepts.f (k : Nat) (l0 : List (S42)) (l1 : List ByteArray) : Option Bool :=
 (impl_ParticleOk.f k l0).bind fun t => if t = true then (if l1.length ≤ 200 then ((netOfF l0).bind fun N => if 0 < l0.length ∧ N.fst.length = l0.length ∧ (∀ l ∈ N.fst, l.length < LIMK) ∧ N.nul.length = l0.length ∧ N.lst.length = l0.length then (runO l0 N l0.length l1 [-1]).map (mayF N l0.length) else none) else some false) else some false
theorem net_start (w : World) : Calls Try.prog 50 #[] w (StepPost w [-1]) := by
 have L3 := Zq.i (Below.refl w.heap.size w)
 go_enter Try.func50, Try.ntmps50
 go_wp2_with (first | ((with_reducible refine gate_dst (N := 1) rfl ?_); refine lit_ints (w0 := w) (W := w) (own := fun _ => 0) ?hg (N := 1) ?hd [-1] 5 ?hr L3.out dq15 ?_; (case hd => rfl); (case hg => rfl); (case hr => exact dq0); intro v7 w4 own4 hv_ st_ hb_; have R5 := Zq.i hv_; have z_ := Zq.i hb_; clear L3; have L3 := z_; clear z_ hv_ st_ hb_))
 go_ret
 exact ⟨_, rfl, Kd.R_mono R5.out (fun _ _ => trivial), L3.out⟩
theorem drop_str {l : List ByteArray} {i : Nat} (h : i < l.length) : l.drop i = rdOf ByteArray.empty l (i : Int) :: l.drop (i + 1) := by
 rw [List.drop_eq_getElem_cons h]
 unfold rdOf
 rw [Int.toNat_natCast, List.getD_eq_getElem?_getD, List.getElem?_eq_getElem h]
 rfl
theorem impl_Accepts.calls (k : Nat) (A0 : Option Addr) (c0 : Nat) (l0 : List (S42)) (A1 : Option Addr) (c1 : Nat) (l1 : List ByteArray) (r : Bool) (w : World) (hr0 : Kd.C k42 w A0 l0.length l0) (hc0 : l0.length ≤ c0) (hr1 : Kd.C Kd.string w A1 l1.length l1) (hc1 : l1.length ≤ c1) (h : impl_Accepts.f k l0 l1 = some r) :
  Calls Try.prog 21 #[.slice A0 l0.length c0, .slice A1 l1.length c1] w fun e w' => e = .returned (.bool r) ∧ Below w.heap.size w w' := by
 unfold impl_Accepts.f at h
 obtain ⟨t, ht, h⟩ := Option.bind_eq_some_iff.1 h
 have HT := Zq.i ht
 have HR := Zq.i hr0
 have HC := Zq.i hc0
 have H1 := Zq.i hr1
 have HC1 := Zq.i hc1
 have HB := Zq.i (Below.refl w.heap.size w)
 have hm1 : l1.length ≤ 9223372036854775807 := Kd.C_max hr1
 clear ht hr0 hc0 hr1
 cases t with
 | true =>
  simp only [if_true] at h
  by_cases hlen : l1.length ≤ 200
  rotate_left
  ·rw [if_neg hlen] at h
   obtain rfl := oI h
   have hgt : decide ((l1.length : Int) > 200) = true := dT dq28
   have hgt2 : (l1.length : Int) > 200 := by omega
   clear h hlen
   go_enter Try.func21, Try.ntmps21
   go_wp2_with (first | ((with_reducible refine gate_callee (f := 29) rfl ?_); refine goesL_ (some 10) rfl rfl Try.func29 dq24 rfl #[.slice A0 l0.length c0] rfl dq42 ?_; (with_reducible refine (impl_ParticleOk.calls k A0 c0 l0 true _ (Kd.C_below HR.out HB.out) HC.out HT.out).mono ?_); rintro e w1 ⟨rfl, hb_⟩; refine ⟨_, rfl, ?_⟩; have z_ := Zq.i (below_step HB.out hb_); clear HB hb_; have HB := z_; clear z_))
   go_ret
   exact ⟨rfl, HB.out⟩
  rw [if_pos hlen] at h
  obtain ⟨N, hN, h⟩ := Option.bind_eq_some_iff.1 h
  by_cases hg : 0 < l0.length ∧ N.fst.length = l0.length ∧ (∀ l ∈ N.fst, l.length < LIMK) ∧ N.nul.length = l0.length ∧ N.lst.length = l0.length
  rotate_left
  ·rw [if_neg hg] at h
   cases h
  rw [if_pos hg] at h
  obtain ⟨fin, hfin, hr⟩ := Option.map_eq_some_iff.1 h
  have HNF := Zq.i hN
  have HG := Lib.hid hg
  have HFIN := Zq.i hfin
  have HRV := Zq.i hr
  have hgt : decide ((l1.length : Int) > 200) = false := dF dq28
  have hgt2 : ¬ ((l1.length : Int) > 200) := by omega
  clear hN hg h hfin hr
  obtain ⟨n1, hn1⟩ : ∃ n, l1.length = n := ⟨_, rfl⟩
  rw [hn1] at hc1 hm1 hgt hgt2 hlen ⊢
  have HN1 := Zq.i hn1
  clear hn1
  go_enter Try.func21, Try.ntmps21
  go_wp2_with (first | ((with_reducible refine gate_callee (f := 29) rfl ?_); refine goesL_ (some 10) rfl rfl Try.func29 dq24 rfl #[.slice A0 l0.length c0] rfl dq42 ?_; (with_reducible refine (impl_ParticleOk.calls k A0 c0 l0 true _ (Kd.C_below HR.out HB.out) HC.out HT.out).mono ?_); rintro e w1 ⟨rfl, hb_⟩; refine ⟨_, rfl, ?_⟩; have z_ := Zq.i (below_step HB.out hb_); clear HB hb_; have HB := z_; clear z_) | ((with_reducible refine gate_callee (f := 49) rfl ?_); refine goesL_ (some 18) rfl rfl Try.func49 dq24 rfl #[.slice A0 l0.length c0] rfl dq42 ?_; (with_reducible refine (net_of A0 c0 l0 _ (Kd.C_below HR.out HB.out) HC.out N HNF.out).mono ?_); rintro e w2 ⟨X, own, nv, fv, lv, wv, ms, rfl, hn_, hb_⟩; refine ⟨_, rfl, ?_⟩; have HN3 := Zq.i hn_; have z_ := Zq.i (below_step HB.out hb_); clear HB hb_ hn_; have HB := z_; clear z_) | ((with_reducible refine gate_callee (f := 50) rfl ?_); refine goesL_ (some 19) rfl rfl Try.func50 dq24 rfl #[] rfl dq42 ?_; (with_reducible refine (net_start _).mono ?_); rintro e w3 ⟨vs, rfl, hr_, hb_⟩; refine ⟨_, rfl, ?_⟩; have RA := Zq.i (Kd.R_lower hr_ HB.out.size); have st_ := Stp.below hb_ own (fun _ => False); replace HN3 := Zq.i (st_.net HN3.out (fun _ _ h => h)); replace HB := Zq.i (below_step HB.out hb_); clear hb_ hr_ st_))
  go_loopg [6, 22] n1 (fun gg s6 s22 wr => ∃ (i : Nat) (v : Value) (at_ : List Int), i ≤ n1 ∧ n1 - i ≤ gg ∧ s6 = v ∧ s22 = .int .i64 i ∧ Zq (runO l0 N l0.length (l1.drop i) at_ = some fin) ∧ Zq (Kd.R (Kd.int .i64) 2 wr w.heap.size (fun _ => True) v at_) ∧ Zq (NetW wr w1.heap.size X own (.slice A0 l0.length c0) nv fv lv wv N ms) ∧ Zq (Below w.heap.size w wr))
  case atStart => exact ⟨0, _, [-1], Nat.zero_le _, dq28, rfl, rfl, HFIN, RA, HN3, HB⟩
  obtain ⟨i, v, at_, hi, hgg, rfl, rfl, GF, RA', N3', L3'⟩ := hrel
  clear RA HN3 HB
  have RA := RA'
  have N3 := N3'
  have L3 := L3'
  clear RA' N3' L3'
  obtain ⟨Aa, ca, eo⟩ := Kd.R_slice RA.out
  subst eo
  by_cases hlt : i < n1
  rotate_left
  ·have hlz : ¬ ((i : Int) < (n1 : Int)) := by omega
   have : i = n1 := by omega
   subst this
   have hF := GF.out
   rw [← HN1.out, List.drop_length] at hF
   have hfe : at_ = fin := oI hF
   have HRE := Zq.i (show r = mayF N l0.length at_ by rw [← HRV.out, hfe])
   clear hF hfe GF
   go_wp2_with (first | ((with_reducible refine gate_callee (f := 62) rfl ?_); refine goesL_ (some 33) rfl rfl Try.func62 dq24 rfl #[.pointer (some ⟨X, 0, none⟩), .slice Aa at_.length ca] rfl dq42 ?_; (with_reducible refine (net_mayend w1 _ X own nv fv lv wv N ms A0 l0.length c0 Aa ca at_ N3.out (Kd.C_max HR.out) HG.out.1 (Kd.R_reads' RA.out).2.2 (Kd.R_reads' RA.out).2.1 HG.out.2.2.2.1 HG.out.2.1 HG.out.2.2.2.2).mono ?_); rintro e w5 ⟨rfl, hb_⟩; refine ⟨_, rfl, ?_⟩; replace L3 := Zq.i (below_step L3.out hb_); clear hb_))
   go_ret
   exact ⟨by rw [HRE.out]; first | done | rfl, L3.out⟩
  have hlz : (i : Int) < (n1 : Int) := by omega
  have hl : i < l1.length := by have := HN1.out; omega
  obtain ⟨ad1, e, hcell⟩ := Kd.at_string H1.out (i : Int) dq28 dq28
  subst e
  rw [Int.toNat_natCast] at hcell
  replace hcell := (L3.out.cell (bC w _ hcell)).trans hcell
  have hd := drop_str hl
  obtain ⟨nm, hnm⟩ : ∃ nm, rdOf ByteArray.empty l1 (i : Int) = nm := ⟨_, rfl⟩
  rw [hnm] at hcell hd
  have hF := GF.out
  rw [hd] at hF
  unfold runO at hF
  by_cases hst : stepOk N l0.length at_
  rotate_left
  ·rw [if_neg hst] at hF
   cases hF
  rw [if_pos hst] at hF
  have HF := Zq.i hF
  have HST := Zq.i (show (∀ q ∈ at_, q < (N.fol.length : Int) ∧ inB l0.length (nextF N l0.length q)) ∧ sumN N l0.length at_ < LIMK from hst)
  have HGG := Zq.i hgg
  clear hnm hd hF hst hgg hl GF
  go_wp2_with (first | ((with_reducible refine gate_callee (f := 51) rfl ?_); refine goesL_ (some 29) rfl rfl Try.func51 dq24 rfl #[.pointer (some ⟨X, 0, none⟩), .slice Aa at_.length ca, .string nm] rfl dq42 ?_; (with_reducible refine (net_step w1 _ X own nv fv lv wv N ms A0 l0.length c0 l0 Aa ca at_ nm N3.out (Kd.C_below HR.out L3.out) rfl (Kd.R_reads' RA.out).2.2 (Kd.R_reads' RA.out).2.1 HG.out.1 HG.out.2.1 HG.out.2.2.1 HST.out.1 HST.out.2).mono ?_); rintro e w5 ⟨vn, rfl, hr_, hb_⟩; refine ⟨_, rfl, ?_⟩; have RN := Zq.i (Kd.R_lower hr_ L3.out.size); have st_ := Stp.below hb_ own (fun _ => False); replace N3 := Zq.i (st_.net N3.out (fun _ _ h => h)); replace L3 := Zq.i (below_step L3.out hb_); clear hb_ hr_ st_))
  go_roundg (n1 - (i + 1))
  case measure => have := HGG.out; omega
  case rel => exact ⟨i + 1, _, _, dq28, dq28, rfl, by go_num, HF, RN, N3, L3⟩
 | false =>
  simp only [Bool.false_eq_true, if_false, Option.some.injEq] at h
  subst h
  go_enter Try.func21, Try.ntmps21
  go_wp2_with (first | ((with_reducible refine gate_callee (f := 29) rfl ?_); refine goesL_ (some 10) rfl rfl Try.func29 dq24 rfl #[.slice A0 l0.length c0] rfl dq42 ?_; (with_reducible refine (impl_ParticleOk.calls k A0 c0 l0 false _ (Kd.C_below HR.out HB.out) HC.out HT.out).mono ?_); rintro e w1 ⟨rfl, hb_⟩; refine ⟨_, rfl, ?_⟩; have z_ := Zq.i (below_step HB.out hb_); clear HB hb_; have HB := z_; clear z_))
  go_ret
  exact ⟨rfl, HB.out⟩
def impl_Nullable.f (k : Nat) (l0 : List (S42)) : Option Bool :=
 (impl_ParticleOk.f k l0).bind fun t => if t = true then ((netOfF l0).bind fun N => if 0 < l0.length ∧ N.fst.length = l0.length ∧ (∀ l ∈ N.fst, l.length < LIMK) ∧ N.nul.length = l0.length ∧ N.lst.length = l0.length then some (mayF N l0.length [-1]) else none) else some false
theorem mayend_one (w0 w : World) (X : Nat) (own : Tags) (nv fv lv wv : Value) (N : NetV) (ms : List Nat) (A0 : Option Addr) (n c0 : Nat) (A1 : Option Addr) (c1 : Nat)
  (hN : NetW w w0.heap.size X own (.slice A0 n c0) nv fv lv wv N ms) (hm : n ≤ 9223372036854775807) (h0 : 0 < n) (h1 : Kd.C (Kd.int .i64) w A1 ([-1] : List Int).length [-1]) (hc1 : ([-1] : List Int).length ≤ c1)
  (hnu : N.nul.length = n) (hfi : N.fst.length = n) (hla : N.lst.length = n) :
  Calls Try.prog 62 #[.pointer (some ⟨X, 0, none⟩), .slice A1 1 c1] w fun e w' => e = .returned (.bool (mayF N n [-1])) ∧ Below w.heap.size w w' := net_mayend w0 w X own nv fv lv wv N ms A0 n c0 A1 c1 [-1] hN hm h0 h1 hc1 hnu hfi hla
theorem impl_Nullable.calls (k : Nat) (A0 : Option Addr) (c0 : Nat) (l0 : List (S42)) (r : Bool) (w : World) (hr0 : Kd.C k42 w A0 l0.length l0) (hc0 : l0.length ≤ c0) (h : impl_Nullable.f k l0 = some r) :
  Calls Try.prog 35 #[.slice A0 l0.length c0] w fun e w' => e = .returned (.bool r) ∧ Below w.heap.size w w' := by
 unfold impl_Nullable.f at h
 obtain ⟨t, ht, h⟩ := Option.bind_eq_some_iff.1 h
 have HT := Zq.i ht
 have HR := Zq.i hr0
 have HC := Zq.i hc0
 have HB := Zq.i (Below.refl w.heap.size w)
 clear ht hr0 hc0
 cases t with
 | true =>
  simp only [if_true] at h
  obtain ⟨N, hN, h⟩ := Option.bind_eq_some_iff.1 h
  by_cases hg : 0 < l0.length ∧ N.fst.length = l0.length ∧ (∀ l ∈ N.fst, l.length < LIMK) ∧ N.nul.length = l0.length ∧ N.lst.length = l0.length
  rotate_left
  ·rw [if_neg hg] at h
   cases h
  rw [if_pos hg] at h
  obtain rfl := oI h
  have HNF := Zq.i hN
  have HG := Lib.hid hg
  clear hN hg h
  go_enter Try.func35, Try.ntmps35
  go_wp2_with (first | ((with_reducible refine gate_callee (f := 29) rfl ?_); refine goesL_ (some 4) rfl rfl Try.func29 dq24 rfl #[.slice A0 l0.length c0] rfl dq42 ?_; (with_reducible refine (impl_ParticleOk.calls k A0 c0 l0 true _ (Kd.C_below HR.out HB.out) HC.out HT.out).mono ?_); rintro e w1 ⟨rfl, hb_⟩; refine ⟨_, rfl, ?_⟩; have z_ := Zq.i (below_step HB.out hb_); clear HB hb_; have HB := z_; clear z_) | (go_at_call 49; (with_reducible refine (net_of A0 c0 l0 _ (Kd.C_below HR.out HB.out) HC.out N HNF.out).mono ?_); rintro e w2 ⟨X, own, nv, fv, lv, wv, ms, rfl, hn_, hb_⟩; have N3 := Zq.i hn_; have z_ := Zq.i (below_step HB.out hb_); clear HB hb_ hn_; have L3 := z_; clear z_) | (go_at_call 50; (with_reducible refine (net_start _).mono ?_); rintro e w3 ⟨vs, rfl, hr_, hb_⟩; obtain ⟨Aa, ca, ea⟩ := Kd.R_slice hr_; subst ea; have RA := Zq.i hr_; have st_ := Stp.below hb_ own (fun _ => False); replace N3 := Zq.i (st_.net N3.out (fun _ _ h => h)); replace L3 := Zq.i (below_step L3.out hb_); clear hb_ hr_ st_) | (go_at_call 62; (with_reducible refine (mayend_one w1 _ X own nv fv lv wv N ms A0 l0.length c0 Aa ca N3.out (Kd.C_max HR.out) HG.out.1 (Kd.R_reads' RA.out).2.2 (Kd.R_reads' RA.out).2.1 HG.out.2.2.2.1 HG.out.2.1 HG.out.2.2.2.2).mono ?_); rintro e w5 ⟨rfl, hb_⟩; replace L3 := Zq.i (below_step L3.out hb_); clear hb_))
  go_ret
  exact ⟨by first | rfl | (simp; done), L3.out⟩
 | false =>
  simp only [Bool.false_eq_true, if_false, Option.some.injEq] at h
  subst h
  go_enter Try.func35, Try.ntmps35
  go_wp2_with (first | ((with_reducible refine gate_callee (f := 29) rfl ?_); refine goesL_ (some 4) rfl rfl Try.func29 dq24 rfl #[.slice A0 l0.length c0] rfl dq42 ?_; (with_reducible refine (impl_ParticleOk.calls k A0 c0 l0 false _ (Kd.C_below HR.out HB.out) HC.out HT.out).mono ?_); rintro e w1 ⟨rfl, hb_⟩; refine ⟨_, rfl, ?_⟩; have z_ := Zq.i (below_step HB.out hb_); clear HB hb_; have HB := z_; clear z_))
  go_ret
  exact ⟨rfl, HB.out⟩
end Go.Proofs.Ytajdfbgbkgabjaa.L

namespace Go.Proofs.Ytajdfbgbkgabjaa.L
open Go.RowKit YtajdfbgbkgabjaaW.PrintWords YtajdfbgbkgabjaaW.PrintLast YtajdfbgbkgabjaaW.PrintMore
attribute [local go_sem] max2_int min2_int max_two min_two max_three min_three max_four min_four

/-! ### laws_FnSample: function 7 -/
def laws_FnSample.j0 : Nat → List Int → List (S42) → List ByteArray → Bool → List ByteArray → Bool → Bool → Option (Bool)
 | 0, _, _, _, _, _, _, _ => none
 | k + 1, x0, x3, x4, x5, x6, x7, x36 => if x36 = true then (if (x5 == x7) = true then ((laws_sameTexts.f k x4 x6).bind fun t694 => (some t694)) else (some false)) else ((spec_DrawAccepts.f k x0).bind fun bt695 => ((impl_Accepts.f k x3 x4).bind fun t701 => (if t701 = true then (if (bt695.2.length : Int) ≥ (x4.length : Int) then ((impl_Nullable.f k x3).bind fun t702 => (some (((x4.length : Int) == 0) == t702))) else ((impl_Accepts.f k x3 bt695.2).bind fun t703 => (if t703 = true then (some false) else ((impl_Nullable.f k x3).bind fun t704 => (some (((x4.length : Int) == 0) == t704)))))) else (some false))))
def laws_FnSample.f (k : Nat) (l0 : List Int) : Option (Bool) := (laws_big.f l0).bind fun t681 => (if t681 = true then (some true) else ((spec_DrawSample.f k l0).bind fun t682 => ((impl_Sample.f k t682).bind fun bt685 => ((spec_Sample.f k t682).bind fun bt689 => (if (bt685.2 != bt689.2) = true then (laws_FnSample.j0 k l0 t682 bt685.1 bt685.2 bt689.1 bt689.2 true) else ((laws_sameTexts.f k bt685.1 bt689.1).bind fun t693 => (if t693 = true then (laws_FnSample.j0 k l0 t682 bt685.1 bt685.2 bt689.1 bt689.2 (!bt685.2)) else (laws_FnSample.j0 k l0 t682 bt685.1 bt685.2 bt689.1 bt689.2 true))))))))
theorem laws_FnSample.calls (k : Nat) (A0 : Option Addr) (c0 : Nat) (l0 : List Int) (r : Bool) (w : World) (hr0 : Kd.C (Kd.int .u8) w A0 l0.length l0) (hc0 : l0.length ≤ c0) (h : laws_FnSample.f k l0 = some r) :
  Calls Try.prog 7 #[.slice A0 l0.length c0] w fun e w' => e = .returned (.bool r) ∧ Below w.heap.size w w' := by
 have HR0 := Zq.i hr0
 have HC0 := Zq.i hc0
 clear hr0 hc0
 have HB := Zq.i (Below.refl w.heap.size w)
 have H := h
 unfold laws_FnSample.f at H
 clear h
 replace H := bM H
 obtain ⟨t681, A20, H⟩ := H
 try dsimp only at H
 have A2 := Zq.i A20
 clear A20
 by_cases c3 : t681 = true
 ·subst c3
  rw [if_pos rfl] at H
  obtain rfl := oI H
  go_enter Try.func7, Try.ntmps7
  go_wp2_with (first | ((with_reducible refine gate_callee (f := 14) rfl ?_); refine goesL_ (some 11) rfl rfl Try.func14 dq24 rfl #[.slice A0 l0.length c0] rfl dq23 ?_; (with_reducible refine (laws_big.calls _ _ l0 true _ ?side1 ?side2 A2.out).mono ?_); (case side1 => exact dq3); (case side2 => exact dq4); rintro e w' ⟨rfl, ⟨nd, rfl⟩⟩; refine ⟨_, rfl, ?_⟩))
  go_ret
  exact ⟨dq21, dq17⟩
 replace c3 := Bool.eq_false_iff.mpr c3
 subst c3
 rw [iN] at H
 replace H := bM H
 obtain ⟨t682, A40, H⟩ := H
 try dsimp only at H
 have A4 := Zq.i A40
 clear A40
 replace H := bM H
 obtain ⟨⟨t685, t686⟩, A50, H⟩ := H
 try dsimp only at H
 have A5 := Zq.i A50
 clear A50
 replace H := bM H
 obtain ⟨⟨t689, t690⟩, A60, H⟩ := H
 try dsimp only at H
 have A6 := Zq.i A60
 clear A60
 have HC7 := Zq.i H
 clear H
 go_enter Try.func7, Try.ntmps7
 go_upto_region 6 with (first | ((with_reducible refine gate_callee (f := 14) rfl ?_); refine goesL_ (some 11) rfl rfl Try.func14 dq24 rfl #[.slice A0 l0.length c0] rfl dq23 ?_; (with_reducible refine (laws_big.calls _ _ l0 false _ ?side1 ?side2 A2.out).mono ?_); (case side1 => exact dq3); (case side2 => exact dq4); rintro e w' ⟨rfl, ⟨nd, rfl⟩⟩; refine ⟨_, rfl, ?_⟩) | ((with_reducible refine gate_callee (f := 36) rfl ?_); refine goesL_ (some 13) rfl rfl Try.func36 dq24 rfl #[.slice A0 l0.length c0] rfl dq23 ?_; (with_reducible refine (spec_DrawSample.calls k _ _ l0 t682 _ ?side1 ?side2 A4.out).mono ?_); (case side1 => exact dq3); (case side2 => exact dq4); rintro e w8 ⟨v683, rfl, ho0, hb⟩; refine ⟨_, rfl, ?_⟩; have HO684 := Zq.i (Kd.S_lower ho0 (below_size dq17)); replace HB := Zq.i (below_step dq17 hb); (try clear hb ho0); obtain ⟨Ao9, co9, eo9⟩ := Kd.S_slice HO684.out; subst eo9) | ((with_reducible refine gate_callee (f := 37) rfl ?_); refine goesL_ (some 16) rfl rfl Try.func37 dq24 rfl #[.slice Ao9 t682.length co9] rfl dq23 ?_; (with_reducible refine (impl_Sample.calls k _ _ t682 t685 t686 _ ?side1 ?side2 A5.out).mono ?_); (case side1 => repeat (first | exact (Kd.S_reads' HO684.out).2.2 | (with_reducible refine Kd.C_alloc ?_ _) | (with_reducible refine Kd.C_drewN ?_ _) | (with_reducible refine Kd.C_drew ?_))); (case side2 => exact (Kd.S_reads' HO684.out).2.1); rintro e w10 ⟨v687, rfl, ho0, hb⟩; refine ⟨_, rfl, ?_⟩; replace HO684 := Zq.i (Kd.S_below dq118 hb); have HO688 := Zq.i (Kd.R_lower ho0 (below_size dq17)); replace HB := Zq.i (below_step dq17 hb); (try clear hb ho0)) | ((with_reducible refine gate_callee (f := 38) rfl ?_); refine goesL_ (some 21) rfl rfl Try.func38 dq24 rfl #[.slice Ao9 t682.length co9] rfl dq23 ?_; (with_reducible refine (spec_Sample.calls k _ _ t682 t689 t690 _ ?side1 ?side2 A6.out).mono ?_); (case side1 => repeat (first | exact (Kd.S_reads' HO684.out).2.2 | (with_reducible refine Kd.C_alloc ?_ _) | (with_reducible refine Kd.C_drewN ?_ _) | (with_reducible refine Kd.C_drew ?_))); (case side2 => exact (Kd.S_reads' HO684.out).2.1); rintro e w11 ⟨v691, rfl, ho0, hb⟩; refine ⟨_, rfl, ?_⟩; replace HO684 := Zq.i (Kd.S_below dq118 hb); have HO692 := Zq.i (Kd.R_lower (Kd.R_new' ho0 (Kd.R_lt (by (with_reducible repeat (first | apply Kd.R_alloc | apply Kd.R_drewN | apply Kd.R_drew)); exact HO688.out))) (below_size dq17)); replace HO688 := Zq.i (Kd.R_elder' (by (with_reducible repeat (first | apply Kd.R_alloc | apply Kd.R_drewN | apply Kd.R_drew)); exact HO688.out) (Kd.R_base ho0) hb); replace HB := Zq.i (below_step dq17 hb); (try clear hb ho0)))
 (try simp only [Act.put, List.setIfInBounds_toArray, List.set_cons_zero, List.set_cons_succ])
 go_cut [36] (fun v36 wc => ∃ (kq : Nat) (x36_6 : Bool), v36 = .bool x36_6 ∧ Zq (laws_FnSample.j0 kq l0 t682 t685 t686 t689 t690 x36_6 = some r) ∧ Zq (kq ≤ k) ∧ Zq (Kd.S k42 42 wc w.heap.size (fun _ => True) (.slice Ao9 t682.length co9) t682) ∧ Zq (Kd.R Kd.string 9 wc w.heap.size (fun k_ => some k_ ≠ (v691 : Value).ownBlock) v687 t685) ∧ Zq (Kd.R Kd.string 9 wc w.heap.size (fun k_ => some k_ ≠ (v687 : Value).ownBlock) v691 t689) ∧ Zq (Below w.heap.size w wc))
 case first =>
  have H := HC7.out
  clear HC7
  by_cases c12 : (t686 != t690) = true
  ·rw [if_pos c12] at H
   have c12b0 : (t686 != t690) = true := c12
   (try (have c12b1 : decide (t686 = t690) = false := by simpa using c12))
   (try (have c12b2 : (t686 == t690) = false := by simpa using c12))
   (try (have c12b3 : ¬ (t686 = t690) := by simpa using c12))
   clear c12
   (first | rw [c12b0] | (simp only [i64_w, i32_w]; rw [c12b0]) | skip)
   have H' := Zq.i H
   clear H
   go_wp2
   go_meet
   case rel => exact ⟨_, (true), dq14, H', ⟨dq26⟩, ⟨dq118⟩, ⟨dq120⟩, ⟨dq119⟩, ⟨dq17⟩⟩
  rw [if_neg c12] at H
  have c12b0 : (t686 != t690) = false := by simpa using c12
  (try (have c12b1 : decide (t686 = t690) = true := by simpa using c12))
  (try (have c12b2 : (t686 == t690) = true := by simpa using c12))
  clear c12
  (first | rw [c12b0] | (simp only [i64_w, i32_w]; rw [c12b0]) | skip)
  replace H := bM H
  obtain ⟨t693, A130, H⟩ := H
  try dsimp only at H
  have A13 := Zq.i A130
  clear A130
  by_cases c14 : t693 = true
  ·subst c14
   rw [if_pos rfl] at H
   have H' := Zq.i H
   clear H
   obtain ⟨Ao15, co15, eo15⟩ := Kd.R_slice HO688.out
   subst eo15
   obtain ⟨Ao16, co16, eo16⟩ := Kd.R_slice HO692.out
   subst eo16
   go_wp2_with (first | (go_at_call 39; (with_reducible refine (laws_sameTexts.calls k _ _ t685 _ _ t689 true _ ?side1 ?side2 ?side3 ?side4 A13.out).mono ?_); (case side1 => repeat (first | exact (Kd.R_reads' HO688.out).2.2 | (with_reducible refine Kd.C_alloc ?_ _) | (with_reducible refine Kd.C_drewN ?_ _) | (with_reducible refine Kd.C_drew ?_))); (case side2 => exact (Kd.R_reads' HO688.out).2.1); (case side3 => repeat (first | exact (Kd.R_reads' HO692.out).2.2 | (with_reducible refine Kd.C_alloc ?_ _) | (with_reducible refine Kd.C_drewN ?_ _) | (with_reducible refine Kd.C_drew ?_))); (case side4 => exact (Kd.R_reads' HO692.out).2.1); rintro e w' ⟨rfl, ⟨nd, rfl⟩⟩))
   go_meet
   case rel => exact ⟨_, (!t686), dq14, H', ⟨dq26⟩, ⟨dq118⟩, ⟨dq120⟩, ⟨dq119⟩, ⟨dq17⟩⟩
  replace c14 := Bool.eq_false_iff.mpr c14
  subst c14
  rw [iN] at H
  have H' := Zq.i H
  clear H
  obtain ⟨Ao17, co17, eo17⟩ := Kd.R_slice HO688.out
  subst eo17
  obtain ⟨Ao18, co18, eo18⟩ := Kd.R_slice HO692.out
  subst eo18
  go_wp2_with (first | (go_at_call 39; (with_reducible refine (laws_sameTexts.calls k _ _ t685 _ _ t689 false _ ?side1 ?side2 ?side3 ?side4 A13.out).mono ?_); (case side1 => repeat (first | exact (Kd.R_reads' HO688.out).2.2 | (with_reducible refine Kd.C_alloc ?_ _) | (with_reducible refine Kd.C_drewN ?_ _) | (with_reducible refine Kd.C_drew ?_))); (case side2 => exact (Kd.R_reads' HO688.out).2.1); (case side3 => repeat (first | exact (Kd.R_reads' HO692.out).2.2 | (with_reducible refine Kd.C_alloc ?_ _) | (with_reducible refine Kd.C_drewN ?_ _) | (with_reducible refine Kd.C_drew ?_))); (case side4 => exact (Kd.R_reads' HO692.out).2.1); rintro e w' ⟨rfl, ⟨nd, rfl⟩⟩))
  go_meet
  case rel => exact ⟨_, (true), dq14, H', ⟨dq26⟩, ⟨dq118⟩, ⟨dq120⟩, ⟨dq119⟩, ⟨dq17⟩⟩
 clear HC7
 obtain ⟨kq, x36_6, rfl, HA, HJ6, HO_3, HO_4, HO_6, HB⟩ := hcut
 cases kq with
 | zero => exact absurd HA.out (by simp [laws_FnSample.j0])
 | succ kj6 =>
  have H := HA.out
  clear HA
  simp only [laws_FnSample.j0] at H
  by_cases c19 : x36_6 = true
  ·subst c19
   rw [if_pos rfl] at H
   by_cases c20 : (t686 == t690) = true
   rotate_left
   ·rw [if_neg c20] at H
    have c20b0 : (t686 == t690) = false := by simpa using c20
    (try (have c20b1 : decide (t686 = t690) = false := by simpa using c20))
    (try (have c20b2 : (t686 == t690) = false := by simpa using c20))
    (try (have c20b3 : ¬ (t686 = t690) := by simpa using c20))
    clear c20
    obtain rfl := oI H
    go_wp2
    go_ret
    exact ⟨dq21, dq17⟩
   rw [if_pos c20] at H
   have c20b0 : (t686 == t690) = true := c20
   (try (have c20b1 : decide (t686 = t690) = true := by simpa using c20))
   (try (have c20b2 : (t686 == t690) = true := by simpa using c20))
   clear c20
   replace H := bM H
   obtain ⟨t694, A210, H⟩ := H
   try dsimp only at H
   have A21 := Zq.i A210
   clear A210
   obtain rfl := oI H
   obtain ⟨Ao22, co22, eo22⟩ := Kd.R_slice HO_4.out
   subst eo22
   obtain ⟨Ao23, co23, eo23⟩ := Kd.R_slice HO_6.out
   subst eo23
   go_wp2_with (first | (go_at_call 39; (with_reducible refine (laws_sameTexts.calls kj6 _ _ t685 _ _ t689 t694 _ ?side1 ?side2 ?side3 ?side4 A21.out).mono ?_); (case side1 => exact dq11); (case side2 => exact (Kd.R_reads' HO_4.out).2.1); (case side3 => repeat (first | exact (Kd.R_reads' HO_6.out).2.2 | (with_reducible refine Kd.C_alloc ?_ _) | (with_reducible refine Kd.C_drewN ?_ _) | (with_reducible refine Kd.C_drew ?_))); (case side4 => exact (Kd.R_reads' HO_6.out).2.1); rintro e w' ⟨rfl, ⟨nd, rfl⟩⟩))
   go_ret
   exact ⟨dq21, dq17⟩
  replace c19 := Bool.eq_false_iff.mpr c19
  subst c19
  rw [iN] at H
  replace H := bM H
  obtain ⟨⟨t695, t696⟩, A240, H⟩ := H
  try dsimp only at H
  have A24 := Zq.i A240
  clear A240
  replace H := bM H
  obtain ⟨t701, A250, H⟩ := H
  try dsimp only at H
  have A25 := Zq.i A250
  clear A250
  by_cases c26 : t701 = true
  rotate_left
  ·replace c26 := Bool.eq_false_iff.mpr c26
   subst c26
   rw [iN] at H
   obtain rfl := oI H
   go_wp2_with (first | ((with_reducible refine gate_callee (f := 32) rfl ?_); refine goesL_ (some 47) rfl rfl Try.func32 dq24 rfl #[.slice A0 l0.length c0] rfl dq23 ?_; (with_reducible refine (spec_DrawAccepts.calls kj6 _ _ l0 t695 t696 _ ?side1 ?side2 A24.out).mono ?_); (case side1 => exact dq5); (case side2 => exact dq4); rintro e w48 ⟨v697, v699, rfl, ho0, ho1, hb⟩; refine ⟨_, rfl, ?_⟩; have HO698 := Zq.i (Kd.S_lower (Kd.S_new' ho0 (Kd.S_lt dq54)) (below_size dq17)); replace HO_3 := Zq.i (Kd.S_elder' dq54 (Kd.S_base ho0) hb); have HO700 := Zq.i (Kd.R_lower (Kd.R_new' (Kd.R_new' ho1 (Kd.R_lt dq93)) (Kd.R_lt dq83)) (below_size dq17)); replace HO_4 := Zq.i (Kd.R_elder' dq93 (Kd.R_base ho1) hb); replace HO_6 := Zq.i (Kd.R_elder' dq83 (Kd.R_base ho1) hb); replace HB := Zq.i (below_step dq17 hb); (try clear hb ho0 ho1); obtain ⟨Ao49, co49, eo49⟩ := Kd.R_slice HO_4.out; subst eo49) | ((with_reducible refine gate_callee (f := 21) rfl ?_); refine goesL_ (some 52) rfl rfl Try.func21 dq24 rfl #[.slice Ao9 t682.length co9, .slice Ao49 t685.length co49] rfl dq23 ?_; (with_reducible refine (impl_Accepts.calls kj6 _ _ t682 _ _ t685 false _ ?side1 ?side2 ?side3 ?side4 A25.out).mono ?_); (case side1 => exact dq12); (case side2 => exact (Kd.S_reads' HO_3.out).2.1); (case side3 => exact dq11); (case side4 => exact (Kd.R_reads' HO_4.out).2.1); rintro e w50 ⟨rfl, hb⟩; refine ⟨_, rfl, ?_⟩; replace HO_3 := Zq.i (Kd.S_below dq54 hb); replace HO_4 := Zq.i (Kd.R_below dq93 hb); replace HO_6 := Zq.i (Kd.R_below dq83 hb); replace HO698 := Zq.i (Kd.S_below dq122 hb); replace HO700 := Zq.i (Kd.R_below dq121 hb); replace HB := Zq.i (below_step dq17 hb); (try clear hb)))
   go_ret
   exact ⟨dq21, dq17⟩
  subst c26
  rw [if_pos rfl] at H
  by_cases c27 : (t696.length : Int) ≥ (t685.length : Int)
  ·rw [if_pos c27] at H
   have c27b0 : decide ((t685.length : Int) ≤ (t696.length : Int)) = true := dT c27
   have c27b1 : decide (t685.length ≤ t696.length) = true := dT (Int.ofNat_le.mp c27)
   clear c27
   replace H := bM H
   obtain ⟨t702, A280, H⟩ := H
   try dsimp only at H
   have A28 := Zq.i A280
   clear A280
   obtain rfl := oI H
   go_wp2_with (first | ((with_reducible refine gate_callee (f := 32) rfl ?_); refine goesL_ (some 47) rfl rfl Try.func32 dq24 rfl #[.slice A0 l0.length c0] rfl dq23 ?_; (with_reducible refine (spec_DrawAccepts.calls kj6 _ _ l0 t695 t696 _ ?side1 ?side2 A24.out).mono ?_); (case side1 => exact dq5); (case side2 => exact dq4); rintro e w29 ⟨v697, v699, rfl, ho0, ho1, hb⟩; refine ⟨_, rfl, ?_⟩; have HO698 := Zq.i (Kd.S_lower (Kd.S_new' ho0 (Kd.S_lt dq54)) (below_size dq17)); replace HO_3 := Zq.i (Kd.S_elder' dq54 (Kd.S_base ho0) hb); have HO700 := Zq.i (Kd.R_lower (Kd.R_new' (Kd.R_new' ho1 (Kd.R_lt dq93)) (Kd.R_lt dq83)) (below_size dq17)); replace HO_4 := Zq.i (Kd.R_elder' dq93 (Kd.R_base ho1) hb); replace HO_6 := Zq.i (Kd.R_elder' dq83 (Kd.R_base ho1) hb); replace HB := Zq.i (below_step dq17 hb); (try clear hb ho0 ho1); obtain ⟨Ao30, co30, eo30⟩ := Kd.R_slice HO_4.out; subst eo30) | ((with_reducible refine gate_callee (f := 21) rfl ?_); refine goesL_ (some 52) rfl rfl Try.func21 dq24 rfl #[.slice Ao9 t682.length co9, .slice Ao30 t685.length co30] rfl dq23 ?_; (with_reducible refine (impl_Accepts.calls kj6 _ _ t682 _ _ t685 true _ ?side1 ?side2 ?side3 ?side4 A25.out).mono ?_); (case side1 => exact dq12); (case side2 => exact (Kd.S_reads' HO_3.out).2.1); (case side3 => exact dq11); (case side4 => exact (Kd.R_reads' HO_4.out).2.1); rintro e w31 ⟨rfl, hb⟩; refine ⟨_, rfl, ?_⟩; replace HO_3 := Zq.i (Kd.S_below dq54 hb); replace HO_4 := Zq.i (Kd.R_below dq93 hb); replace HO_6 := Zq.i (Kd.R_below dq83 hb); replace HO698 := Zq.i (Kd.S_below dq122 hb); replace HO700 := Zq.i (Kd.R_below dq121 hb); replace HB := Zq.i (below_step dq17 hb); (try clear hb); obtain ⟨Ao32, co32, eo32⟩ := Kd.R_slice HO700.out; subst eo32) | (go_at_call 35; (with_reducible refine (impl_Nullable.calls kj6 _ _ t682 t702 _ ?side1 ?side2 A28.out).mono ?_); (case side1 => exact dq12); (case side2 => exact (Kd.S_reads' HO_3.out).2.1); rintro e w33 ⟨rfl, hb⟩; replace HO_3 := Zq.i (Kd.S_below dq54 hb); replace HO_4 := Zq.i (Kd.R_below dq93 hb); replace HO_6 := Zq.i (Kd.R_below dq83 hb); replace HO698 := Zq.i (Kd.S_below dq122 hb); replace HO700 := Zq.i (Kd.R_below dq121 hb); replace HB := Zq.i (below_step dq17 hb); (try clear hb)))
   go_ret
   exact ⟨dq21, dq17⟩
  rw [if_neg c27] at H
  have c27b0 : decide ((t685.length : Int) ≤ (t696.length : Int)) = false := dF c27
  have c27b1 : decide (t685.length ≤ t696.length) = false := dF (fun h => c27 (Int.ofNat_le.mpr h))
  clear c27
  replace H := bM H
  obtain ⟨t703, A340, H⟩ := H
  try dsimp only at H
  have A34 := Zq.i A340
  clear A340
  by_cases c35 : t703 = true
  ·subst c35
   rw [if_pos rfl] at H
   obtain rfl := oI H
   go_wp2_with (first | ((with_reducible refine gate_callee (f := 32) rfl ?_); refine goesL_ (some 47) rfl rfl Try.func32 dq24 rfl #[.slice A0 l0.length c0] rfl dq23 ?_; (with_reducible refine (spec_DrawAccepts.calls kj6 _ _ l0 t695 t696 _ ?side1 ?side2 A24.out).mono ?_); (case side1 => exact dq5); (case side2 => exact dq4); rintro e w36 ⟨v697, v699, rfl, ho0, ho1, hb⟩; refine ⟨_, rfl, ?_⟩; have HO698 := Zq.i (Kd.S_lower (Kd.S_new' ho0 (Kd.S_lt dq54)) (below_size dq17)); replace HO_3 := Zq.i (Kd.S_elder' dq54 (Kd.S_base ho0) hb); have HO700 := Zq.i (Kd.R_lower (Kd.R_new' (Kd.R_new' ho1 (Kd.R_lt dq93)) (Kd.R_lt dq83)) (below_size dq17)); replace HO_4 := Zq.i (Kd.R_elder' dq93 (Kd.R_base ho1) hb); replace HO_6 := Zq.i (Kd.R_elder' dq83 (Kd.R_base ho1) hb); replace HB := Zq.i (below_step dq17 hb); (try clear hb ho0 ho1); obtain ⟨Ao37, co37, eo37⟩ := Kd.R_slice HO_4.out; subst eo37) | ((with_reducible refine gate_callee (f := 21) rfl ?_); refine goesL_ (some 52) rfl rfl Try.func21 dq24 rfl #[.slice Ao9 t682.length co9, .slice Ao37 t685.length co37] rfl dq23 ?_; (with_reducible refine (impl_Accepts.calls kj6 _ _ t682 _ _ t685 true _ ?side1 ?side2 ?side3 ?side4 A25.out).mono ?_); (case side1 => exact dq12); (case side2 => exact (Kd.S_reads' HO_3.out).2.1); (case side3 => exact dq11); (case side4 => exact (Kd.R_reads' HO_4.out).2.1); rintro e w38 ⟨rfl, hb⟩; refine ⟨_, rfl, ?_⟩; replace HO_3 := Zq.i (Kd.S_below dq54 hb); replace HO_4 := Zq.i (Kd.R_below dq93 hb); replace HO_6 := Zq.i (Kd.R_below dq83 hb); replace HO698 := Zq.i (Kd.S_below dq122 hb); replace HO700 := Zq.i (Kd.R_below dq121 hb); replace HB := Zq.i (below_step dq17 hb); (try clear hb); obtain ⟨Ao39, co39, eo39⟩ := Kd.R_slice HO700.out; subst eo39) | (go_at_call 21; (with_reducible refine (impl_Accepts.calls kj6 _ _ t682 _ _ t696 true _ ?side1 ?side2 ?side3 ?side4 A34.out).mono ?_); (case side1 => exact dq12); (case side2 => exact (Kd.S_reads' HO_3.out).2.1); (case side3 => repeat (first | exact (Kd.R_reads' HO700.out).2.2 | (with_reducible refine Kd.C_alloc ?_ _) | (with_reducible refine Kd.C_drewN ?_ _) | (with_reducible refine Kd.C_drew ?_))); (case side4 => exact (Kd.R_reads' HO700.out).2.1); rintro e w40 ⟨rfl, hb⟩; replace HO_3 := Zq.i (Kd.S_below dq54 hb); replace HO_4 := Zq.i (Kd.R_below dq93 hb); replace HO_6 := Zq.i (Kd.R_below dq83 hb); replace HO698 := Zq.i (Kd.S_below dq122 hb); replace HO700 := Zq.i (Kd.R_below dq121 hb); replace HB := Zq.i (below_step dq17 hb); (try clear hb)))
   go_ret
   exact ⟨dq21, dq17⟩
  replace c35 := Bool.eq_false_iff.mpr c35
  subst c35
  rw [iN] at H
  replace H := bM H
  obtain ⟨t704, A410, H⟩ := H
  try dsimp only at H
  have A41 := Zq.i A410
  clear A410
  obtain rfl := oI H
  go_wp2_with (first | ((with_reducible refine gate_callee (f := 32) rfl ?_); refine goesL_ (some 47) rfl rfl Try.func32 dq24 rfl #[.slice A0 l0.length c0] rfl dq23 ?_; (with_reducible refine (spec_DrawAccepts.calls kj6 _ _ l0 t695 t696 _ ?side1 ?side2 A24.out).mono ?_); (case side1 => exact dq5); (case side2 => exact dq4); rintro e w42 ⟨v697, v699, rfl, ho0, ho1, hb⟩; refine ⟨_, rfl, ?_⟩; have HO698 := Zq.i (Kd.S_lower (Kd.S_new' ho0 (Kd.S_lt dq54)) (below_size dq17)); replace HO_3 := Zq.i (Kd.S_elder' dq54 (Kd.S_base ho0) hb); have HO700 := Zq.i (Kd.R_lower (Kd.R_new' (Kd.R_new' ho1 (Kd.R_lt dq93)) (Kd.R_lt dq83)) (below_size dq17)); replace HO_4 := Zq.i (Kd.R_elder' dq93 (Kd.R_base ho1) hb); replace HO_6 := Zq.i (Kd.R_elder' dq83 (Kd.R_base ho1) hb); replace HB := Zq.i (below_step dq17 hb); (try clear hb ho0 ho1); obtain ⟨Ao43, co43, eo43⟩ := Kd.R_slice HO_4.out; subst eo43) | ((with_reducible refine gate_callee (f := 21) rfl ?_); refine goesL_ (some 52) rfl rfl Try.func21 dq24 rfl #[.slice Ao9 t682.length co9, .slice Ao43 t685.length co43] rfl dq23 ?_; (with_reducible refine (impl_Accepts.calls kj6 _ _ t682 _ _ t685 true _ ?side1 ?side2 ?side3 ?side4 A25.out).mono ?_); (case side1 => exact dq12); (case side2 => exact (Kd.S_reads' HO_3.out).2.1); (case side3 => exact dq11); (case side4 => exact (Kd.R_reads' HO_4.out).2.1); rintro e w44 ⟨rfl, hb⟩; refine ⟨_, rfl, ?_⟩; replace HO_3 := Zq.i (Kd.S_below dq54 hb); replace HO_4 := Zq.i (Kd.R_below dq93 hb); replace HO_6 := Zq.i (Kd.R_below dq83 hb); replace HO698 := Zq.i (Kd.S_below dq122 hb); replace HO700 := Zq.i (Kd.R_below dq121 hb); replace HB := Zq.i (below_step dq17 hb); (try clear hb); obtain ⟨Ao45, co45, eo45⟩ := Kd.R_slice HO700.out; subst eo45) | (go_at_call 21; (with_reducible refine (impl_Accepts.calls kj6 _ _ t682 _ _ t696 false _ ?side1 ?side2 ?side3 ?side4 A34.out).mono ?_); (case side1 => exact dq12); (case side2 => exact (Kd.S_reads' HO_3.out).2.1); (case side3 => repeat (first | exact (Kd.R_reads' HO700.out).2.2 | (with_reducible refine Kd.C_alloc ?_ _) | (with_reducible refine Kd.C_drewN ?_ _) | (with_reducible refine Kd.C_drew ?_))); (case side4 => exact (Kd.R_reads' HO700.out).2.1); rintro e w46 ⟨rfl, hb⟩; replace HO_3 := Zq.i (Kd.S_below dq54 hb); replace HO_4 := Zq.i (Kd.R_below dq93 hb); replace HO_6 := Zq.i (Kd.R_below dq83 hb); replace HO698 := Zq.i (Kd.S_below dq122 hb); replace HO700 := Zq.i (Kd.R_below dq121 hb); replace HB := Zq.i (below_step dq17 hb); (try clear hb)) | (go_at_call 35; (with_reducible refine (impl_Nullable.calls kj6 _ _ t682 t704 _ ?side1 ?side2 A41.out).mono ?_); (case side1 => exact dq12); (case side2 => exact (Kd.S_reads' HO_3.out).2.1); rintro e w47 ⟨rfl, hb⟩; replace HO_3 := Zq.i (Kd.S_below dq54 hb); replace HO_4 := Zq.i (Kd.R_below dq93 hb); replace HO_6 := Zq.i (Kd.R_below dq83 hb); replace HO698 := Zq.i (Kd.S_below dq122 hb); replace HO700 := Zq.i (Kd.R_below dq121 hb); replace HB := Zq.i (below_step dq17 hb); (try clear hb)))
  go_ret
  exact ⟨dq21, dq17⟩

def laws_FnSample.Pure : Prop := ∀ (l0 : List Int), l0.length ≤ maxLen → l0.length * 1 ≤ 140737488351232 → (∀ x ∈ l0, (Lit.int .u8 x).wf = true) → ∃ k, laws_FnSample.f k l0 = some true
theorem laws_FnSample.walk (P : laws_FnSample.Pure) (a0 : Option Addr) (len0 cap0 : Nat) (z0 : List Int) (w : World) (w0 : (a0 = none ∧ len0 = 0 ∧ cap0 = 0 ∧ z0 = []) ∨ ∃ x, a0 = some x ∧ len0 ≤ cap0 ∧ cap0 ≤ maxLen ∧ z0.length = cap0 ∧ (∀ i, i < z0.length → w.cell? (x.add i) = some (.int .u8 (z0.getD i 0))) ∧ ∀ n ∈ z0, (Lit.int .u8 n).wf = true) (y0 : len0 * 1 ≤ 140737488351232) :
  Calls Try.prog 7 #[.slice a0 len0 cap0] w fun e w' => e = .returned (.bool true) ∧ Below w.heap.size w w' := by
 obtain ⟨l0, rfl, hr0, hm0, hw0, hc0⟩ := ReadsInt.ofRowC w0
 obtain ⟨k, h⟩ := P l0 hm0 y0 hw0
 refine (laws_FnSample.calls k _ _ l0 true w (Kd.C_of_reads (d := (0 : Int)) (h1 := fun _ => rfl) hr0) hc0 h).mono ?_
 rintro e w' ⟨rfl, hd⟩
 exact ⟨rfl, hd⟩

end Go.Proofs.Ytajdfbgbkgabjaa.L

namespace Go.Proofs.Ytajdfbgbkgabjaa.Pure
namespace MT
structure Nd where
 kind : Int
 name : ByteArray
 kids : List Nat
 occ : Int
abbrev Md := List Nd
def Nd.pos (x : Nd) : Bool := x.kind == 1 || x.kind == 4
def Nd.opt (x : Nd) : Bool := x.occ == 1 || x.occ == 2
def Nd.oft (x : Nd) : Bool := x.occ == 2 || x.occ == 3
instance : Inhabited Nd := ⟨⟨2, ByteArray.empty, [], 0⟩⟩
def nd (p : Md) (i : Nat) : Nd := p.getD i default
def nul (p : Md) (i : Nat) : Bool :=
 (if (nd p i).kind = 2 then (nd p i).kids.all (fun k => if _h : k < i then nul p k else false) else if (nd p i).kind = 3 then (nd p i).kids.any (fun k => if _h : k < i then nul p k else false) else false) || (nd p i).opt
termination_by i
def pre (N : Nat → Bool) (F : Nat → List Nat) : List Nat → List Nat
 | [] => []
 | k :: ks => F k ++ (if N k then pre N F ks else [])
def suf (N : Nat → Bool) (L : Nat → List Nat) : List Nat → List Nat → List Nat
 | acc, [] => acc
 | acc, k :: ks => suf N L ((if N k then acc else []) ++ L k) ks
def fst (p : Md) (i : Nat) : List Nat :=
 if (nd p i).pos = true then [i] else if (nd p i).kind = 3 then (nd p i).kids.flatMap (fun k => if _h : k < i then fst p k else []) else pre (nul p) (fun k => if _h : k < i then fst p k else []) (nd p i).kids
termination_by i
def lst (p : Md) (i : Nat) : List Nat :=
 if (nd p i).pos = true then [i] else if (nd p i).kind = 3 then (nd p i).kids.flatMap (fun k => if _h : k < i then lst p k else []) else suf (nul p) (fun k => if _h : k < i then lst p k else []) [] (nd p i).kids
termination_by i
def led (p : Md) (j a b : Nat) : Prop :=
 ((nd p j).kind = 2 ∧ ∃ us k vs, (nd p j).kids = us ++ k :: vs ∧ a ∈ suf (nul p) (lst p) [] us ∧ b ∈ fst p k) ∨ ((nd p j).oft = true ∧ a ∈ lst p j ∧ b ∈ fst p j)
def fol (p : Md) (a b : Nat) : Prop := ∃ j, j < p.length ∧ led p j a b
def Ahead (p : Md) : Prop := ∀ i, i < p.length → ∀ k ∈ (nd p i).kids, k < i
def Chain (lo : Nat → Nat) : Nat → List Nat → Nat → Prop
 | e, [], b => b = e
 | e, k :: ks, b => ∃ m, Chain lo e ks m ∧ m = k + 1 ∧ b = lo k
structure Tree (p : Md) (lo : Nat → Nat) : Prop where
 chain : ∀ i, i < p.length → Chain lo i (nd p i).kids (lo i)
 kinds : ∀ i, i < p.length → ((nd p i).pos = true ∧ (nd p i).kids = []) ∨ (nd p i).kind = 2 ∨ ((nd p i).kind = 3 ∧ 2 ≤ (nd p i).kids.length)
theorem Chain.facts {lo : Nat → Nat} : ∀ {ks : List Nat} {e b : Nat}, (∀ k, k < e → lo k ≤ k) → Chain lo e ks b → b ≤ e ∧ (∀ k ∈ ks, b ≤ lo k ∧ k < e) ∧ ks.Pairwise (fun k k' => k < lo k')
 | [], e, b, h, hc => ⟨by have : b = e := hc; omega, by simp, .nil⟩
 | k :: ks, e, b, h, hc => by
  obtain ⟨m, h1, h2, h3⟩ := hc
  obtain ⟨a1, a2, a3⟩ := Chain.facts h h1
  have hk := h k (by omega)
  refine ⟨by omega, ?_, List.pairwise_cons.2 ⟨fun k' hk' => ?_, a3⟩⟩
  ·intro k' hk'
   rcases List.mem_cons.1 hk' with rfl | h'
   ·omega
   ·have := a2 k' h'; omega
  ·have := a2 k' hk'; omega
section
variable {p : Md} {lo : Nat → Nat} (T : Tree p lo)
include T
theorem Tree.le : ∀ i, i < p.length → lo i ≤ i := by
 intro i
 induction i using Nat.strongRecOn with
 | _ i ih =>
 intro hi
 exact (Chain.facts (fun k hk => ih k hk (by omega)) (T.chain i hi)).1
theorem Tree.kid {i k : Nat} (hi : i < p.length) (hk : k ∈ (nd p i).kids) : lo i ≤ lo k ∧ k < i := (Chain.facts (fun k hk => T.le k (by omega)) (T.chain i hi)).2.1 k hk
theorem Tree.apart {i : Nat} (hi : i < p.length) : (nd p i).kids.Pairwise (fun k k' => k < lo k') := (Chain.facts (fun k hk => T.le k (by omega)) (T.chain i hi)).2.2
theorem Tree.ahead : Ahead p := fun i hi k hk => (T.kid hi hk).2
end
theorem pre_congr {N N' : Nat → Bool} {F F' : Nat → List Nat} : ∀ {ks : List Nat}, (∀ k ∈ ks, N k = N' k ∧ F k = F' k) → pre N F ks = pre N' F' ks
 | [], _ => rfl
 | k :: ks, h => by
  have h1 := h k (by simp)
  unfold pre
  rw [h1.1, h1.2, pre_congr (fun k' hk' => h k' (by simp [hk']))]
theorem suf_congr {N N' : Nat → Bool} {F F' : Nat → List Nat} : ∀ {ks acc : List Nat}, (∀ k ∈ ks, N k = N' k ∧ F k = F' k) → suf N F acc ks = suf N' F' acc ks
 | [], acc, _ => rfl
 | k :: ks, acc, h => by
  have h1 := h k (by simp)
  unfold suf
  rw [h1.1, h1.2, suf_congr (fun k' hk' => h k' (by simp [hk']))]
theorem flatMap_congr {F F' : Nat → List Nat} : ∀ {ks : List Nat}, (∀ k ∈ ks, F k = F' k) → ks.flatMap F = ks.flatMap F'
 | [], _ => rfl
 | k :: ks, h => by rw [List.flatMap_cons, List.flatMap_cons, h k (by simp), flatMap_congr (fun k' hk' => h k' (by simp [hk']))]
theorem all_congr {N N' : Nat → Bool} : ∀ {ks : List Nat}, (∀ k ∈ ks, N k = N' k) → ks.all N = ks.all N'
 | [], _ => rfl
 | k :: ks, h => by rw [List.all_cons, List.all_cons, h k (by simp), all_congr (fun k' hk' => h k' (by simp [hk']))]
theorem any_congr {N N' : Nat → Bool} : ∀ {ks : List Nat}, (∀ k ∈ ks, N k = N' k) → ks.any N = ks.any N'
 | [], _ => rfl
 | k :: ks, h => by rw [List.any_cons, List.any_cons, h k (by simp), any_congr (fun k' hk' => h k' (by simp [hk']))]
section
variable {p : Md} (A : Ahead p)
include A
theorem nul_eq {i : Nat} (hi : i < p.length) : nul p i = ((if (nd p i).kind = 2 then (nd p i).kids.all (nul p) else if (nd p i).kind = 3 then (nd p i).kids.any (nul p) else false) || (nd p i).opt) := by
 conv => lhs; rw [nul]
 rw [all_congr (N' := nul p) (fun k hk => by rw [dif_pos (A i hi k hk)]), any_congr (N' := nul p) (fun k hk => by rw [dif_pos (A i hi k hk)])]
theorem fst_eq {i : Nat} (hi : i < p.length) : fst p i = if (nd p i).pos = true then [i] else if (nd p i).kind = 3 then (nd p i).kids.flatMap (fst p) else pre (nul p) (fst p) (nd p i).kids := by
 conv => lhs; rw [fst]
 rw [flatMap_congr (F' := fst p) (fun k hk => by rw [dif_pos (A i hi k hk)]), pre_congr (N' := nul p) (F' := fst p) (fun k hk => ⟨rfl, by rw [dif_pos (A i hi k hk)]⟩)]
theorem lst_eq {i : Nat} (hi : i < p.length) : lst p i = if (nd p i).pos = true then [i] else if (nd p i).kind = 3 then (nd p i).kids.flatMap (lst p) else suf (nul p) (lst p) [] (nd p i).kids := by
 conv => lhs; rw [lst]
 rw [flatMap_congr (F' := lst p) (fun k hk => by rw [dif_pos (A i hi k hk)]), suf_congr (N' := nul p) (F' := lst p) (fun k hk => ⟨rfl, by rw [dif_pos (A i hi k hk)]⟩)]
end
theorem mem_pre {N : Nat → Bool} {F : Nat → List Nat} {a : Nat} : ∀ {ks : List Nat}, a ∈ pre N F ks ↔ ∃ us k vs, ks = us ++ k :: vs ∧ (∀ u ∈ us, N u = true) ∧ a ∈ F k
 | [] => by simp [pre]
 | k :: ks => by
  unfold pre
  rw [List.mem_append]
  constructor
  ·rintro (h | h)
   ·exact ⟨[], k, ks, rfl, by simp, h⟩
   ·cases hN : N k with
    | false => rw [hN] at h; simp at h
    | true =>
     rw [hN, if_pos rfl] at h
     obtain ⟨us, k', vs, e, hu, ha⟩ := mem_pre.1 h
     refine ⟨k :: us, k', vs, by rw [e]; rfl, ?_, ha⟩
     intro u hu'
     rcases List.mem_cons.1 hu' with rfl | h'
     ·exact hN
     ·exact hu u h'
  ·rintro ⟨us, k', vs, e, hu, ha⟩
   cases us with
   | nil =>
    simp only [List.nil_append, List.cons.injEq] at e
    exact .inl (e.1 ▸ ha)
   | cons u us =>
    simp only [List.cons_append, List.cons.injEq] at e
    obtain ⟨rfl, rfl⟩ := e
    right
    rw [hu k (by simp), if_pos rfl]
    exact mem_pre.2 ⟨us, k', vs, rfl, fun x hx => hu x (by simp [hx]), ha⟩
theorem mem_suf {N : Nat → Bool} {L : Nat → List Nat} {a : Nat} : ∀ {ks acc : List Nat}, a ∈ suf N L acc ks ↔ (a ∈ acc ∧ ∀ u ∈ ks, N u = true) ∨ ∃ us k vs, ks = us ++ k :: vs ∧ (∀ v ∈ vs, N v = true) ∧ a ∈ L k
 | [], acc => by simp [suf]
 | k :: ks, acc => by
  unfold suf
  rw [mem_suf]
  constructor
  ·rintro (⟨h, hu⟩ | ⟨us, k', vs, e, hv, ha⟩)
   ·rcases List.mem_append.1 h with h | h
    ·left
     cases hN : N k with
     | false => rw [hN] at h; simp at h
     | true =>
      rw [hN, if_pos rfl] at h
      refine ⟨h, ?_⟩
      intro u hu'
      rcases List.mem_cons.1 hu' with rfl | h'
      ·exact hN
      ·exact hu u h'
    ·exact .inr ⟨[], k, ks, rfl, hu, h⟩
   ·exact .inr ⟨k :: us, k', vs, by rw [e]; rfl, hv, ha⟩
  ·rintro (⟨h, hu⟩ | ⟨us, k', vs, e, hv, ha⟩)
   ·left
    refine ⟨List.mem_append.2 (.inl ?_), fun u h' => hu u (by simp [h'])⟩
    rw [hu k (by simp), if_pos rfl]
    exact h
   ·cases us with
    | nil =>
     simp only [List.nil_append, List.cons.injEq] at e
     obtain ⟨rfl, rfl⟩ := e
     exact .inl ⟨List.mem_append.2 (.inr ha), hv⟩
    | cons u us =>
     simp only [List.cons_append, List.cons.injEq] at e
     obtain ⟨rfl, rfl⟩ := e
     exact .inr ⟨us, k', vs, rfl, hv, ha⟩
section
variable {p : Md} {lo : Nat → Nat} (T : Tree p lo)
include T
theorem edge_in (E : Md → Nat → List Nat) (hE : E = fst ∨ E = lst) : ∀ i, i < p.length → ∀ a ∈ E p i, lo i ≤ a ∧ a ≤ i ∧ (nd p a).pos = true := by
 intro i
 induction i using Nat.strongRecOn with
 | _ i ih =>
 intro hi a ha
 have key : ∀ k ∈ (nd p i).kids, a ∈ E p k → lo i ≤ a ∧ a ≤ i ∧ (nd p a).pos = true := by
  intro k hk hak
  have h1 := T.kid hi hk
  have h2 := ih k h1.2 (by omega) a hak
  exact ⟨by omega, by omega, h2.2.2⟩
 have hle := T.le i hi
 rcases hE with rfl | rfl
 ·rw [fst_eq T.ahead hi] at ha
  split at ha
  ·rename_i hp
   obtain rfl : a = i := by simpa using ha
   exact ⟨hle, Nat.le_refl _, hp⟩
  ·split at ha
   ·obtain ⟨k, hk, hak⟩ := List.mem_flatMap.1 ha
    exact key k hk hak
   ·obtain ⟨us, k, vs, e, _, hak⟩ := mem_pre.1 ha
    exact key k (by rw [e]; simp) hak
 ·rw [lst_eq T.ahead hi] at ha
  split at ha
  ·rename_i hp
   obtain rfl : a = i := by simpa using ha
   exact ⟨hle, Nat.le_refl _, hp⟩
  ·split at ha
   ·obtain ⟨k, hk, hak⟩ := List.mem_flatMap.1 ha
    exact key k hk hak
   ·rcases mem_suf.1 ha with ⟨h, _⟩ | ⟨us, k, vs, e, _, hak⟩
    ·simp at h
    ·exact key k (by rw [e]; simp) hak
omit T in
theorem nodup_flat {F : Nat → List Nat} : ∀ {ks : List Nat}, (∀ k ∈ ks, (F k).Nodup) → ks.Pairwise (fun k k' => ∀ a ∈ F k, a ∉ F k') → (ks.flatMap F).Nodup
 | [], _, _ => by simp
 | k :: ks, h, hp => by
  rw [List.flatMap_cons]
  rw [List.pairwise_cons] at hp
  refine List.nodup_append.2 ⟨h k (by simp), nodup_flat (fun k' hk' => h k' (by simp [hk'])) hp.2, ?_⟩
  intro a ha b hb e
  subst e
  obtain ⟨k', hk', hak'⟩ := List.mem_flatMap.1 hb
  exact hp.1 k' hk' a ha hak'
omit T in
theorem pre_sub {N : Nat → Bool} {F : Nat → List Nat} : ∀ ks : List Nat, (pre N F ks).Sublist (ks.flatMap F)
 | [] => by simp [pre]
 | k :: ks => by
  rw [pre, List.flatMap_cons]
  refine List.Sublist.append (List.Sublist.refl _) ?_
  split
  ·exact pre_sub ks
  ·exact List.nil_sublist _
omit T in
theorem suf_sub {N : Nat → Bool} {L : Nat → List Nat} : ∀ ks acc : List Nat, (suf N L acc ks).Sublist (acc ++ ks.flatMap L)
 | [], acc => by simp [suf]
 | k :: ks, acc => by
  rw [suf, List.flatMap_cons]
  refine (suf_sub ks _).trans ?_
  rw [← List.append_assoc]
  refine List.Sublist.append ?_ (List.Sublist.refl _)
  refine List.Sublist.append ?_ (List.Sublist.refl _)
  split
  ·exact List.Sublist.refl _
  ·exact List.nil_sublist _
theorem edge_apart (E : Md → Nat → List Nat) (hE : E = fst ∨ E = lst) {i : Nat} (hi : i < p.length) : (nd p i).kids.Pairwise (fun k k' => ∀ a ∈ E p k, a ∉ E p k') := by
 have h : (nd p i).kids.Pairwise (fun k k' => k < i ∧ k' < i ∧ k < lo k') :=
  List.Pairwise.imp_of_mem (fun {a b} ha hb hab => ⟨(T.kid hi ha).2, (T.kid hi hb).2, hab⟩) (T.apart hi)
 refine h.imp ?_
 rintro k k' ⟨h1, h2, h3⟩ a ha ha'
 have := edge_in T E hE k (by omega) a ha
 have := edge_in T E hE k' (by omega) a ha'
 omega
theorem edge_nodup (E : Md → Nat → List Nat) (hE : E = fst ∨ E = lst) : ∀ i, i < p.length → (E p i).Nodup := by
 intro i
 induction i using Nat.strongRecOn with
 | _ i ih =>
 intro hi
 have key : ((nd p i).kids.flatMap (E p)).Nodup := nodup_flat (fun k hk => ih k (T.kid hi hk).2 (by have := (T.kid hi hk).2; omega)) (edge_apart T E hE hi)
 rcases hE with rfl | rfl
 ·rw [fst_eq T.ahead hi]
  split
  ·simp
  ·split
   ·exact key
   ·exact key.sublist (pre_sub _)
 ·rw [lst_eq T.ahead hi]
  split
  ·simp
  ·split
   ·exact key
   ·exact key.sublist (by simpa using suf_sub (N := nul p) (L := lst p) (nd p i).kids [])
end
end MT
namespace MT
/- The specification's edges and what may follow -/
def lstS (p : Md) (i : Nat) : List Nat :=
 if (nd p i).pos = true then [i] else if (nd p i).kind = 3 then (nd p i).kids.reverse.flatMap (fun k => if _h : k < i then lstS p k else []) else pre (nul p) (fun k => if _h : k < i then lstS p k else []) (nd p i).kids.reverse
termination_by i
theorem lstS_eq {p : Md} (A : Ahead p) {i : Nat} (hi : i < p.length) : lstS p i = if (nd p i).pos = true then [i] else if (nd p i).kind = 3 then (nd p i).kids.reverse.flatMap (lstS p) else pre (nul p) (lstS p) (nd p i).kids.reverse := by
 conv => lhs; rw [lstS]
 rw [flatMap_congr (F' := lstS p) (fun k hk => by rw [dif_pos (A i hi k (List.mem_reverse.1 hk))]), pre_congr (N' := nul p) (F' := lstS p) (fun k hk => ⟨rfl, by rw [dif_pos (A i hi k (List.mem_reverse.1 hk))]⟩)]
theorem mem_lstS {p : Md} (A : Ahead p) {a : Nat} : ∀ i, i < p.length → (a ∈ lstS p i ↔ a ∈ lst p i) := by
 intro i
 induction i using Nat.strongRecOn with
 | _ i ih =>
 intro hi
 have hk : ∀ k ∈ (nd p i).kids, (a ∈ lstS p k ↔ a ∈ lst p k) := fun k hk => ih k (A i hi k hk) (by have := A i hi k hk; omega)
 rw [lstS_eq A hi, lst_eq A hi]
 split
 ·exact Iff.rfl
 ·split
  ·rw [List.mem_flatMap, List.mem_flatMap]
   constructor
   ·rintro ⟨k, h1, h2⟩
    exact ⟨k, List.mem_reverse.1 h1, (hk k (List.mem_reverse.1 h1)).1 h2⟩
   ·rintro ⟨k, h1, h2⟩
    exact ⟨k, List.mem_reverse.2 h1, (hk k h1).2 h2⟩
  ·rw [mem_pre, mem_suf]
   constructor
   ·rintro ⟨us, k, vs, e, hu, ha⟩
    have e' : (nd p i).kids = vs.reverse ++ k :: us.reverse := by
     have := congrArg List.reverse e
     simpa using this
    exact .inr ⟨vs.reverse, k, us.reverse, e', fun v hv => hu v (List.mem_reverse.1 hv), (hk k (by rw [e']; simp)).1 ha⟩
   ·rintro (⟨h, _⟩ | ⟨us, k, vs, e, hv, ha⟩)
    ·simp at h
    ·exact ⟨vs.reverse, k, us.reverse, by rw [e]; simp, fun v h => hv v (List.mem_reverse.1 h), (hk k (by rw [e]; simp)).2 ha⟩
def aftr (p : Md) (n : Nat) : List Nat → List Nat
 | [] => []
 | k :: ks => (if n ∈ lstS p k then pre (nul p) (fst p) ks else []) ++ aftr p n ks
theorem mem_aftr {p : Md} {n b : Nat} : ∀ {ks : List Nat}, b ∈ aftr p n ks ↔ ∃ us k vs, ks = us ++ k :: vs ∧ n ∈ lstS p k ∧ b ∈ pre (nul p) (fst p) vs
 | [] => by simp [aftr]
 | k :: ks => by
  rw [aftr, List.mem_append, mem_aftr]
  constructor
  ·rintro (h | ⟨us, k', vs, e, h1, h2⟩)
   ·split at h
    ·rename_i c
     exact ⟨[], k, ks, rfl, c, h⟩
    ·simp at h
   ·exact ⟨k :: us, k', vs, by rw [e]; rfl, h1, h2⟩
  ·rintro ⟨us, k', vs, e, h1, h2⟩
   cases us with
   | nil =>
    simp only [List.nil_append, List.cons.injEq] at e
    obtain ⟨rfl, rfl⟩ := e
    left
    rw [if_pos h1]
    exact h2
   | cons u us =>
    simp only [List.cons_append, List.cons.injEq] at e
    obtain ⟨rfl, rfl⟩ := e
    exact .inr ⟨us, k', vs, rfl, h1, h2⟩
def adds (p : Md) (n i : Nat) : List Nat := (if (nd p i).oft = true ∧ n ∈ lstS p i then fst p i else []) ++ (if (nd p i).kind = 2 then aftr p n (nd p i).kids else [])
def folS (p : Md) (n : Nat) : List Nat := (List.range p.length).flatMap (adds p n)
theorem mem_adds {p : Md} (A : Ahead p) {i n b : Nat} (hi : i < p.length) : b ∈ adds p n i ↔ led p i n b := by
 unfold adds led
 rw [List.mem_append]
 constructor
 ·rintro (h | h)
  ·split at h
   ·rename_i c
    exact .inr ⟨c.1, (mem_lstS A i hi).1 c.2, h⟩
   ·simp at h
  ·split at h
   ·rename_i c
    obtain ⟨us, k, vs, e, h1, h2⟩ := mem_aftr.1 h
    obtain ⟨us', k', vs', e', h3, h4⟩ := mem_pre.1 h2
    have hk : k < p.length := by have := A i hi k (by rw [e]; simp); omega
    refine .inl ⟨c, us ++ k :: us', k', vs', by rw [e, e']; simp, ?_, h4⟩
    exact mem_suf.2 (.inr ⟨us, k, us', rfl, h3, (mem_lstS A k hk).1 h1⟩)
   ·simp at h
 ·rintro (⟨c, us, k, vs, e, h1, h2⟩ | ⟨c, h1, h2⟩)
  ·right
   rw [if_pos c]
   rcases mem_suf.1 h1 with ⟨h, _⟩ | ⟨us', k', vs', e', hv, ha⟩
   ·simp at h
   ·have hk : k' < p.length := by have := A i hi k' (by rw [e, e']; simp); omega
    exact mem_aftr.2 ⟨us', k', vs' ++ k :: vs, by rw [e, e']; simp, (mem_lstS A k' hk).2 ha, mem_pre.2 ⟨vs', k, vs, rfl, hv, h2⟩⟩
  ·left
   rw [if_pos ⟨c, (mem_lstS A i hi).2 h1⟩]
   exact h2
theorem mem_folS {p : Md} (A : Ahead p) {n b : Nat} : b ∈ folS p n ↔ fol p n b := by
 unfold folS fol
 rw [List.mem_flatMap]
 constructor
 ·rintro ⟨i, hi, h⟩
  exact ⟨i, List.mem_range.1 hi, (mem_adds A (List.mem_range.1 hi)).1 h⟩
 ·rintro ⟨i, hi, h⟩
  exact ⟨i, List.mem_range.2 hi, (mem_adds A hi).2 h⟩
end MT
end Go.Proofs.Ytajdfbgbkgabjaa.Pure

namespace Go.Proofs.Ytajdfbgbkgabjaa.Pure
open Go.RowKit Ytajdfbgbkgabjaa.L YtajdfbgbkgabjaaW.PrintWords YtajdfbgbkgabjaaW.PrintLast YtajdfbgbkgabjaaW.PrintMore

def fstB (b : UInt8) : Bool := decide (97 ≤ b.toNat ∧ b.toNat ≤ 122) || decide (65 ≤ b.toNat ∧ b.toNat ≤ 90) || decide (b.toNat = 95)
def moreB (b : UInt8) : Bool := fstB b || decide (48 ≤ b.toNat ∧ b.toNat ≤ 57) || decide (b.toNat = 46) || decide (b.toNat = 45)
def nameB : List UInt8 → Bool
 | [] => false
 | b :: t => fstB b && t.all moreB && decide (t.length + 1 ≤ 40)
theorem u8_all {p : UInt8 → Prop} (h : ∀ n : Fin 256, p (UInt8.ofNat n.val)) (b : UInt8) : p b := by
 have := h ⟨b.toNat, b.toNat_lt⟩
 simpa using this
theorem first_f (b : UInt8) : spec_l1First.f (b.toNat : Int) = some (fstB b) := by
 revert b
 refine u8_all ?_
 decide +kernel
theorem more_f (b : UInt8) : spec_l1More.f (b.toNat : Int) = some (moreB b) := by
 revert b
 refine u8_all ?_
 decide +kernel
theorem spec_name_l0 (s : ByteArray) (hs : s.data.toList.length ≤ 9223372036854775806) : ∀ (n i : Nat), i + n = s.data.toList.length →
  Ev (fun k => spec_NameOk.l0 k s (i : Int)) ((s.data.toList.drop i).all moreB) := by
 intro n
 induction n with
 | zero =>
  intro i hi
  refine Ev.step (f := fun _ => some true) (fun k => ?_) ?_
  ·unfold spec_NameOk.l0
   rw [if_neg (by rw [sz]; omega)]
  ·rw [List.drop_of_length_le (by omega)]; exact Ev.now _
 | succ n ih =>
  intro i hi
  have hlt : i < s.data.toList.length := by omega
  have e : spec_l1More.f (bt s (i : Int)) = some (moreB (s.data.toList[i])) := by rw [bt_nat s i hlt]; exact more_f _
  have hd : s.data.toList.drop i = s.data.toList[i] :: s.data.toList.drop (i + 1) := List.drop_eq_getElem_cons hlt
  have w : wrap64 ((i : Int) + 1) = ((i + 1 : Nat) : Int) := by rw [w64] <;> omega
  by_cases c : moreB (s.data.toList[i]) = true
  ·refine Ev.step (f := fun k => spec_NameOk.l0 k s ((i + 1 : Nat) : Int)) (fun k => ?_) ?_
   ·conv => lhs; unfold spec_NameOk.l0
    rw [if_pos (by rw [sz]; omega), if_pos (by omega), e]
    simp only [Option.bind_some, if_pos c, w]
   ·rw [hd, List.all_cons, c, Bool.true_and]; exact ih (i + 1) (by omega)
  ·refine Ev.step (f := fun _ => some false) (fun k => ?_) ?_
   ·conv => lhs; unfold spec_NameOk.l0
    rw [if_pos (by rw [sz]; omega), if_pos (by omega), e]
    simp only [Option.bind_some, if_neg c]
   ·rw [hd, List.all_cons]
    rw [Bool.not_eq_true] at c
    rw [c, Bool.false_and]; exact Ev.now _
theorem spec_name (s : ByteArray) : Ev (fun k => spec_NameOk.f k s) (nameB s.data.toList) := by
 cases hl : s.data.toList with
 | nil =>
  refine Ev.congr (f := fun k => spec_NameOk.j0 k s true) (fun k => ?_) ?_
  ·unfold spec_NameOk.f
   rw [if_pos (by rw [sz, hl]; decide)]
  ·refine Ev.step (f := fun _ => some false) (fun k => ?_) (Ev.now _)
   rfl
 | cons b t =>
  have hz : (s.size : Int) = (t.length : Int) + 1 := by rw [sz, hl]; simp
  by_cases c : t.length + 1 ≤ 40
  ·refine Ev.congr (f := fun k => spec_NameOk.j0 k s (!fstB b)) (fun k => ?_) ?_
   ·unfold spec_NameOk.f
    rw [if_neg (by omega), if_neg (by omega), if_pos (by omega), first_bt s b t hl, first_f]
    rfl
   ·by_cases d : fstB b = true
    ·refine Ev.step (f := fun k => spec_NameOk.l0 k s ((1 : Nat) : Int)) (fun k => ?_) ?_
     ·rw [d]; rfl
     ·have := spec_name_l0 s (by rw [hl]; simp; omega) t.length 1 (by rw [hl]; simp; omega)
      rw [hl] at this
      have e : nameB (b :: t) = ((b :: t).drop 1).all moreB := by simp [nameB, d, c]
      rw [e]; exact this
    ·rw [Bool.not_eq_true] at d
     have e : nameB (b :: t) = false := by simp [nameB, d]
     rw [e]
     refine Ev.step (f := fun _ => some false) (fun k => ?_) (Ev.now _)
     rw [d]; rfl
  ·have e : nameB (b :: t) = false := by simp [nameB, c]
   rw [e]
   refine Ev.congr (f := fun k => spec_NameOk.j0 k s true) (fun k => ?_) ?_
   ·unfold spec_NameOk.f
    rw [if_neg (by omega), if_pos (by omega)]
   ·refine Ev.step (f := fun _ => some false) (fun k => ?_) (Ev.now _)
    rfl

def lenB (n : Nat) : Bool := decide (1 ≤ n) && decide (n ≤ 40)
theorem in_len (n : Nat) : impl_in.f (n : Int) 1 40 = some (lenB n) := by
 unfold impl_in.f lenB
 by_cases h : 1 ≤ n
 ·rw [if_pos (by omega)]; simp [h]; omega
 ·rw [if_neg (by omega)]; simp [h]
theorem fst_iff (b : UInt8) : fstB b = true ↔ ((97 ≤ (b.toNat : Int) ∧ (b.toNat : Int) ≤ 122) ∨ (65 ≤ (b.toNat : Int) ∧ (b.toNat : Int) ≤ 90) ∨ (b.toNat : Int) = 95) := by
 unfold fstB
 simp only [Bool.or_eq_true, decide_eq_true_eq]
 omega
theorem more_iff (b : UInt8) : moreB b = true ↔ (((97 ≤ (b.toNat : Int) ∧ (b.toNat : Int) ≤ 122) ∨ (65 ≤ (b.toNat : Int) ∧ (b.toNat : Int) ≤ 90) ∨ (b.toNat : Int) = 95) ∨ (48 ≤ (b.toNat : Int) ∧ (b.toNat : Int) ≤ 57) ∨ (b.toNat : Int) = 46 ∨ (b.toNat : Int) = 45) := by
 unfold moreB
 simp only [Bool.or_eq_true, decide_eq_true_eq, fst_iff]
 omega
theorem impl_name_l0 (s : ByteArray) (hs : s.data.toList.length ≤ 9223372036854775806) : ∀ (n i : Nat), 1 ≤ i → i + n = s.data.toList.length →
  Ev (fun k => impl_NameOk.l0 k s (s.size : Int) (i : Int)) ((s.data.toList.drop i).all moreB && lenB s.data.toList.length) := by
 intro n
 induction n with
 | zero =>
  intro i h1 hi
  refine Ev.step (f := fun _ => some (lenB s.data.toList.length)) (fun k => ?_) ?_
  ·unfold impl_NameOk.l0
   rw [if_neg (by rw [sz]; omega), sz, in_len]
   rfl
  ·rw [List.drop_of_length_le (by omega)]; exact Ev.now _
 | succ n ih =>
  intro i h1 hi
  have hlt : i < s.data.toList.length := by omega
  have hd : s.data.toList.drop i = s.data.toList[i] :: s.data.toList.drop (i + 1) := List.drop_eq_getElem_cons hlt
  have w : wrap64 ((i : Int) + 1) = ((i + 1 : Nat) : Int) := by rw [w64] <;> omega
  have hm := more_iff (s.data.toList[i])
  by_cases c : moreB (s.data.toList[i]) = true
  ·have hv := hm.1 c
   refine Ev.step (f := fun k => impl_NameOk.l0 k s (s.size : Int) ((i + 1 : Nat) : Int)) (fun k => ?_) ?_
   ·conv => lhs; unfold impl_NameOk.l0
    rw [if_pos (by rw [sz]; omega), if_pos (by omega), if_pos (by rw [sz]; omega), bt_nat s i hlt, w]
    generalize impl_NameOk.l0 k s (s.size : Int) ((i + 1 : Nat) : Int) = X
    generalize ((s.data.toList[i]).toNat : Int) = v at hv
    clear hm ih c hd w hs hi hlt
    have hi0 : ¬ (i : Int) = 0 := by omega
    simp only [if_neg hi0]
    clear hi0 h1
    repeat' split
    all_goals first | rfl | (exfalso; omega)
   ·rw [hd, List.all_cons, c, Bool.true_and]; exact ih (i + 1) (by omega) (by omega)
  ·have hv := mt hm.2 c
   refine Ev.step (f := fun _ => some false) (fun k => ?_) ?_
   ·conv => lhs; unfold impl_NameOk.l0
    rw [if_pos (by rw [sz]; omega), if_pos (by omega), if_pos (by rw [sz]; omega), bt_nat s i hlt, w]
    generalize impl_NameOk.l0 k s (s.size : Int) ((i + 1 : Nat) : Int) = X
    generalize ((s.data.toList[i]).toNat : Int) = v at hv
    clear hm ih c hd w hs hi hlt
    have hi0 : ¬ (i : Int) = 0 := by omega
    simp only [if_neg hi0]
    clear hi0 h1
    repeat' split
    all_goals first | rfl | (exfalso; omega)
   ·rw [hd, List.all_cons]
    rw [Bool.not_eq_true] at c
    rw [c, Bool.false_and, Bool.false_and]; exact Ev.now _
theorem impl_name (s : ByteArray) (hs : s.data.toList.length ≤ 9223372036854775806) : Ev (fun k => impl_NameOk.f k s) (nameB s.data.toList) := by
 cases hl : s.data.toList with
 | nil =>
  unfold impl_NameOk.f
  refine Ev.step (f := fun _ => some false) (fun k => ?_) (Ev.now _)
  unfold impl_NameOk.l0
  have hz : s.size = 0 := by rw [sz, hl]; rfl
  rw [if_neg (by omega), hz]
  rfl
 | cons b t =>
  have hlt : 0 < s.data.toList.length := by rw [hl]; simp
  have hlen : s.data.toList.length = t.length + 1 := by rw [hl]; simp
  have w : wrap64 ((0 : Int) + 1) = ((1 : Nat) : Int) := by rw [w64 (by omega) (by omega)]; rfl
  have hm := fst_iff b
  have eb : bt s 0 = (b.toNat : Int) := first_bt s b t hl
  unfold impl_NameOk.f
  by_cases c : fstB b = true
  ·have hv := hm.1 c
   refine Ev.step (f := fun k => impl_NameOk.l0 k s (s.size : Int) ((1 : Nat) : Int)) (fun k => ?_) ?_
   ·conv => lhs; unfold impl_NameOk.l0
    rw [if_pos (by rw [sz]; omega), if_pos (by omega), if_pos (by rw [sz]; omega), eb, w]
    generalize impl_NameOk.l0 k s (s.size : Int) ((1 : Nat) : Int) = X
    generalize (b.toNat : Int) = v at hv
    clear hm c eb w hs hlt hlen hl
    simp only [if_true]
    repeat' split
    all_goals first | rfl | (exfalso; omega)
   ·have := impl_name_l0 s hs t.length 1 (by omega) (by omega)
    rw [hl] at this
    have e : nameB (b :: t) = (((b :: t).drop 1).all moreB && lenB (b :: t).length) := by
     simp [nameB, lenB, c]
    rw [e]; exact this
  ·have hv := mt hm.2 c
   refine Ev.step (f := fun _ => some false) (fun k => ?_) ?_
   ·conv => lhs; unfold impl_NameOk.l0
    rw [if_pos (by rw [sz]; omega), if_pos (by omega), if_pos (by rw [sz]; omega), eb, w]
    generalize impl_NameOk.l0 k s (s.size : Int) ((1 : Nat) : Int) = X
    generalize (b.toNat : Int) = v at hv
    clear hm c eb w hs hlt hlen hl
    simp only [if_true]
    repeat' split
    all_goals first | rfl | (exfalso; omega)
   ·rw [Bool.not_eq_true] at c
    have e : nameB (b :: t) = false := by simp [nameB, c]
    rw [e]; exact Ev.now _
theorem w1n {i m : Nat} (h : i < m) (hm : m ≤ 9223372036854775807) : wrap64 ((i : Int) + 1) = ((i + 1 : Nat) : Int) := by rw [w64] <;> omega
theorem rdZ (l : List Int) (i : Nat) (h : i < l.length) : rd l (i : Int) = l[i] := by
 unfold rd
 simp [h]
abbrev PM : Type := S42
def at_ (p : List PM) (i : Nat) : PM := rd_T42 p (i : Int)
theorem at_lt {p : List PM} {i : Nat} (h : i < p.length) : at_ p i = p[i] := by
 unfold at_ rd_T42
 simp [h]
def chF (g : Nat → Option Nat) : Nat → List Int → Option Nat
 | e, [] => some e
 | e, k :: ks => if 0 < e ∧ k = (e : Int) - 1 then (g (e - 1)).bind fun f => chF g f ks else none
def tf (p : List PM) (i : Nat) : Option Nat := chF (fun j => if _h : j < i then tf p j else none) i (at_ p i).f2.reverse
termination_by i
theorem chF_le {g : Nat → Option Nat} (hg : ∀ j f, g j = some f → f ≤ j) : ∀ {ks : List Int} {e f : Nat}, chF g e ks = some f → f ≤ e
 | [], e, f, h => by
  have : e = f := Option.some.inj h
  omega
 | k :: ks, e, f, h => by
  unfold chF at h
  by_cases c : 0 < e ∧ k = (e : Int) - 1
  ·rw [if_pos c] at h
   obtain ⟨f1, h1, h2⟩ := Option.bind_eq_some_iff.1 h
   have a := hg _ _ h1
   have b := chF_le hg h2
   omega
  ·rw [if_neg c] at h; cases h
theorem chF_congr {g g' : Nat → Option Nat} {i : Nat} (hg : ∀ j f, g j = some f → f ≤ j) (h : ∀ j, j < i → g' j = g j) : ∀ (ks : List Int) (e : Nat), e ≤ i → chF g' e ks = chF g e ks
 | [], e, _ => rfl
 | k :: ks, e, he => by
  unfold chF
  by_cases c : 0 < e ∧ k = (e : Int) - 1
  ·rw [if_pos c, if_pos c, h (e - 1) (by omega)]
   cases hq : g (e - 1) with
   | none => rfl
   | some f => exact chF_congr hg h ks f (by have := hg _ _ hq; omega)
  ·rw [if_neg c, if_neg c]
theorem tf_le {p : List PM} : ∀ i f, tf p i = some f → f ≤ i := by
 intro i
 induction i using Nat.strongRecOn with
 | _ i ih =>
 intro f h
 rw [tf] at h
 refine chF_le (fun j f hj => ?_) h
 by_cases c : j < i
 ·rw [dif_pos c] at hj
  exact ih j c f hj
 ·rw [dif_neg c] at hj; cases hj
theorem tf_eq (p : List PM) (i : Nat) : tf p i = chF (tf p) i (at_ p i).f2.reverse := by
 conv => lhs; rw [tf]
 exact chF_congr (fun j f h => tf_le j f h) (fun j hj => dif_pos hj) _ i (Nat.le_refl _)
theorem chF_app (g : Nat → Option Nat) : ∀ (a b : List Int) (e : Nat), chF g e (a ++ b) = (chF g e a).bind fun m => chF g m b
 | [], b, e => rfl
 | k :: a, b, e => by
  show (if 0 < e ∧ k = (e : Int) - 1 then (g (e - 1)).bind fun f => chF g f (a ++ b) else none) = (if 0 < e ∧ k = (e : Int) - 1 then (g (e - 1)).bind fun f => chF g f a else none).bind fun m => chF g m b
  by_cases c : 0 < e ∧ k = (e : Int) - 1
  ·rw [if_pos c, if_pos c]
   cases g (e - 1) with
   | none => rfl
   | some f => exact chF_app g a b f
  ·rw [if_neg c, if_neg c]; rfl
def dpS (g : Nat → Nat) (d : Nat) (ks : List Int) : Nat := ks.foldl (fun a k => max a (g k.toNat + 1)) d
def dp (p : List PM) (i : Nat) : Nat := dpS (fun j => if _h : j < i then dp p j else 0) 0 (at_ p i).f2
termination_by i
theorem dpS_max (g : Nat → Nat) : ∀ (ks : List Int) (d : Nat), dpS g d ks = max d (dpS g 0 ks)
 | [], d => by simp [dpS]
 | k :: ks, d => by
  show dpS g (max d (g k.toNat + 1)) ks = max d (dpS g (max 0 (g k.toNat + 1)) ks)
  rw [dpS_max g ks (max d _), dpS_max g ks (max 0 _)]
  omega
theorem dpS_app (g : Nat → Nat) (a b : List Int) (d : Nat) : dpS g d (a ++ b) = dpS g (dpS g d a) b := List.foldl_append
theorem dpS_rev (g : Nat → Nat) : ∀ (ks : List Int), dpS g 0 ks.reverse = dpS g 0 ks
 | [] => rfl
 | k :: ks => by
  rw [List.reverse_cons, dpS_app, dpS_rev g ks]
  show max (dpS g 0 ks) (g k.toNat + 1) = dpS g (max 0 (g k.toNat + 1)) ks
  rw [dpS_max g ks (max 0 _)]
  omega
theorem dpS_congr {g g' : Nat → Nat} : ∀ (ks : List Int) (d : Nat), (∀ k ∈ ks, g k.toNat = g' k.toNat) → dpS g d ks = dpS g' d ks
 | [], d, _ => rfl
 | k :: ks, d, h => by
  show dpS g (max d (g k.toNat + 1)) ks = dpS g' (max d (g' k.toNat + 1)) ks
  rw [h k (by simp), dpS_congr ks _ (fun k' hk' => h k' (by simp [hk']))]
theorem chF_kids {g : Nat → Option Nat} (hg : ∀ j f, g j = some f → f ≤ j) : ∀ {ks : List Int} {e f : Nat}, chF g e ks = some f → ∀ k ∈ ks, 0 ≤ k ∧ k < (e : Int) ∧ ∃ q, g k.toNat = some q ∧ f ≤ q
 | [], e, f, _ => by simp
 | k :: ks, e, f, h => by
  unfold chF at h
  by_cases c : 0 < e ∧ k = (e : Int) - 1
  ·rw [if_pos c] at h
   obtain ⟨f1, h1, h2⟩ := Option.bind_eq_some_iff.1 h
   have a := hg _ _ h1
   have b := chF_le hg h2
   intro k' hk'
   rcases List.mem_cons.1 hk' with rfl | hk'
   ·exact ⟨by omega, by omega, f1, by rw [show k'.toNat = e - 1 by omega]; exact h1, b⟩
   ·obtain ⟨x, y, q, hq⟩ := chF_kids hg h2 k' hk'
    exact ⟨x, by omega, q, hq⟩
  ·rw [if_neg c] at h; cases h
theorem tf_kids {p : List PM} {i f : Nat} (h : tf p i = some f) : ∀ k ∈ (at_ p i).f2, 0 ≤ k ∧ k < (i : Int) ∧ ∃ q, tf p k.toNat = some q ∧ f ≤ q := by
 rw [tf_eq] at h
 intro k hk
 exact chF_kids (fun j f hj => tf_le j f hj) h k (List.mem_reverse.2 hk)
theorem dp_eq {p : List PM} {i f : Nat} (h : tf p i = some f) : dp p i = dpS (dp p) 0 (at_ p i).f2 := by
 conv => lhs; rw [dp]
 refine dpS_congr _ _ (fun k hk => ?_)
 obtain ⟨a, b, _⟩ := tf_kids h k hk
 rw [dif_pos (by omega)]
theorem dp_le {p : List PM} : ∀ i f, tf p i = some f → dp p i ≤ i := by
 intro i
 induction i using Nat.strongRecOn with
 | _ i ih =>
 intro f h
 rw [dp_eq h]
 have hk := tf_kids h
 generalize (at_ p i).f2 = ks at hk
 have : ∀ (ks : List Int) (d : Nat), d ≤ i → (∀ k ∈ ks, 0 ≤ k ∧ k < (i : Int) ∧ ∃ q, tf p k.toNat = some q ∧ f ≤ q) → dpS (dp p) d ks ≤ i := by
  intro ks
  induction ks with
  | nil => intro d hd _; exact hd
  | cons k ks ihk =>
   intro d hd hk
   obtain ⟨a, b, q, hq, _⟩ := hk k (by simp)
   have := ih k.toNat (by omega) q hq
   exact ihk (max d (dp p k.toNat + 1)) (by omega) (fun k' hk' => hk k' (by simp [hk']))
 exact this ks 0 (Nat.zero_le _) hk
theorem chF_cover {g : Nat → Option Nat} (hg : ∀ j f, g j = some f → f ≤ j) (hc : ∀ j f, g j = some f → ∀ q, f ≤ q → q ≤ j → (g q).isSome = true) : ∀ {ks : List Int} {e f : Nat}, chF g e ks = some f → ∀ q, f ≤ q → q < e → (g q).isSome = true
 | [], e, f, h => by
  have : e = f := Option.some.inj h
  intro q h1 h2
  omega
 | k :: ks, e, f, h => by
  unfold chF at h
  by_cases c : 0 < e ∧ k = (e : Int) - 1
  ·rw [if_pos c] at h
   obtain ⟨f1, h1, h2⟩ := Option.bind_eq_some_iff.1 h
   intro q hq1 hq2
   by_cases hq : f1 ≤ q
   ·exact hc _ _ h1 q hq (by omega)
   ·exact chF_cover hg hc h2 q hq1 (by omega)
  ·rw [if_neg c] at h; cases h
theorem tf_cover {p : List PM} : ∀ i f, tf p i = some f → ∀ q, f ≤ q → q ≤ i → (tf p q).isSome = true := by
 intro i
 induction i using Nat.strongRecOn with
 | _ i ih =>
 intro f h q h1 h2
 by_cases e : q = i
 ·subst e; rw [h]; rfl
 ·have h' := h
  rw [tf] at h'
  have h3 := chF_cover (g := fun j => if _h : j < i then tf p j else none) (fun j f hj => by
    by_cases c : j < i
    ·simp only [dif_pos c] at hj; exact tf_le j f hj
    ·simp only [dif_neg c] at hj; cases hj) (fun j f hj r hr1 hr2 => by
    by_cases c : j < i
    ·simp only [dif_pos c] at hj
     simp only [dif_pos (show r < i by omega)]
     exact ih j c f hj r hr1 hr2
    ·simp only [dif_neg c] at hj; cases hj) h' q h1 (by omega)
  simpa only [dif_pos (show q < i by omega)] using h3
def fitsN (n : PM) : Bool :=
 if n.f0 = 1 then nameB n.f1.data.toList && n.f2.isEmpty else if n.f0 = 4 then n.f1.data.toList.isEmpty && n.f2.isEmpty else if n.f0 = 2 then n.f1.data.toList.isEmpty else if n.f0 = 3 then n.f1.data.toList.isEmpty && decide (2 ≤ n.f2.length) else false
def okN (n : PM) : Bool := fitsN n && decide (0 ≤ n.f3 ∧ n.f3 ≤ 3)
def posN (n : PM) : Bool := n.f0 == 1 || n.f0 == 4
def okV (p : List PM) : Bool :=
 decide (1 ≤ p.length ∧ p.length ≤ 40) && ((List.range p.length).all fun i => okN (at_ p i) && (tf p i).isSome) && (tf p (p.length - 1) == some 0) && !posN (at_ p (p.length - 1)) && decide (dp p (p.length - 1) ≤ 9)
def smallM (p : List PM) : Prop := ∀ x ∈ p, x.f1.data.toList.length ≤ 1048576 ∧ x.f2.length ≤ 1048576
theorem len0 (l : List Int) : ((l.length : Int) == 0) = l.isEmpty := by
 cases l with
 | nil => rfl
 | cons x l => simp; omega
theorem emp_iff (s : ByteArray) : (s.toList = ([] : List UInt8)) ↔ s.data.toList.isEmpty = true := by
 rw [List.isEmpty_iff, Lib.toList_data]
theorem impl_fits (n : PM) (hn : n.f1.data.toList.length ≤ 1048576) : Ev (fun k => impl_PNode_fits.f k n.f0 n.f1 n.f2 n.f3) (fitsN n) := by
 unfold impl_PNode_fits.f fitsN
 by_cases h1 : n.f0 = 1
 ·simp only [if_pos h1]
  refine Ev.bind (impl_name n.f1 (by omega)) ?_
  refine Ev.congr (f := fun _ => some _) (fun k => ?_) (Ev.now _)
  cases nameB n.f1.data.toList with
  | true => simp only [if_true, Bool.true_and, len0]
  | false => simp
 ·simp only [if_neg h1]
  by_cases h4 : n.f0 = 4
  ·refine Ev.congr (f := fun _ => some _) (fun k => ?_) (Ev.now _)
   have h2 : ¬ n.f0 = 2 := by omega
   rw [if_pos h4, if_pos h4, if_neg h2]
   by_cases he : n.f1.data.toList.isEmpty = true
   ·rw [if_pos ((emp_iff _).2 he), he, Bool.true_and, len0]
   ·rw [if_neg (fun h => he ((emp_iff _).1 h)), Bool.eq_false_iff.mpr he, Bool.false_and]
  ·refine Ev.congr (f := fun _ => some _) (fun k => ?_) (Ev.now _)
   rw [if_neg h4, if_neg h4]
   by_cases h2 : n.f0 = 2
   ·rw [if_pos h2, if_pos h2]
    by_cases he : n.f1.data.toList.isEmpty = true
    ·rw [if_pos ((emp_iff _).2 he), he]
    ·rw [if_neg (fun h => he ((emp_iff _).1 h)), Bool.eq_false_iff.mpr he]
   ·rw [if_neg h2, if_neg h2]
    by_cases h3 : n.f0 = 3
    ·rw [if_pos h3, if_pos h3]
     by_cases he : n.f1.data.toList.isEmpty = true
     ·rw [if_pos ((emp_iff _).2 he), he, Bool.true_and]
      congr 1
      exact decide_eq_decide.2 (by omega)
     ·rw [if_neg (fun h => he ((emp_iff _).1 h)), Bool.eq_false_iff.mpr he, Bool.false_and]
    ·rw [if_neg h3, if_neg h3]
theorem rd_set {l : List Int} {i : Nat} (h : i < l.length) (v : Int) : rd (l.set i v) (i : Int) = v := by
 unfold rd
 simp [h]
theorem rd_set_ne {l : List Int} {i j : Nat} (h : i ≠ j) (v : Int) : rd (l.set i v) (j : Int) = rd l (j : Int) := by
 unfold rd
 simp [List.getElem?_set_ne h]
structure Arr (p : List PM) (i : Nat) (x3 x4 : List Int) : Prop where
 l3 : x3.length = p.length
 l4 : x4.length = p.length
 lo : ∀ j, j < i → ∃ f : Nat, tf p j = some f ∧ rd x3 (j : Int) = f ∧ rd x4 (j : Int) = dp p j
 hi : ∀ j, i < j → rd x4 (j : Int) = 0
theorem Arr.set_ {p : List PM} {i : Nat} {x3 x4 : List Int} (h : Arr p i x3 x4) (u v : Int) : Arr p i (x3.set i u) (x4.set i v) :=
 ⟨by rw [List.length_set, h.l3], by rw [List.length_set, h.l4], fun j hj => by
  rw [rd_set_ne (by omega), rd_set_ne (by omega)]
  exact h.lo j hj, fun j hj => by rw [rd_set_ne (by omega)]; exact h.hi j hj⟩
theorem impl_kids {p : List PM} {i : Nat} (hi : i < p.length) (hp : p.length ≤ 40) (hs : smallM p) (R : Bool) : ∀ (m : Nat) (x3 x4 : List Int) (e d : Nat), m ≤ (at_ p i).f2.length → Arr p i x3 x4 → rd x3 (i : Int) = e → rd x4 (i : Int) = d → e ≤ i → d ≤ i →
  (∀ (f : Nat) x3' x4', chF (tf p) e ((at_ p i).f2.take m).reverse = some f → Arr p i x3' x4' → rd x3' (i : Int) = f → rd x4' (i : Int) = dpS (dp p) d ((at_ p i).f2.take m).reverse → Ev (fun k => impl_ParticleOk.l0 k p x3' x4' p (p.length : Int) (wrap64 ((i : Int) + 1))) R) →
  (chF (tf p) e ((at_ p i).f2.take m).reverse = none → R = false) →
  Ev (fun k => impl_ParticleOk.l1 k p x3 x4 (i : Int) ((m : Int) - 1) p (p.length : Int) (i : Int) (at_ p i).f0 (at_ p i).f1 (at_ p i).f2 (at_ p i).f3) R := by
 intro m
 induction m with
 | zero =>
  intro x3 x4 e d hm hA he hd hei hdi hok hno
  refine Ev.step (fun k => ?_) (hok e x3 x4 rfl hA he hd)
  conv => lhs; unfold impl_ParticleOk.l1
  rw [if_neg (by omega)]
 | succ m ih =>
  intro x3 x4 e d hm hA he hd hei hdi hok hno
  have hlt : m < (at_ p i).f2.length := by omega
  have hkl : (at_ p i).f2.length ≤ 1048576 := by
   have := (hs p[i] (List.getElem_mem hi)).2
   rwa [← at_lt hi] at this
  have ht : ((at_ p i).f2.take (m + 1)).reverse = (at_ p i).f2[m] :: ((at_ p i).f2.take m).reverse := by
   rw [List.take_succ_eq_append_getElem hlt, List.reverse_append]; rfl
  rw [ht] at hok hno
  have hrd := rdZ (at_ p i).f2 m hlt
  have e7 : ((m + 1 : Nat) : Int) - 1 = (m : Int) := by omega
  rw [e7]
  have hch : ∀ ks, chF (tf p) e ((at_ p i).f2[m] :: ks) = if 0 < e ∧ (at_ p i).f2[m] = (e : Int) - 1 then (tf p (e - 1)).bind fun f => chF (tf p) f ks else none := fun _ => rfl
  by_cases c0 : (at_ p i).f2[m] < 0
  ·have hR : R = false := hno (by rw [hch, if_neg (by omega)])
   subst hR
   refine Ev.step (f := fun _ => some false) (fun k => ?_) (Ev.now _)
   conv => lhs; unfold impl_ParticleOk.l1
   rw [if_pos (by omega), if_pos (by omega), if_pos (by omega), hrd, if_pos c0]
  ·by_cases c1 : (at_ p i).f2[m] = (e : Int) - 1
   ·obtain ⟨f, hf, hf3, hf4⟩ := hA.lo (e - 1) (by omega)
    have hce : 0 < e ∧ (at_ p i).f2[m] = (e : Int) - 1 := ⟨by omega, c1⟩
    rw [hch, if_pos hce, hf] at hok hno
    simp only [Option.bind_some] at hok hno
    have ekd : (at_ p i).f2[m] = ((e - 1 : Nat) : Int) := by omega
    have hdl := dp_le _ _ hf
    have hfl := tf_le _ _ hf
    have hA' := hA.set_ (f : Int) ((max d (dp p (e - 1) + 1) : Nat) : Int)
    have key := ih (x3.set i (f : Int)) (x4.set i ((max d (dp p (e - 1) + 1) : Nat) : Int)) f (max d (dp p (e - 1) + 1)) (by omega) hA' (rd_set (by rw [hA.l3]; exact hi) _) (rd_set (by rw [hA.l4]; exact hi) _) (by omega) (by omega)
     (fun f' x3' x4' h1 h2 h3 h4 => hok f' x3' x4' h1 h2 h3 (by
      rw [h4]
      show _ = ((dpS (dp p) (max d (dp p (at_ p i).f2[m].toNat + 1)) ((at_ p i).f2.take m).reverse : Nat) : Int)
      rw [show (at_ p i).f2[m].toNat = e - 1 by omega])) hno
    refine Ev.step (fun k => ?_) key
    conv => lhs; unfold impl_ParticleOk.l1
    have hw : wrap64 ((e : Int) - 1) = (e : Int) - 1 := w64 (by omega) (by omega)
    rw [if_pos (by omega), if_pos (by omega), if_pos (by omega), hrd, if_neg c0, if_pos (by omega), if_pos (by rw [hA.l3]; omega), he, hw, if_pos c1, if_pos (by omega), if_pos (by rw [hA.l3]; omega), if_pos (by rw [hA.l4]; omega), if_pos (by rw [hA.l4]; omega)]
    rw [ekd, hf3, hf4, hd, w64 (n := (dp p (e - 1) : Int) + 1) (by omega) (by omega), w64 (n := (m : Int) - 1) (by omega) (by omega), Int.toNat_natCast]
    have emx : mx (d : Int) ((dp p (e - 1) : Int) + 1) = ((max d (dp p (e - 1) + 1) : Nat) : Int) := by
     unfold mx
     split <;> omega
    rw [emx]
   ·have hR : R = false := hno (by rw [hch, if_neg (fun h => c1 h.2)])
    subst hR
    refine Ev.step (f := fun _ => some false) (fun k => ?_) (Ev.now _)
    conv => lhs; unfold impl_ParticleOk.l1
    have hw : wrap64 ((e : Int) - 1) = (e : Int) - 1 := w64 (by omega) (by omega)
    rw [if_pos (by omega), if_pos (by omega), if_pos (by omega), hrd, if_neg c0, if_pos (by omega), if_pos (by rw [hA.l3]; omega), he, hw, if_neg c1]
def finV (p : List PM) : Bool := (tf p (p.length - 1) == some 0) && !posN (at_ p (p.length - 1)) && decide (dp p (p.length - 1) ≤ 9)
theorem pos_ok (n : PM) : impl_PNode_isPosition.f n.f0 n.f1 n.f2 n.f3 = some (posN n) := by
 unfold impl_PNode_isPosition.f posN
 by_cases h : n.f0 = 1
 ·rw [if_pos h, h]; rfl
 ·rw [if_neg h, beq_eq_false_iff_ne.2 h]; rfl
theorem in_ok (x : Int) : impl_in.f x 0 3 = some (decide (0 ≤ x ∧ x ≤ 3)) := by
 unfold impl_in.f
 by_cases h : 0 ≤ x
 ·rw [if_pos h]; congr 1; exact decide_eq_decide.2 (by omega)
 ·rw [if_neg h, decide_eq_false (by omega)]
theorem impl_nodes {p : List PM} (h1 : 1 ≤ p.length) (hp : p.length ≤ 40) (hs : smallM p) : ∀ (m i : Nat) (x3 x4 : List Int), i + m = p.length → Arr p i x3 x4 → (i < p.length → rd x4 (i : Int) = 0) →
  Ev (fun k => impl_ParticleOk.l0 k p x3 x4 p (p.length : Int) (i : Int)) (((List.range' i m).all fun j => okN (at_ p j) && (tf p j).isSome) && finV p) := by
 intro m
 induction m with
 | zero =>
  intro i x3 x4 hi hA hz
  obtain ⟨f, hf, hf3, hf4⟩ := hA.lo (p.length - 1) (by omega)
  refine Ev.step (f := fun _ => some _) (fun k => ?_) (Ev.now _)
  conv => lhs; unfold impl_ParticleOk.l0
  have hw : wrap64 ((p.length : Int) - 1) = ((p.length - 1 : Nat) : Int) := by rw [w64] <;> omega
  rw [if_neg (by omega), hw, if_pos (by omega), if_pos (by rw [hA.l3]; omega), hf3]
  rw [List.range'_zero, List.all_nil, Bool.true_and]
  unfold finV
  rw [hf]
  by_cases c : (f : Int) = 0
  ·obtain rfl : f = 0 := by omega
   rw [if_pos c, if_pos (by omega)]
   have e : rd_T42 p ((p.length - 1 : Nat) : Int) = at_ p (p.length - 1) := rfl
   rw [e, pos_ok]
   simp only [Option.bind_some]
   cases posN (at_ p (p.length - 1)) with
   | true => simp
   | false =>
    rw [if_neg (by decide), if_pos (by rw [hA.l4]; omega), hf4]
    simp only [beq_self_eq_true, Bool.not_false, Bool.true_and]
    congr 1
    exact decide_eq_decide.2 (by omega)
  ·rw [if_neg c]
   have : (some f == some 0) = false := beq_eq_false_iff_ne.2 (fun h => c (by injection h with h; omega))
   rw [this]
   rfl
 | succ m ih =>
  intro i x3 x4 hi hA hz
  have hil : i < p.length := by omega
  have e : rd_T42 p (i : Int) = at_ p i := rfl
  have hsm := hs p[i] (List.getElem_mem hil)
  rw [← at_lt hil] at hsm
  rw [List.range'_succ, List.all_cons]
  refine Ev.step (f := fun k => (impl_PNode_fits.f k (at_ p i).f0 (at_ p i).f1 (at_ p i).f2 (at_ p i).f3).bind fun t => if t = true then (impl_ParticleOk.j1 k p x3 x4 (i : Int) p (p.length : Int) (i : Int) (!decide (0 ≤ (at_ p i).f3 ∧ (at_ p i).f3 ≤ 3)) (at_ p i).f0 (at_ p i).f1 (at_ p i).f2 (at_ p i).f3) else (impl_ParticleOk.j1 k p x3 x4 (i : Int) p (p.length : Int) (i : Int) true (at_ p i).f0 (at_ p i).f1 (at_ p i).f2 (at_ p i).f3)) (fun k => ?_) ?_
  ·conv => lhs; unfold impl_ParticleOk.l0
   rw [if_pos (by omega), if_pos (by omega), if_pos (by omega), e, in_ok]
   rfl
  ·refine Ev.bind (impl_fits _ hsm.1) ?_
   have hno : Ev (fun k => impl_ParticleOk.j1 k p x3 x4 (i : Int) p (p.length : Int) (i : Int) true (at_ p i).f0 (at_ p i).f1 (at_ p i).f2 (at_ p i).f3) false := by
    refine Ev.step (f := fun _ => some false) (fun k => ?_) (Ev.now _)
    conv => lhs; unfold impl_ParticleOk.j1
    rw [if_pos rfl]
   rw [show okN (at_ p i) = (fitsN (at_ p i) && decide (0 ≤ (at_ p i).f3 ∧ (at_ p i).f3 ≤ 3)) from rfl, Bool.and_assoc]
   cases fitsN (at_ p i) with
   | false => simpa using hno
   | true =>
    simp only [if_true, Bool.true_and]
    cases decide (0 ≤ (at_ p i).f3 ∧ (at_ p i).f3 ≤ 3) with
    | false => simpa using hno
    | true =>
     simp only [Bool.not_true, Bool.true_and]
     have hA2 := hA.set_ (i : Int) (rd x4 (i : Int))
     have hset : x4.set i (rd x4 (i : Int)) = x4 := by
      unfold rd
      rw [Int.toNat_natCast, List.getD_eq_getElem?_getD, List.getElem?_eq_getElem (by rw [hA.l4]; exact hil)]
      exact List.set_getElem_self _
     rw [hset] at hA2
     have key := impl_kids hil hp hs ((tf p i).isSome && ((List.range' (i + 1) m).all fun j => okN (at_ p j) && (tf p j).isSome) && finV p) (at_ p i).f2.length (x3.set i (i : Int)) x4 i 0 (Nat.le_refl _) hA2 (rd_set (by rw [hA.l3]; exact hil) _) (by rw [hz hil]; rfl) (Nat.le_refl _) (Nat.zero_le _)
      (fun f x3' x4' h1 h2 h3 h4 => by
       rw [List.take_length, ← tf_eq] at h1
       rw [List.take_length] at h4
       rw [h1, Option.isSome_some, Bool.true_and]
       have := ih (i + 1) x3' x4' (by omega) ⟨h2.l3, h2.l4, fun j hj => by
        by_cases c : j < i
        ·exact h2.lo j c
        ·obtain rfl : j = i := by omega
         exact ⟨f, h1, h3, by rw [h4, dpS_rev, dp_eq h1]⟩, fun j hj => h2.hi j (by omega)⟩ (fun _ => h2.hi (i + 1) (by omega))
       rw [show wrap64 ((i : Int) + 1) = ((i + 1 : Nat) : Int) by rw [w64] <;> omega]
       exact this)
      (fun hn => by rw [List.take_length, ← tf_eq] at hn; rw [hn]; rfl)
     refine Ev.step (fun k => ?_) (Bool.and_assoc _ _ _ ▸ key)
     conv => lhs; unfold impl_ParticleOk.j1
     rw [if_neg (by decide), if_pos (by omega), if_pos (by rw [hA.l3]; omega), Int.toNat_natCast, w64 (n := ((at_ p i).f2.length : Int) - 1) (by omega) (by omega)]
theorem impl_ok (p : List PM) (hs : smallM p) : Ev (fun k => impl_ParticleOk.f k p) (okV p) := by
 unfold impl_ParticleOk.f okV
 by_cases c : 1 ≤ p.length ∧ p.length ≤ 40
 ·have hin : impl_in.f (p.length : Int) 1 40 = some true := by
   unfold impl_in.f
   rw [if_pos (by omega), decide_eq_true (by omega)]
  rw [hin, decide_eq_true c, Bool.true_and]
  simp only [Option.bind_some, if_true]
  refine Ev.congr (f := fun k => impl_ParticleOk.l0 k p (List.replicate p.length 0) (List.replicate p.length 0) p (p.length : Int) 0) (fun k => ?_) ?_
  ·rw [if_pos (by omega), if_pos (by omega), Int.toNat_natCast]
  ·have hrep : ∀ j : Nat, rd (List.replicate p.length (0 : Int)) (j : Int) = 0 := by
    intro j
    unfold rd
    rw [Int.toNat_natCast, List.getD_eq_getElem?_getD, List.getElem?_replicate]
    split <;> rfl
   have := impl_nodes c.1 c.2 hs p.length 0 (List.replicate p.length 0) (List.replicate p.length 0) (by omega) ⟨by simp, by simp, fun j hj => by omega, fun j _ => hrep j⟩ (fun _ => hrep 0)
   rw [← List.range_eq_range'] at this
   unfold finV at this
   rw [← Bool.and_assoc, ← Bool.and_assoc] at this
   exact this
 ·have hin : impl_in.f (p.length : Int) 1 40 = some false := by
   unfold impl_in.f
   by_cases h : (1 : Int) ≤ p.length
   ·rw [if_pos h, decide_eq_false (by omega)]
   ·rw [if_neg h]
  rw [hin, decide_eq_false c]
  simp only [Option.bind_some, Bool.false_and]
  exact Ev.congr (f := fun _ => some false) (fun _ => by simp) (Ev.now _)
end Go.Proofs.Ytajdfbgbkgabjaa.Pure
