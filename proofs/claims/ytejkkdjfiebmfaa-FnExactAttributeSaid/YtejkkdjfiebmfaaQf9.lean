/- Words and contracts for the row RowFnExactAttribute: what the Go functions answer that it calls; printed by programs of the kit and of this session, and merged. -/
import Derived.Test.YtejkkdjfiebmfaaQf8
import Derived.Lib.Hide
import Derived.Outline
namespace Go.Proofs.Ytejkkdjfiebmfaa.L
open Go.RowKit Go.Proofs.YtejkkdjfiebmfaaW.PrintWords Go.Proofs.YtejkkdjfiebmfaaW.PrintLast Go.Proofs.YtejkkdjfiebmfaaW.PrintMore
set_option linter.unusedVariables false
set_option linter.unusedSimpArgs false
def net_next.T3 : Bool × List (List Nat × List Nat) := (true, [([], []), ([], []), ([1], [1]), ([2], [2]), ([3], [3]), ([], []), ([5], [5]), ([4, 6], [4, 6]), ([7], [7]), ([0, 8, 6], [0, 8]), ([9, 9, 0, 1, 2, 3, 4, 5, 6, 7, 8, 9], [0, 9])])
def net_next.B3 : List Nat := [0, 0, 2, 6, 14, 0, 32, 126, 254, 511, 1023]
theorem net_next.tab3 : rtab .any (opsOf Try.f39 3) = net_next.T3 := by kernel_rfl
theorem net_next.bits3 : waitsOk net_next.T3.2 net_next.B3 = true := by kernel_rfl

def NextPost (w : World) (r : List Int) (e : Ending) (w' : World) : Prop := ∃ v, e = .returned v ∧ Kd.R (Kd.int .i64) 2 w' w.heap.size (fun _ => True) v r ∧ Below w.heap.size w w'
set_option maxHeartbeats 4000000 in
set_option maxRecDepth 100000 in
theorem net_next (w : World) (base X : Nat) (own : Tags) (nv fv lv wv : Value) (N : NetV) (ms : List Nat) (A0 : Option Addr) (n c0 : Nat) (q : Int) (hN : NetW w base X own (.slice A0 n c0) nv fv lv wv N ms) (hm : n ≤ 9223372036854775807) (h0 : 0 < n)
  (hf : N.fst.length = n) (hl : ∀ l ∈ N.fst, l.length < LIMK) (hq : q < N.fol.length) :
  Calls Try.prog 39 #[.pointer (some ⟨X, 0, none⟩), .int .i64 q] w (NextPost w (nextF N n q)) := by
 have N3 := Aside0.mk hN
 have HF := Aside0.mk hf
 have HL := Aside0.mk hl
 have L3 := Aside0.mk (Below.refl w.heap.size w)
 clear hN hf hl
 by_cases hneg : q < 0
 rotate_left
 ·have hneg2 : decide (q < 0) = false := decide_eq_false hneg
  rw [show nextF N n q = Pure.MT.srt (rdL N.fol q) from if_neg hneg]
  have hqz : 0 ≤ q := by omega
  obtain ⟨g, c, b, e, hgc, hmc, hms, hmi⟩ := N3.out.map_at q hqz hq
  subst e
  obtain ⟨l, hlq⟩ : ∃ l, rdL N.fol q = l := ⟨_, rfl⟩
  rw [hlq]
  have hms2 : MapSet w b l := by rw [← hlq]; exact hms
  have og : own g = 4 := N3.out.wv_.1 g rfl
  have ob : own b = 8 := N3.out.m.own_ b (List.mem_of_getElem? hmi)
  have OG := Aside0.mk og
  have OB := Aside0.mk ob
  have HMS := Aside0.mk hms2
  clear hms hms2 hmi og ob hlq
  go_enter Try.func39, Try.ntmps39
  go_upto_region 5 with (first | ((with_reducible refine gate_dst (N := 7) rfl ?_); refine lit_ints (w0 := w) (W := w) (own := own) ?hg (N := 7) ?hd [] 5 ?hr L3.out dq24 ?_; (case hd => rfl); (case hg => rfl); (case hr => exact dq0); intro v7 w4 own4 hv_ st_ hb_; have R5 := Aside0.mk hv_; have hc4 := st_.cell hmc (fun h => h); have OB4 := Aside0.mk ((st_.tag b HMS.out.lt (fun h => h)).trans OB.out); have HM4 := Aside0.mk (HMS.out.step (st_.blk b HMS.out.lt (fun h => h))); have z0_ := Aside0.mk (st_.net N3.out (fun _ _ h => h)); have z1_ := Aside0.mk (hb_); clear N3 L3; have N3 := z0_; have L3 := z1_; clear z0_ z1_; clear hv_ st_ hb_ hmc; obtain ⟨-, -, -, -, hx4, -⟩ := N3.out.cellAt) | (at_range; have L4_ := L3.out.size; refine set_range rfl _ rfl b l rfl HM4.out ?_; intro w5 hgo_ hg_ hsz_; have hb_ : Below w4.heap.size w4 w5 := ⟨hg_.os, hg_.tape, hg_.output, hg_.size, fun k hk => hg_.block k hk dq24⟩; obtain ⟨own5, ho9, hot⟩ := fresh_tag w4 own4 (Nat.le_refl w4.heap.size) 9; have st_ : Stp w4 w5 own4 own5 (fun _ => False) := Stp.fresh hb_ hot _; obtain ⟨r, hr9⟩ : ∃ r, w4.heap.size = r := ⟨_, rfl⟩; have GO := Aside0.mk hgo_; have O9 := Aside0.mk ho9; have OB5 := Aside0.mk ((st_.tag b HM4.out.lt (fun h => h)).trans OB4.out); have z0_ := Aside0.mk (st_.net N3.out (fun _ _ h => h)); have z1_ := Aside0.mk (below_step L3.out hb_); have z2_ := Aside0.mk (st_.row R5.out (fun h => h)); clear N3 L3 R5; have N3 := z0_; have L3 := z1_; have R5 := z2_; clear z0_ z1_ z2_; rw [hr9] at GO O9; have HR9 := Lib.hid hr9; have HW4 := Lib.hid L4_; clear L4_ hgo_ hg_ hsz_ hb_ hot st_ ho9 hx4 hc4))
  go_loopg [5] (w5.rangeLeft b r) (fun gg s5 wr => ∃ (done : List Int) (ow : Tags) (v : Value), s5 = v ∧ wr.rangeLeft b r ≤ gg ∧ Aside0 (Going wr b r l done) ∧ Aside0 (Kd.R (Kd.int .i64) 2 wr w.heap.size (fun k => ow k = 5) v done) ∧ Aside0 (ow r = 9) ∧ Aside0 (ow b = 8) ∧ Aside0 (Below w.heap.size w wr))
  case atStart => exact ⟨[], own5, v7, rfl, Nat.le_refl _, GO, R5, O9, OB5, L3⟩
  clear GO R5 O9 OB5 L3 N3
  obtain ⟨done, ow, v, rfl, hgg, GO, R5, O9, OB5, L3⟩ := hrel
  obtain ⟨Av, cv, e4⟩ := Kd.R_slice R5.out
  subst e4
  have HGG := Lib.hid hgg
  clear hgg
  go_wp2_with (at_next; refine set_next rfl _ rfl b r l done rfl GO.out ?_ ?_)
  ·intro hall_ hnd_
   have HALL := Lib.hid hall_
   have HND := Aside0.mk hnd_
   clear hall_ hnd_
   go_wp2_with (first | ((with_reducible refine gate_callee (f := 44) rfl ?_); refine goesL_ (some 37) rfl rfl Try.func44 dq21 rfl #[.slice Av done.length cv] rfl dq115 ?_; (with_reducible refine (sort_ints _ _ _ _ _ R5.out (by have := GO.out.small; omega)).mono ?_); rintro e w9 ⟨rfl, hr_, hg_⟩; refine ⟨_, rfl, ?_⟩; have z0_ := Aside0.mk (grown_low L3.out hg_ R5.out); have z1_ := Aside0.mk (hr_); clear L3 R5; have L3 := z0_; have R5 := z1_; clear z0_ z1_; clear hr_ hg_))
   go_ret
   exact ⟨_, rfl, by rw [← isort_srt HND.out HALL.out]; exact Kd.R_mono R5.out (fun _ _ => trivial), L3.out⟩
  intro x cx w6 hxl hxd hx0 hx1 hgo_ hlt_ hg_ hsz_ hen_
  have st_ : Stp wr w6 ow ow (fun t => t = 9) := ⟨hg_.size, fun k hk hn => hg_.block k hk (fun e => hn (by injection e with e; rw [e]; exact O9.out)), fun _ _ _ => rfl⟩
  have z0_ := Aside0.mk (st_.row R5.out dq26)
  have z1_ := Aside0.mk (pw_below_grown L3.out (some r) L3.out.size hg_ (fun k hk => by injection hk with hk; have := HR9.out; have := HW4.out; omega))
  have HLT := Lib.hid hlt_
  clear R5 L3 GO hg_ st_ hlt_ hxl hxd hsz_
  have R5 := z0_
  have L3 := z1_
  have GO := Aside0.mk hgo_
  clear z0_ z1_ hgo_
  go_wp2_with (first | ((with_reducible refine gate_dst (N := 34) rfl ?_); refine lit_one (W := w6) ?hg (N := 34) ?hd (.int .i64 x) 2 ?hr ?_; (case hd => rfl); (case hg => rfl); (case hr => exact dq0); intro g7 w7 hg7 hbk hb_; have HK7 := Aside0.mk hbk; have st_ : Stp w6 w7 ow ow (fun _ => False) := Stp.below hb_ _ _; have hq_ := GO.out.step (st_.blk b GO.out.set_.lt (fun h => h)) (st_.blk r (GO.out.rlt) (fun h => h)); have HLE7 := Lib.hid hq_.2; have z0_ := Aside0.mk (hq_.1); have z1_ := Aside0.mk (st_.row R5.out (fun h => h)); have z2_ := Aside0.mk (below_step L3.out hb_); clear GO R5 L3; have GO := z0_; have R5 := z1_; have L3 := z2_; clear z0_ z1_ z2_; clear hbk hg7 st_ hb_ hq_) | ((with_reducible refine gate_builtin (b := .append) (xs := #[.tmp 32, .tmp 34]) rfl ?_); at_builtin; refine app_ints (w0 := w) (W := w7) (own := ow) (v := .slice Av done.length cv) (t := 5) ?hg (.tmp 32) (.tmp 34) ?ho done [x] (A := some ⟨g7, 0, none⟩) (m := 1) (c := 1) ?hs ?hx R5.out (one_row HK7.out rfl) L3.out (by have := GO.out.small; rw [List.length_append] at this; omega) ?_; (case hg => rfl); (case ho => rfl); (case hs => rfl); (case hx => rfl); intro v35 w8 own8 hv_ st_ hb_; have hq_ := GO.out.step (st_.blk b GO.out.set_.lt (by rw [OB5.out]; decide)) (st_.blk r (GO.out.rlt) (by rw [O9.out]; decide)); have HLE := Lib.hid (hq_.2.trans HLE7.out); have z0_ := Aside0.mk ((st_.tag r GO.out.rlt (by rw [O9.out]; decide)).trans O9.out); have z1_ := Aside0.mk ((st_.tag b GO.out.set_.lt (by rw [OB5.out]; decide)).trans OB5.out); have z2_ := Aside0.mk (hv_); have z3_ := Aside0.mk (hb_); have z4_ := Aside0.mk (hq_.1); clear O9 OB5 R5 L3 GO; have O9 := z0_; have OB5 := z1_; have R5 := z2_; have L3 := z3_; have GO := z4_; clear z0_ z1_ z2_ z3_ z4_; clear hv_ st_ hb_ hq_))
  go_roundg (w8.rangeLeft b r)
  case measure => have := HLE.out; have := HLT.out; have := HGG.out; omega
  case rel => exact ⟨done ++ [x], own8, v35, rfl, Nat.le_refl _, GO, R5, O9, OB5, L3⟩
 have hneg2 : decide (q < 0) = true := decide_eq_true hneg
 rw [show nextF N n q = isort (rdL N.fst ((n : Int) - 1)) from if_pos hneg]
 have hnz : 0 ≤ (n : Int) - 1 := by omega
 have hnz1 : 1 ≤ (n : Int) := by omega
 go_enter Try.func39, Try.ntmps39
 go_upto_region 3 with (first | ((with_reducible refine gate_dst (N := 7) rfl ?_); refine lit_ints (w0 := w) (W := w) (own := own) ?hg (N := 7) ?hd [] 5 ?hr L3.out dq24 ?_; (case hd => rfl); (case hg => rfl); (case hr => exact dq0); intro v7 w4 own4 hv_ st_ hb_; have R5 := Aside0.mk hv_; have z0_ := Aside0.mk (st_.net N3.out (fun _ _ h => h)); have z1_ := Aside0.mk (hb_); clear N3 L3; have N3 := z0_; have L3 := z1_; clear z0_ z1_; clear hv_ st_ hb_))
 obtain ⟨gf, cf, vk, e2, hcf, hRf⟩ := rows_at N3.out.f ((n : Int) - 1) hnz (by have := HF.out; omega)
 have hof : own4 gf = 2 := by have q_ := N3.out.f.1; rw [e2] at q_; exact q_ gf rfl
 subst e2
 obtain ⟨Af, af, e3⟩ := Kd.R_slice hRf
 subst e3
 rw [show ((n : Int) - 1).toNat = n - 1 by omega] at hcf
 obtain ⟨-, -, hx2, -, -, -⟩ := N3.out.cellAt
 have RF := Aside0.mk hRf
 have OF := Aside0.mk hof
 have XO := Aside0.mk N3.out.xo
 have HLK : Aside0 ((rdL N.fst ((n : Int) - 1)).length < LIMK) := ⟨HL.out _ (by unfold rdL rdOf; rw [List.getD_eq_getElem?_getD, List.getElem?_eq_getElem (by have := HF.out; omega)]; exact List.getElem_mem _)⟩
 have hfz : ((n : Int) - 1 : Int) < (N.fst.length : Int) := by have := HF.out; omega
 clear hRf hof
 have z0_ := Aside0.mk (N3.out.drew)
 have z1_ := Aside0.mk (below_drew1 L3.out)
 have z2_ := Aside0.mk (Kd.R_drew R5.out)
 have z3_ := Aside0.mk (Kd.R_drew RF.out)
 clear N3 L3 R5 RF
 have N3 := z0_
 have L3 := z1_
 have R5 := z2_
 have RF := z3_
 clear z0_ z1_ z2_ z3_
 refine start_ (n := 11) (S := fun w' => w'.cell? ⟨X, 2, none⟩ = some (.slice (some ⟨gf, 0, none⟩) N.fst.length cf) ∧ w'.cell? ⟨gf, n - 1, none⟩ = some (.slice Af (rdL N.fst ((n : Int) - 1)).length af)) (ds := []) #[false, false, false, false, false, false, false, false, false, false, false] dq21 rfl rfl ⟨hx2, hcf⟩ (fun hHeld => ?_); refine with_tabW net_next.tab3 net_next.bits3 (fun HT_ HW_ => ?_)
 clear hx2 hcf
 generalize w4.drew = w5 at N3 L3 R5 RF hHeld ⊢
 refine pureA (i := 0) (N := some 10) #[true, false, false, false, false, false, false, false, false, false, false] ?_
 refine pureA (i := 1) (N := some 11) #[true, true, false, false, false, false, false, false, false, false, false] ?_
 refine pureA (i := 2) (N := some 12) #[true, true, true, false, false, false, false, false, false, false, false] ?_
 refine pureA (i := 3) (N := some 13) #[true, true, true, true, false, false, false, false, false, false, false] ?_
 refine takeA2 (i := 4) (N := some 14) #[true, true, true, true, true, false, false, false, false, false, false] ?_
 refine pureA (i := 5) (N := some 15) #[true, true, true, true, true, true, false, false, false, false, false] ?_
 refine one_ (i := 6) (N := some 16) #[true, true, true, true, true, true, true, false, false, false, false] rfl rfl (one_of HT_.out dq21) dq26 (fun K hK => ?_)
 refine goes_ Try.func43 dq21 rfl #[.pointer (some ⟨X, 0, none⟩)] (by rfl) rfl rfl dq115 ?_
 refine (net_whole N3.out hm h0).mono ?_
 rintro e w6 ⟨rfl, hb_⟩
 refine ⟨_, rfl, ?_⟩
 obtain ⟨s1, s2⟩ := hHeld
 have st_ := Stp.below hb_ own4 (fun _ => False)
 have HS_ := Aside0.mk (show (fun w' => w'.cell? ⟨X, 2, none⟩ = some (.slice (some ⟨gf, 0, none⟩) N.fst.length cf) ∧ w'.cell? ⟨gf, n - 1, none⟩ = some (.slice Af (rdL N.fst ((n : Int) - 1)).length af)) w6 from ⟨st_.cell s1 (fun h => h), st_.cell s2 (fun h => h)⟩)
 have z0_ := Aside0.mk (st_.net N3.out (fun _ _ h => h))
 have z1_ := Aside0.mk (below_step L3.out hb_)
 have z2_ := Aside0.mk (st_.row R5.out (fun h => h))
 have z3_ := Aside0.mk (st_.row RF.out (fun h => h))
 clear N3 L3 R5 RF
 have N3 := z0_
 have L3 := z1_
 have R5 := z2_
 have RF := z3_
 clear z0_ z1_ z2_ z3_
 clear s1 s2 st_ hb_
 refine hK.out _ _ HS_.out (fun hHeld => ?_)
 clear hK K
 refine norm_ (a' := ?_) ?_ ?_
 rotate_left
 ·show Act.put _ (some 16) _ = _
  simp only [Act.put, List.setIfInBounds_toArray, List.set_cons_zero, List.set_cons_succ, i64_w, i32_w]
  rfl
 clear HS_
 refine pureA (i := 7) (N := some 17) #[true, true, true, true, true, true, true, true, false, false, false] ?_
 refine takeA2 (i := 8) (N := some 18) #[true, true, true, true, true, true, true, true, true, false, false] ?_
 refine one_ (i := 9) (N := some 19) #[true, true, true, true, true, true, true, true, true, true, false] rfl rfl (one_of HT_.out dq21) dq26 (fun K hK => ?_)
 refine app_ints_step (w0 := w) (W := w6) (own := own4) (v := v7) (t := 5) (by rfl) (.tmp 10) (.tmp 18) rfl [] (rdL N.fst ((n : Int) - 1)) (A := Af) (m := (rdL N.fst ((n : Int) - 1)).length) (c := af) rfl rfl R5.out (Kd.R_reads' RF.out).2.2 L3.out (by have := HLK.out; unfold LIMK at this; simp only [List.length_nil]; omega) ?_
 intro v19 w7 own7 hv_ st_ hb_
 obtain ⟨s1, s2⟩ := hHeld
 have HS_ := Aside0.mk (show (fun w' => w'.cell? ⟨X, 2, none⟩ = some (.slice (some ⟨gf, 0, none⟩) N.fst.length cf) ∧ w'.cell? ⟨gf, n - 1, none⟩ = some (.slice Af (rdL N.fst ((n : Int) - 1)).length af)) w7 from ⟨st_.cell s1 dq119, st_.cell s2 dq117⟩)
 have z0_ := Aside0.mk (st_.net N3.out mine5)
 have z1_ := Aside0.mk (hb_)
 have z2_ := Aside0.mk (hv_)
 clear N3 L3 R5
 have N3 := z0_
 have L3 := z1_
 have R5 := z2_
 clear z0_ z1_ z2_
 clear s1 s2 st_ hv_ hb_
 refine hK.out _ _ HS_.out (fun hHeld => ?_)
 clear hK K
 refine norm_ (a' := ?_) ?_ ?_
 rotate_left
 ·show Act.put _ (some 19) _ = _
  simp only [Act.put, List.setIfInBounds_toArray, List.set_cons_zero, List.set_cons_succ, i64_w, i32_w]
  rfl
 clear HS_
 refine pureA (i := 10) (N := some 5) #[true, true, true, true, true, true, true, true, true, true, true] ?_
 refine done_ (done_of HT_.out dq21) ?_
 rw [List.nil_append] at R5
 go_wp2_with (first | ((with_reducible refine gate_callee (f := 44) rfl ?_); refine goesL_ (some 37) rfl rfl Try.func44 dq21 rfl #[v19] rfl dq115 ?_; (with_reducible refine (sort_ints _ _ _ _ _ R5.out (by have := HLK.out; unfold LIMK at this; omega)).mono ?_); rintro e w9 ⟨rfl, hr_, hg_⟩; refine ⟨_, rfl, ?_⟩; have z0_ := Aside0.mk (grown_low L3.out hg_ R5.out); have z1_ := Aside0.mk (hr_); clear L3 R5; have L3 := z0_; have R5 := z1_; clear z0_ z1_; clear hr_ hg_))
 go_ret
 exact ⟨_, rfl, Kd.R_mono R5.out (fun _ _ => trivial), L3.out⟩
def are_clear.T7 : Bool × List (List Nat × List Nat) := (true, [([], []), ([0], [0]), ([1], [1]), ([2], [2]), ([], []), ([3, 4], [3, 4]), ([5], [5]), ([6], [6]), ([7], [7]), ([8], [8]), ([9], [9]), ([10, 9], [9, 10]), ([11, 9], [9, 11]), ([12, 9], [9, 12]), ([9], [9]), ([13, 14, 9], [9, 13, 14]), ([15, 9], [9, 15]), ([16, 9], [9, 16]), ([17, 9], [9, 17]), ([9, 18], [9, 18]), ([19, 9], [19]), ([20], [20]), ([21, 20], [20, 21]), ([22, 20], [20, 22]), ([23, 20], [20, 23]), ([20], [20]), ([24, 25, 20], [20, 24, 25]), ([26, 20], [20, 26]), ([27, 20], [20, 27]), ([20], [20]), ([29, 20], [20, 29]), ([30, 20], [20, 30]), ([31, 20], [20, 31]), ([20], [20]), ([32, 33, 20], [20, 32, 33]), ([34, 20], [20, 34]), ([35, 20], [20, 35]), ([28, 36, 20], [20, 28, 36]), ([20, 37], [20, 37])])
def are_clear.B7 : List Nat := [0, 1, 3, 7, 0, 31, 63, 127, 255, 511, 1023, 2047, 4095, 8191, 1023, 32767, 65535, 131071, 262143, 524287, 1048575, 2097151, 4194303, 8388607, 16777215, 2097151, 67108863, 134217727, 268435455, 2097151, 538968063, 1612709887, 3760193535, 2097151, 16645095423, 33824964607, 68184702975, 137438953471, 274877906943]
theorem are_clear.tab7 : rtab .any (opsOf Try.f50 7) = are_clear.T7 := by kernel_rfl
theorem are_clear.bits7 : waitsOk are_clear.T7.2 are_clear.B7 = true := by kernel_rfl

def clashB (p : List (S49)) (a b : Int) : Bool := ((rd_T49 p a).f0 == 4) || (((rd_T49 p b).f0 == 4) || decide ((rd_T49 p a).f1.toList = (rd_T49 p b).f1.toList))
def apartF (p : List (S49)) (l : List Int) : Bool := (List.range l.length).all fun i => (List.range i).all fun j => !clashB p (rd l (i : Int)) (rd l (j : Int))
theorem all_step {q : Nat → Bool} {i : Nat} (h : (List.range i).all q = true) (hi : q i = true) : (List.range (i + 1)).all q = true := by
 rw [List.range_succ, List.all_append, h, Bool.true_and, List.all_cons, hi]
 rfl
theorem all_not {q : Nat → Bool} {i n : Nat} (h : i < n) (hi : q i = false) : (List.range n).all q = false := by
 cases he : (List.range n).all q with
 | false => rfl
 | true => rw [List.all_eq_true] at he; rw [he i (List.mem_range.2 h)] at hi; cases hi
set_option maxHeartbeats 4000000 in
set_option maxRecDepth 100000 in
theorem net_clear (w0 w : World) (X : Nat) (own : Tags) (nv fv lv wv : Value) (N : NetV) (ms : List Nat) (A0 : Option Addr) (n c0 : Nat) (l0 : List (S49)) (A1 : Option Addr) (c1 : Nat) (l : List Int)
  (hN : NetW w w0.heap.size X own (.slice A0 n c0) nv fv lv wv N ms) (hR : Kd.C k49 w A0 l0.length l0) (hn : l0.length = n) (h1 : Kd.C (Kd.int .i64) w A1 l.length l) (hc1 : l.length ≤ c1) (hl : ∀ a ∈ l, 0 ≤ a ∧ a < (n : Int)) :
  Calls Try.prog 50 #[.pointer (some ⟨X, 0, none⟩), .slice A1 l.length c1] w fun e w' => e = .returned (.bool (apartF l0 l)) ∧ Below w.heap.size w w' := by
 have HN := Aside0.mk hN
 have HR := Aside0.mk hR
 have H1 := Aside0.mk h1
 have HE := Aside0.mk hn
 have HL := Aside0.mk hl
 have HB := Aside0.mk (Below.refl w.heap.size w)
 have hm1 : l.length ≤ 9223372036854775807 := Kd.C_max h1
 have hm0 : n ≤ 9223372036854775807 := by have := Kd.C_max hR; omega
 clear hN hR h1 hl hn
 obtain ⟨n1, hn1⟩ : ∃ n, l.length = n := ⟨_, rfl⟩
 rw [hn1] at hc1 hm1 ⊢
 have HN1 := Aside0.mk hn1
 clear hn1
 go_enter Try.func50, Try.ntmps50
 go_wp2
 go_loopg [11] n1 (fun gg s11 wr => ∃ i : Nat, i ≤ n1 ∧ n1 - i ≤ gg ∧ s11 = .int .i64 i ∧ Aside0 ((List.range i).all (fun i => (List.range i).all fun j => !clashB l0 (rd l (i : Int)) (rd l (j : Int))) = true) ∧ Aside0 (NetW wr w0.heap.size X own (.slice A0 n c0) nv fv lv wv N ms) ∧ Aside0 (Kd.C k49 wr A0 l0.length l0) ∧ Aside0 (Kd.C (Kd.int .i64) wr A1 l.length l) ∧ Aside0 (Below w.heap.size w wr))
 case atStart => exact ⟨0, Nat.zero_le _, dq25, rfl, ⟨rfl⟩, HN, HR, H1, HB⟩
 obtain ⟨i, hi, hg, rfl, GQ, GN, GR, G1, GB⟩ := hrel
 clear HN HR H1 HB
 by_cases hlt : i < n1
 rotate_left
 ·have hlz : ¬ ((i : Int) < (n1 : Int)) := by omega
  have : i = n1 := by omega
  subst this
  have hF : apartF l0 l = true := by
   unfold apartF
   rw [HN1.out]
   exact GQ.out
  go_wp2
  go_ret
  exact ⟨by first | (rw [hF]; rfl) | rfl, GB.out⟩
 have hlz : (i : Int) < (n1 : Int) := by omega
 have hlx : i < l.length := by have := HN1.out; omega
 have hic : (i : Int) ≤ (c1 : Int) := by omega
 have hiz : (0 : Int) ≤ (i : Int) := by omega
 have hin : (i : Int) ≤ (n1 : Int) := by omega
 obtain ⟨ad1, e, hcell⟩ := Kd.at_int G1.out (i : Int) dq25 dq25
 subst e
 rw [Int.toNat_natCast] at hcell
 have hae : rd l (i : Int) ∈ l := by unfold rd; rw [Int.toNat_natCast, List.getD_eq_getElem?_getD, List.getElem?_eq_getElem hlx]; exact List.getElem_mem hlx
 have HA := Aside0.mk (HL.out _ hae)
 have HG := Aside0.mk hg
 obtain ⟨a, hae2⟩ : ∃ a, rd l (i : Int) = a := ⟨_, rfl⟩
 have HAE := Aside0.mk hae2
 rw [hae2] at hcell HA
 clear hg hae hae2
 go_wp2
 go_loopg [20] i (fun gg s20 wr => ∃ j : Nat, j ≤ i ∧ i - j ≤ gg ∧ s20 = .int .i64 j ∧ Aside0 ((List.range j).all (fun j => !clashB l0 a (rd l (j : Int))) = true) ∧ Aside0 (NetW wr w0.heap.size X own (.slice A0 n c0) nv fv lv wv N ms) ∧ Aside0 (Kd.C k49 wr A0 l0.length l0) ∧ Aside0 (Kd.C (Kd.int .i64) wr (some ad1) l.length l) ∧ Aside0 (Below w.heap.size w wr))
 case atStart => exact ⟨0, Nat.zero_le _, dq25, rfl, ⟨rfl⟩, GN, GR, G1, GB⟩
 obtain ⟨j, hj, hg2, rfl, LQ, LN, LR, L1, LB⟩ := hrel
 clear GN GR G1 GB
 by_cases hlt2 : j < i
 rotate_left
 ·have hlz2 : ¬ ((j : Int) < (i : Int)) := by omega
  have : j = i := by omega
  subst this
  have HQ1 := Aside0.mk (all_step (q := fun i : Nat => (List.range i).all fun j => !clashB l0 (rd l (i : Int)) (rd l (j : Int))) GQ.out (by show ((List.range j).all fun k => !clashB l0 (rd l (j : Int)) (rd l (k : Int))) = true; rw [HAE.out]; exact LQ.out))
  go_wp2
  go_roundg (n1 - (j + 1))
  case measure => have := HG.out; omega
  case rel => exact ⟨j + 1, dq25, dq25, by go_num, HQ1, LN, LR, L1, LB⟩
 have hlz2 : (j : Int) < (i : Int) := by omega
 have hlx2 : j < l.length := by omega
 obtain ⟨ad2, e, hcell2⟩ := Kd.at_int L1.out (j : Int) dq25 dq25
 injection e with e
 subst e
 rw [Int.toNat_natCast] at hcell2
 have hbe : rd l (j : Int) ∈ l := by unfold rd; rw [Int.toNat_natCast, List.getD_eq_getElem?_getD, List.getElem?_eq_getElem hlx2]; exact List.getElem_mem hlx2
 have HB2 := Aside0.mk (HL.out _ hbe)
 have HG2 := Aside0.mk hg2
 obtain ⟨b, hbe2⟩ : ∃ b, rd l (j : Int) = b := ⟨_, rfl⟩
 have HBE := Aside0.mk hbe2
 rw [hbe2] at hcell2 HB2
 clear hg2 hbe hbe2
 obtain ⟨ad, Aa, ca, e1, ha0_, ha1_, -, -, -, -⟩ := at_T49 LR.out a HA.out.1 (by rw [HE.out]; exact HA.out.2)
 obtain ⟨ad', Ab, cb, e2, hb0_, hb1_, -, -, -, -⟩ := at_T49 LR.out b HB2.out.1 (by rw [HE.out]; exact HB2.out.2)
 subst e1
 injection e2 with e2
 subst e2
 obtain ⟨ka, hka⟩ : ∃ ka, (rd_T49 l0 a).f0 = ka := ⟨_, rfl⟩
 obtain ⟨kb, hkb⟩ : ∃ kb, (rd_T49 l0 b).f0 = kb := ⟨_, rfl⟩
 obtain ⟨na, hna⟩ : ∃ na, (rd_T49 l0 a).f1 = na := ⟨_, rfl⟩
 obtain ⟨nb, hnb⟩ : ∃ nb, (rd_T49 l0 b).f1 = nb := ⟨_, rfl⟩
 rw [hka] at ha0_
 rw [hkb] at hb0_
 rw [hna] at ha1_
 rw [hnb] at hb1_
 have HKA := Aside0.mk hka
 have HKB := Aside0.mk hkb
 have HNA := Aside0.mk hna
 have HNB := Aside0.mk hnb
 clear hka hkb hna hnb
 obtain ⟨hx0, -, -, -, -, -⟩ := LN.out.cellAt
 have haz0 : 0 ≤ a := HA.out.1
 have haz1 : a < (n : Int) := HA.out.2
 have hbz0 : 0 ≤ b := HB2.out.1
 have hbz1 : b < (n : Int) := HB2.out.2
 go_upto_region 7 with (fail)
 by_cases ca : ka = 4
 ·have ea : (ka == 4) = true := beq_iff_eq.2 ca
  have z0_ := Aside0.mk (LN.out.drew)
  have z1_ := Aside0.mk (Kd.C_drew LR.out)
  have z2_ := Aside0.mk (Kd.C_drew L1.out)
  have z3_ := Aside0.mk (below_drew1 LB.out)
  clear LN LR L1 LB
  have LN := z0_
  have LR := z1_
  have L1 := z2_
  have LB := z3_
  clear z0_ z1_ z2_ z3_
  refine start_ (n := 39) (S := fun w' => w'.cell? ⟨X, 0, none⟩ = some (.slice (some ad) n c0) ∧ w'.cell? (ad.add (a.toNat * 4)) = some (.int .i64 ka) ∧ w'.cell? ⟨(ad.add (a.toNat * 4)).block, (ad.add (a.toNat * 4)).off + 1, none⟩ = some (.string na) ∧ w'.cell? (ad.add (b.toNat * 4)) = some (.int .i64 kb) ∧ w'.cell? ⟨(ad.add (b.toNat * 4)).block, (ad.add (b.toNat * 4)).off + 1, none⟩ = some (.string nb)) (ds := []) (bitsA 39 0) dq21 rfl rfl ⟨hx0, ha0_, ha1_, hb0_, hb1_⟩ (fun hHeld => ?_); refine with_tabW are_clear.tab7 are_clear.bits7 (fun HT_ HW_ => ?_)
  clear hx0 ha0_ ha1_ hb0_ hb1_
  generalize wr.drew = wq at LN LR L1 LB hHeld ⊢
  refine pureA (i := 0) (N := some 24) (bitsA 39 1) ?_
  refine pureA (i := 1) (N := some 25) (bitsA 39 3) ?_
  refine pureA (i := 2) (N := some 26) (bitsA 39 7) ?_
  refine takeA5 (i := 3) (N := some 27) (bitsA 39 15) ?_
  refine pureA (i := 4) (N := some 28) (bitsA 39 31) ?_
  refine pureA (i := 5) (N := some 29) (bitsA 39 63) ?_
  refine pureA (i := 6) (N := some 30) (bitsA 39 127) ?_
  refine takeA5 (i := 7) (N := some 31) (bitsA 39 255) ?_
  refine pure_ (i := 8) (N := some 32) (v := ?_) (a' := ?_) (bitsA 39 511) rfl rfl (any_of HT_.out dq21) (fun _ _ _ h => h) (Or.inl ⟨by rfl, ?_⟩) ?_ ?_
  rotate_left
  ·intro w'
   go_simp
   with_reducible rfl
  rotate_left
  ·exact dAct
  (first | rw [ea] | (simp only [ea]) | skip)
  refine pureA (i := 9) (N := some 33) (bitsA 39 1023) ?_
  refine pureN (i := 10) (N := some 34) (bitsA 39 2047) ?_
  refine pureN (i := 11) (N := some 35) (bitsA 39 4095) ?_
  refine pureN (i := 12) (N := some 36) (bitsA 39 8191) ?_
  refine pureN (i := 13) (N := some 37) (bitsA 39 16383) ?_
  refine pureN (i := 14) (N := some 38) (bitsA 39 32767) ?_
  refine pureN (i := 15) (N := some 39) (bitsA 39 65535) ?_
  refine pureN (i := 16) (N := some 40) (bitsA 39 131071) ?_
  refine pureN (i := 17) (N := some 41) (bitsA 39 262143) ?_
  refine pureN (i := 18) (N := some 42) (bitsA 39 524287) ?_
  refine pureA (i := 19) (N := some 43) (bitsA 39 1048575) ?_
  refine pureA (i := 20) (N := some 44) (bitsA 39 2097151) ?_
  refine pureN (i := 21) (N := some 45) (bitsA 39 4194303) ?_
  refine pureN (i := 22) (N := some 46) (bitsA 39 8388607) ?_
  refine pureN (i := 23) (N := some 47) (bitsA 39 16777215) ?_
  refine pureN (i := 24) (N := some 48) (bitsA 39 33554431) ?_
  refine pureN (i := 25) (N := some 49) (bitsA 39 67108863) ?_
  refine pureN (i := 26) (N := some 50) (bitsA 39 134217727) ?_
  refine pureN (i := 27) (N := some 51) (bitsA 39 268435455) ?_
  refine pureN (i := 28) (N := some 52) (bitsA 39 536870911) ?_
  refine pureN (i := 29) (N := some 53) (bitsA 39 1073741823) ?_
  refine pureN (i := 30) (N := some 54) (bitsA 39 2147483647) ?_
  refine pureN (i := 31) (N := some 55) (bitsA 39 4294967295) ?_
  refine pureN (i := 32) (N := some 56) (bitsA 39 8589934591) ?_
  refine pureN (i := 33) (N := some 57) (bitsA 39 17179869183) ?_
  refine pureN (i := 34) (N := some 58) (bitsA 39 34359738367) ?_
  refine pureN (i := 35) (N := some 59) (bitsA 39 68719476735) ?_
  refine pureN (i := 36) (N := some 60) (bitsA 39 137438953471) ?_
  refine pureN (i := 37) (N := some 61) (bitsA 39 274877906943) ?_
  refine pureA (i := 38) (N := some 62) (bitsA 39 549755813887) ?_
  refine done_ (done_of HT_.out dq21) ?_
  have hcl : clashB l0 a b = true := by unfold clashB; rw [HKA.out, ea]; rfl
  have hF : apartF l0 l = false := by
   unfold apartF
   refine all_not (i := i) (by have := HN1.out; omega) (all_not (i := j) hlt2 ?_)
   rw [HAE.out, HBE.out, hcl]
   rfl
  go_wp2
  go_ret
  exact ⟨by rw [hF]; rfl, LB.out⟩
 have ea : (ka == 4) = false := beq_eq_false_iff_ne.2 ca
 by_cases cb : kb = 4
 ·have eb : (kb == 4) = true := beq_iff_eq.2 cb
  have z0_ := Aside0.mk (LN.out.drew)
  have z1_ := Aside0.mk (Kd.C_drew LR.out)
  have z2_ := Aside0.mk (Kd.C_drew L1.out)
  have z3_ := Aside0.mk (below_drew1 LB.out)
  clear LN LR L1 LB
  have LN := z0_
  have LR := z1_
  have L1 := z2_
  have LB := z3_
  clear z0_ z1_ z2_ z3_
  refine start_ (n := 39) (S := fun w' => w'.cell? ⟨X, 0, none⟩ = some (.slice (some ad) n c0) ∧ w'.cell? (ad.add (a.toNat * 4)) = some (.int .i64 ka) ∧ w'.cell? ⟨(ad.add (a.toNat * 4)).block, (ad.add (a.toNat * 4)).off + 1, none⟩ = some (.string na) ∧ w'.cell? (ad.add (b.toNat * 4)) = some (.int .i64 kb) ∧ w'.cell? ⟨(ad.add (b.toNat * 4)).block, (ad.add (b.toNat * 4)).off + 1, none⟩ = some (.string nb)) (ds := []) (bitsA 39 0) dq21 rfl rfl ⟨hx0, ha0_, ha1_, hb0_, hb1_⟩ (fun hHeld => ?_); refine with_tabW are_clear.tab7 are_clear.bits7 (fun HT_ HW_ => ?_)
  clear hx0 ha0_ ha1_ hb0_ hb1_
  generalize wr.drew = wq at LN LR L1 LB hHeld ⊢
  refine pureA (i := 0) (N := some 24) (bitsA 39 1) ?_
  refine pureA (i := 1) (N := some 25) (bitsA 39 3) ?_
  refine pureA (i := 2) (N := some 26) (bitsA 39 7) ?_
  refine takeA5 (i := 3) (N := some 27) (bitsA 39 15) ?_
  refine pureA (i := 4) (N := some 28) (bitsA 39 31) ?_
  refine pureA (i := 5) (N := some 29) (bitsA 39 63) ?_
  refine pureA (i := 6) (N := some 30) (bitsA 39 127) ?_
  refine takeA5 (i := 7) (N := some 31) (bitsA 39 255) ?_
  refine pure_ (i := 8) (N := some 32) (v := ?_) (a' := ?_) (bitsA 39 511) rfl rfl (any_of HT_.out dq21) (fun _ _ _ h => h) (Or.inl ⟨by rfl, ?_⟩) ?_ ?_
  rotate_left
  ·intro w'
   go_simp
   with_reducible rfl
  rotate_left
  ·exact dAct
  (first | rw [ea] | (simp only [ea]) | skip)
  refine pureA (i := 9) (N := some 33) (bitsA 39 1023) ?_
  refine pureA (i := 10) (N := some 34) (bitsA 39 2047) ?_
  refine pureA (i := 11) (N := some 35) (bitsA 39 4095) ?_
  refine pureA (i := 12) (N := some 36) (bitsA 39 8191) ?_
  refine takeA5 (i := 13) (N := some 37) (bitsA 39 16383) ?_
  refine pureA (i := 14) (N := some 38) (bitsA 39 32767) ?_
  refine pureA (i := 15) (N := some 39) (bitsA 39 65535) ?_
  refine pureA (i := 16) (N := some 40) (bitsA 39 131071) ?_
  refine takeA5 (i := 17) (N := some 41) (bitsA 39 262143) ?_
  refine pure_ (i := 18) (N := some 42) (v := ?_) (a' := ?_) (bitsA 39 524287) rfl rfl (any_of HT_.out dq21) (fun _ _ _ h => h) (Or.inl ⟨by rfl, ?_⟩) ?_ ?_
  rotate_left
  ·intro w'
   go_simp
   with_reducible rfl
  rotate_left
  ·exact dAct
  (first | rw [eb] | (simp only [eb]) | skip)
  refine pureA (i := 19) (N := some 43) (bitsA 39 1048575) ?_
  refine pureA (i := 20) (N := some 44) (bitsA 39 2097151) ?_
  refine pureN (i := 21) (N := some 45) (bitsA 39 4194303) ?_
  refine pureN (i := 22) (N := some 46) (bitsA 39 8388607) ?_
  refine pureN (i := 23) (N := some 47) (bitsA 39 16777215) ?_
  refine pureN (i := 24) (N := some 48) (bitsA 39 33554431) ?_
  refine pureN (i := 25) (N := some 49) (bitsA 39 67108863) ?_
  refine pureN (i := 26) (N := some 50) (bitsA 39 134217727) ?_
  refine pureN (i := 27) (N := some 51) (bitsA 39 268435455) ?_
  refine pureN (i := 28) (N := some 52) (bitsA 39 536870911) ?_
  refine pureN (i := 29) (N := some 53) (bitsA 39 1073741823) ?_
  refine pureN (i := 30) (N := some 54) (bitsA 39 2147483647) ?_
  refine pureN (i := 31) (N := some 55) (bitsA 39 4294967295) ?_
  refine pureN (i := 32) (N := some 56) (bitsA 39 8589934591) ?_
  refine pureN (i := 33) (N := some 57) (bitsA 39 17179869183) ?_
  refine pureN (i := 34) (N := some 58) (bitsA 39 34359738367) ?_
  refine pureN (i := 35) (N := some 59) (bitsA 39 68719476735) ?_
  refine pureN (i := 36) (N := some 60) (bitsA 39 137438953471) ?_
  refine pureN (i := 37) (N := some 61) (bitsA 39 274877906943) ?_
  refine pureA (i := 38) (N := some 62) (bitsA 39 549755813887) ?_
  refine done_ (done_of HT_.out dq21) ?_
  have hcl : clashB l0 a b = true := by unfold clashB; rw [HKA.out, HKB.out, ea, eb]; rfl
  have hF : apartF l0 l = false := by
   unfold apartF
   refine all_not (i := i) (by have := HN1.out; omega) (all_not (i := j) hlt2 ?_)
   rw [HAE.out, HBE.out, hcl]
   rfl
  go_wp2
  go_ret
  exact ⟨by rw [hF]; rfl, LB.out⟩
 have eb : (kb == 4) = false := beq_eq_false_iff_ne.2 cb
 by_cases cn : na.toList = nb.toList
 ·have en : (na.toList == nb.toList) = true := beq_iff_eq.2 cn
  have en2 : decide (na.toList = nb.toList) = true := decide_eq_true cn
  have z0_ := Aside0.mk (LN.out.drew)
  have z1_ := Aside0.mk (Kd.C_drew LR.out)
  have z2_ := Aside0.mk (Kd.C_drew L1.out)
  have z3_ := Aside0.mk (below_drew1 LB.out)
  clear LN LR L1 LB
  have LN := z0_
  have LR := z1_
  have L1 := z2_
  have LB := z3_
  clear z0_ z1_ z2_ z3_
  refine start_ (n := 39) (S := fun w' => w'.cell? ⟨X, 0, none⟩ = some (.slice (some ad) n c0) ∧ w'.cell? (ad.add (a.toNat * 4)) = some (.int .i64 ka) ∧ w'.cell? ⟨(ad.add (a.toNat * 4)).block, (ad.add (a.toNat * 4)).off + 1, none⟩ = some (.string na) ∧ w'.cell? (ad.add (b.toNat * 4)) = some (.int .i64 kb) ∧ w'.cell? ⟨(ad.add (b.toNat * 4)).block, (ad.add (b.toNat * 4)).off + 1, none⟩ = some (.string nb)) (ds := []) (bitsA 39 0) dq21 rfl rfl ⟨hx0, ha0_, ha1_, hb0_, hb1_⟩ (fun hHeld => ?_); refine with_tabW are_clear.tab7 are_clear.bits7 (fun HT_ HW_ => ?_)
  clear hx0 ha0_ ha1_ hb0_ hb1_
  generalize wr.drew = wq at LN LR L1 LB hHeld ⊢
  refine pureA (i := 0) (N := some 24) (bitsA 39 1) ?_
  refine pureA (i := 1) (N := some 25) (bitsA 39 3) ?_
  refine pureA (i := 2) (N := some 26) (bitsA 39 7) ?_
  refine takeA5 (i := 3) (N := some 27) (bitsA 39 15) ?_
  refine pureA (i := 4) (N := some 28) (bitsA 39 31) ?_
  refine pureA (i := 5) (N := some 29) (bitsA 39 63) ?_
  refine pureA (i := 6) (N := some 30) (bitsA 39 127) ?_
  refine takeA5 (i := 7) (N := some 31) (bitsA 39 255) ?_
  refine pure_ (i := 8) (N := some 32) (v := ?_) (a' := ?_) (bitsA 39 511) rfl rfl (any_of HT_.out dq21) (fun _ _ _ h => h) (Or.inl ⟨by rfl, ?_⟩) ?_ ?_
  rotate_left
  ·intro w'
   go_simp
   with_reducible rfl
  rotate_left
  ·exact dAct
  (first | rw [ea] | (simp only [ea]) | skip)
  refine pureA (i := 9) (N := some 33) (bitsA 39 1023) ?_
  refine pureA (i := 10) (N := some 34) (bitsA 39 2047) ?_
  refine pureA (i := 11) (N := some 35) (bitsA 39 4095) ?_
  refine pureA (i := 12) (N := some 36) (bitsA 39 8191) ?_
  refine takeA5 (i := 13) (N := some 37) (bitsA 39 16383) ?_
  refine pureA (i := 14) (N := some 38) (bitsA 39 32767) ?_
  refine pureA (i := 15) (N := some 39) (bitsA 39 65535) ?_
  refine pureA (i := 16) (N := some 40) (bitsA 39 131071) ?_
  refine takeA5 (i := 17) (N := some 41) (bitsA 39 262143) ?_
  refine pure_ (i := 18) (N := some 42) (v := ?_) (a' := ?_) (bitsA 39 524287) rfl rfl (any_of HT_.out dq21) (fun _ _ _ h => h) (Or.inl ⟨by rfl, ?_⟩) ?_ ?_
  rotate_left
  ·intro w'
   go_simp
   with_reducible rfl
  rotate_left
  ·exact dAct
  (first | rw [eb] | (simp only [eb]) | skip)
  refine pureA (i := 19) (N := some 43) (bitsA 39 1048575) ?_
  refine pureA (i := 20) (N := some 44) (bitsA 39 2097151) ?_
  refine pureA (i := 21) (N := some 45) (bitsA 39 4194303) ?_
  refine pureA (i := 22) (N := some 46) (bitsA 39 8388607) ?_
  refine pureA (i := 23) (N := some 47) (bitsA 39 16777215) ?_
  refine takeA5 (i := 24) (N := some 48) (bitsA 39 33554431) ?_
  refine pureA (i := 25) (N := some 49) (bitsA 39 67108863) ?_
  refine pureA (i := 26) (N := some 50) (bitsA 39 134217727) ?_
  refine pureA (i := 27) (N := some 51) (bitsA 39 268435455) ?_
  refine takeA5 (i := 28) (N := some 52) (bitsA 39 536870911) ?_
  refine pureA (i := 29) (N := some 53) (bitsA 39 1073741823) ?_
  refine pureA (i := 30) (N := some 54) (bitsA 39 2147483647) ?_
  refine pureA (i := 31) (N := some 55) (bitsA 39 4294967295) ?_
  refine takeA5 (i := 32) (N := some 56) (bitsA 39 8589934591) ?_
  refine pureA (i := 33) (N := some 57) (bitsA 39 17179869183) ?_
  refine pureA (i := 34) (N := some 58) (bitsA 39 34359738367) ?_
  refine pureA (i := 35) (N := some 59) (bitsA 39 68719476735) ?_
  refine takeA5 (i := 36) (N := some 60) (bitsA 39 137438953471) ?_
  refine pure_ (i := 37) (N := some 61) (v := ?_) (a' := ?_) (bitsA 39 274877906943) rfl rfl (any_of HT_.out dq21) (fun _ _ _ h => h) (Or.inl ⟨by rfl, ?_⟩) ?_ ?_
  rotate_left
  ·intro w'
   go_simp
   with_reducible rfl
  rotate_left
  ·exact dAct
  (first | rw [en] | (simp only [en]) | skip)
  refine pureA (i := 38) (N := some 62) (bitsA 39 549755813887) ?_
  refine done_ (done_of HT_.out dq21) ?_
  have hcl : clashB l0 a b = true := by unfold clashB; rw [HKA.out, HKB.out, HNA.out, HNB.out, ea, eb, en2]; rfl
  have hF : apartF l0 l = false := by
   unfold apartF
   refine all_not (i := i) (by have := HN1.out; omega) (all_not (i := j) hlt2 ?_)
   rw [HAE.out, HBE.out, hcl]
   rfl
  go_wp2
  go_ret
  exact ⟨by rw [hF]; rfl, LB.out⟩
 have en : (na.toList == nb.toList) = false := beq_eq_false_iff_ne.2 cn
 have en2 : decide (na.toList = nb.toList) = false := decide_eq_false cn
 have z0_ := Aside0.mk (LN.out.drew)
 have z1_ := Aside0.mk (Kd.C_drew LR.out)
 have z2_ := Aside0.mk (Kd.C_drew L1.out)
 have z3_ := Aside0.mk (below_drew1 LB.out)
 clear LN LR L1 LB
 have LN := z0_
 have LR := z1_
 have L1 := z2_
 have LB := z3_
 clear z0_ z1_ z2_ z3_
 refine start_ (n := 39) (S := fun w' => w'.cell? ⟨X, 0, none⟩ = some (.slice (some ad) n c0) ∧ w'.cell? (ad.add (a.toNat * 4)) = some (.int .i64 ka) ∧ w'.cell? ⟨(ad.add (a.toNat * 4)).block, (ad.add (a.toNat * 4)).off + 1, none⟩ = some (.string na) ∧ w'.cell? (ad.add (b.toNat * 4)) = some (.int .i64 kb) ∧ w'.cell? ⟨(ad.add (b.toNat * 4)).block, (ad.add (b.toNat * 4)).off + 1, none⟩ = some (.string nb)) (ds := []) (bitsA 39 0) dq21 rfl rfl ⟨hx0, ha0_, ha1_, hb0_, hb1_⟩ (fun hHeld => ?_); refine with_tabW are_clear.tab7 are_clear.bits7 (fun HT_ HW_ => ?_)
 clear hx0 ha0_ ha1_ hb0_ hb1_
 generalize wr.drew = wq at LN LR L1 LB hHeld ⊢
 refine pureA (i := 0) (N := some 24) (bitsA 39 1) ?_
 refine pureA (i := 1) (N := some 25) (bitsA 39 3) ?_
 refine pureA (i := 2) (N := some 26) (bitsA 39 7) ?_
 refine takeA5 (i := 3) (N := some 27) (bitsA 39 15) ?_
 refine pureA (i := 4) (N := some 28) (bitsA 39 31) ?_
 refine pureA (i := 5) (N := some 29) (bitsA 39 63) ?_
 refine pureA (i := 6) (N := some 30) (bitsA 39 127) ?_
 refine takeA5 (i := 7) (N := some 31) (bitsA 39 255) ?_
 refine pure_ (i := 8) (N := some 32) (v := ?_) (a' := ?_) (bitsA 39 511) rfl rfl (any_of HT_.out dq21) (fun _ _ _ h => h) (Or.inl ⟨by rfl, ?_⟩) ?_ ?_
 rotate_left
 ·intro w'
  go_simp
  with_reducible rfl
 rotate_left
 ·exact dAct
 (first | rw [ea] | (simp only [ea]) | skip)
 refine pureA (i := 9) (N := some 33) (bitsA 39 1023) ?_
 refine pureA (i := 10) (N := some 34) (bitsA 39 2047) ?_
 refine pureA (i := 11) (N := some 35) (bitsA 39 4095) ?_
 refine pureA (i := 12) (N := some 36) (bitsA 39 8191) ?_
 refine takeA5 (i := 13) (N := some 37) (bitsA 39 16383) ?_
 refine pureA (i := 14) (N := some 38) (bitsA 39 32767) ?_
 refine pureA (i := 15) (N := some 39) (bitsA 39 65535) ?_
 refine pureA (i := 16) (N := some 40) (bitsA 39 131071) ?_
 refine takeA5 (i := 17) (N := some 41) (bitsA 39 262143) ?_
 refine pure_ (i := 18) (N := some 42) (v := ?_) (a' := ?_) (bitsA 39 524287) rfl rfl (any_of HT_.out dq21) (fun _ _ _ h => h) (Or.inl ⟨by rfl, ?_⟩) ?_ ?_
 rotate_left
 ·intro w'
  go_simp
  with_reducible rfl
 rotate_left
 ·exact dAct
 (first | rw [eb] | (simp only [eb]) | skip)
 refine pureA (i := 19) (N := some 43) (bitsA 39 1048575) ?_
 refine pureA (i := 20) (N := some 44) (bitsA 39 2097151) ?_
 refine pureA (i := 21) (N := some 45) (bitsA 39 4194303) ?_
 refine pureA (i := 22) (N := some 46) (bitsA 39 8388607) ?_
 refine pureA (i := 23) (N := some 47) (bitsA 39 16777215) ?_
 refine takeA5 (i := 24) (N := some 48) (bitsA 39 33554431) ?_
 refine pureA (i := 25) (N := some 49) (bitsA 39 67108863) ?_
 refine pureA (i := 26) (N := some 50) (bitsA 39 134217727) ?_
 refine pureA (i := 27) (N := some 51) (bitsA 39 268435455) ?_
 refine takeA5 (i := 28) (N := some 52) (bitsA 39 536870911) ?_
 refine pureA (i := 29) (N := some 53) (bitsA 39 1073741823) ?_
 refine pureA (i := 30) (N := some 54) (bitsA 39 2147483647) ?_
 refine pureA (i := 31) (N := some 55) (bitsA 39 4294967295) ?_
 refine takeA5 (i := 32) (N := some 56) (bitsA 39 8589934591) ?_
 refine pureA (i := 33) (N := some 57) (bitsA 39 17179869183) ?_
 refine pureA (i := 34) (N := some 58) (bitsA 39 34359738367) ?_
 refine pureA (i := 35) (N := some 59) (bitsA 39 68719476735) ?_
 refine takeA5 (i := 36) (N := some 60) (bitsA 39 137438953471) ?_
 refine pure_ (i := 37) (N := some 61) (v := ?_) (a' := ?_) (bitsA 39 274877906943) rfl rfl (any_of HT_.out dq21) (fun _ _ _ h => h) (Or.inl ⟨by rfl, ?_⟩) ?_ ?_
 rotate_left
 ·intro w'
  go_simp
  with_reducible rfl
 rotate_left
 ·exact dAct
 (first | rw [en] | (simp only [en]) | skip)
 refine pureA (i := 38) (N := some 62) (bitsA 39 549755813887) ?_
 refine done_ (done_of HT_.out dq21) ?_
 have hcl : clashB l0 a b = false := by unfold clashB; rw [HKA.out, HKB.out, HNA.out, HNB.out, ea, eb, en2]; rfl
 have HQ2 := Aside0.mk (all_step (q := fun j : Nat => !clashB l0 a (rd l (j : Int))) LQ.out (by show (!clashB l0 a (rd l (j : Int))) = true; rw [HBE.out, hcl]; rfl))
 go_wp2
 go_roundg (i - (j + 1))
 case measure => have := HG2.out; omega
 case rel => exact ⟨j + 1, dq25, dq25, by go_num, HQ2, LN, LR, L1, LB⟩
theorem drop_rd {l : List Int} {i : Nat} (h : i < l.length) : l.drop i = rd l (i : Int) :: l.drop (i + 1) := by
 rw [List.drop_eq_getElem_cons h]
 unfold rd
 rw [Int.toNat_natCast, List.getD_eq_getElem?_getD, List.getElem?_eq_getElem h]
 rfl
set_option maxHeartbeats 1000000 in
set_option maxRecDepth 100000 in
theorem index_ints (A0 : Option Addr) (c0 : Nat) (l : List Int) (x : Int) (w : World) (hr : Kd.C (Kd.int .i64) w A0 l.length l) (hc : l.length ≤ c0) :
  Calls Try.prog 87 #[.slice A0 l.length c0, .int .i64 x] w fun e w' => (∃ r : Int, e = .returned (.int .i64 r) ∧ (0 ≤ r ↔ x ∈ l)) ∧ w' = w := by
 have hm : l.length ≤ 9223372036854775807 := Kd.C_max hr
 obtain ⟨n, hn⟩ : ∃ n, l.length = n := ⟨_, rfl⟩
 have HR := Aside0.mk hr
 have HN := Aside0.mk hn
 rw [hn] at hc hm ⊢
 clear hn hr
 go_enter Try.func87, Try.ntmps87
 go_wp2
 go_loopg [8] n (fun gg s8 wr => ∃ i : Nat, i ≤ n ∧ n - i ≤ gg ∧ s8 = .int .i64 i ∧ Aside0 (x ∈ l ↔ x ∈ l.drop i) ∧ wr = w)
 case atStart => exact ⟨0, Nat.zero_le _, by omega, rfl, ⟨by rw [List.drop_zero]⟩, rfl⟩
 case round =>
  obtain ⟨i, hi, hg, rfl, GM, rfl⟩ := hrel
  by_cases hlt : i < n
  ·have hlz : (i : Int) < (n : Int) := by omega
   have hiz : (0 : Int) ≤ (i : Int) := by omega
   have hl : i < l.length := by have := HN.out; omega
   obtain ⟨ad, e, hcell⟩ := Kd.at_int HR.out (i : Int) (by omega) (by omega)
   subst e
   rw [Int.toNat_natCast] at hcell
   have hd := drop_rd hl
   obtain ⟨y, hy⟩ : ∃ y, rd l (i : Int) = y := ⟨_, rfl⟩
   rw [hy] at hcell hd
   have HG := Aside0.mk hg
   have HD := Aside0.mk hd
   clear hy hd hg hl
   by_cases cx : x = y
   ·have ex : (x == y) = true := beq_iff_eq.2 cx
    subst cx
    have HX := Aside0.mk (show x ∈ l by rw [GM.out, HD.out]; simp)
    go_wp2
    go_ret
    exact ⟨⟨i, rfl, by have := HX.out; simp [this]⟩, rfl⟩
   ·have ex : (x == y) = false := beq_eq_false_iff_ne.2 cx
    have HM := Aside0.mk (show x ∈ l ↔ x ∈ l.drop (i + 1) by
     rw [GM.out, HD.out, List.mem_cons]
     constructor
     ·rintro (h | h)
      ·exact absurd h cx
      ·exact h
     ·exact .inr)
    go_wp2
    go_roundg (n - (i + 1))
    case measure => have := HG.out; omega
    case rel => exact ⟨i + 1, by omega, by omega, by go_num, HM, rfl⟩
  ·have hlz : ¬ ((i : Int) < (n : Int)) := by omega
   have : i = n := by omega
   subst this
   have HX := Aside0.mk (show x ∉ l by rw [GM.out, ← HN.out, List.drop_length]; simp)
   go_wp2
   go_ret
   exact ⟨⟨-1, rfl, by have := HX.out; simp [this]⟩, rfl⟩
set_option maxHeartbeats 1000000 in
set_option maxRecDepth 100000 in
theorem contains_ints (A0 : Option Addr) (c0 : Nat) (l : List Int) (x : Int) (w : World) (hr : Kd.C (Kd.int .i64) w A0 l.length l) (hc : l.length ≤ c0) :
  Calls Try.prog 71 #[.slice A0 l.length c0, .int .i64 x] w fun e w' => e = .returned (.bool (decide (x ∈ l))) ∧ w' = w := by
 have HR := Aside0.mk hr
 have HC := Aside0.mk hc
 clear hr hc
 go_enter Try.func71, Try.ntmps71
 go_wp2_with (first | ((with_reducible refine gate_callee (f := 87) rfl ?_); refine goesL_ (some 7) rfl rfl Try.func87 (by kernel_rfl) rfl #[.slice A0 l.length c0, .int .i64 x] rfl (by (try simp only [List.map_toArray, List.map_cons, List.map_nil]); first | done | rfl) ?_; (with_reducible refine (index_ints A0 c0 l x _ HR.out HC.out).mono ?_); rintro e w' ⟨⟨r, rfl, hrx⟩, rfl⟩; refine ⟨_, rfl, ?_⟩; have HX := Aside0.mk hrx; clear hrx))
 go_ret
 exact ⟨by rw [show decide (x ∈ l) = decide (0 ≤ r) from decide_eq_decide.2 HX.out.symm]; first | done | rfl, rfl⟩
def takesB (p : List (S49)) (k : Int) (nm : ByteArray) : Bool := ((rd_T49 p k).f0 == 4) || ((rd_T49 p k).f1.toList == nm.toList)
set_option maxHeartbeats 2000000 in
set_option maxRecDepth 100000 in
theorem net_takes (w0 w : World) (X : Nat) (own : Tags) (nv fv lv wv : Value) (N : NetV) (ms : List Nat) (A0 : Option Addr) (n c0 : Nat) (l0 : List (S49)) (a : Int) (nm : ByteArray)
  (hN : NetW w w0.heap.size X own (.slice A0 n c0) nv fv lv wv N ms) (hR : Kd.C k49 w A0 l0.length l0) (hn : l0.length = n) (h0 : 0 ≤ a) (h1 : a < (n : Int)) :
  Calls Try.prog 70 #[.pointer (some ⟨X, 0, none⟩), .int .i64 a, .string nm] w fun e w' => e = .returned (.bool (takesB l0 a nm)) ∧ w' = w := by
 obtain ⟨ad, Aa, ca, e1, ha0_, ha1_, -, -, -, -⟩ := at_T49 hR a h0 (by rw [hn]; exact h1)
 subst e1
 obtain ⟨ka, hka⟩ : ∃ ka, (rd_T49 l0 a).f0 = ka := ⟨_, rfl⟩
 obtain ⟨na, hna⟩ : ∃ na, (rd_T49 l0 a).f1 = na := ⟨_, rfl⟩
 rw [hka] at ha0_
 rw [hna] at ha1_
 have HT := Aside0.mk (show takesB l0 a nm = ((ka == 4) || (na.toList == nm.toList)) by unfold takesB; rw [hka, hna])
 obtain ⟨hx0, -, -, -, -, -⟩ := hN.cellAt
 have hm0 : n ≤ 9223372036854775807 := by have := Kd.C_max hR; omega
 clear hka hna hN hR
 by_cases ca : ka = 4
 ·have ea : (ka == 4) = true := beq_iff_eq.2 ca
  subst ca
  go_enter Try.func70, Try.ntmps70
  go_wp2
  go_ret
  exact ⟨by rw [HT.out]; rfl, rfl⟩
 ·have ea : (ka == 4) = false := beq_eq_false_iff_ne.2 ca
  go_enter Try.func70, Try.ntmps70
  go_wp2
  go_ret
  exact ⟨by rw [HT.out, ea]; rfl, rfl⟩
def inB (n : Nat) (l : List Int) : Prop := ∀ a ∈ l, 0 ≤ a ∧ a < (n : Int)
instance (n : Nat) (l : List Int) : Decidable (inB n l) := inferInstanceAs (Decidable (∀ a ∈ l, 0 ≤ a ∧ a < (n : Int)))
theorem inB.at_ {n : Nat} {l : List Int} (h : inB n l) : ∀ a ∈ l, 0 ≤ a ∧ a < (n : Int) := h
def atP (p : List (S49)) (i : Nat) : S49 := rd_T49 p (i : Int)
def clearV (p : List (S49)) (N : NetV) : Bool := ((List.range p.length).all fun i : Nat => !(posB (atP p i) && !apartF p (nextF N p.length (i : Int)))) && apartF p (nextF N p.length (-1))
def impl_Clear.f (k : Nat) (l0 : List (S49)) : Option Bool :=
 (impl_ParticleOk.f k l0).bind fun t => if t = true then ((netOfF l0).bind fun N => if 0 < l0.length ∧ N.fst.length = l0.length ∧ (∀ l ∈ N.fst, l.length < LIMK) ∧ N.fol.length = l0.length ∧ (∀ i : Nat, i < l0.length → inB l0.length (nextF N l0.length (i : Int))) ∧ inB l0.length (nextF N l0.length (-1)) then some (clearV l0 N) else none) else some false
theorem pos_pos (x : S49) : impl_PNode_isPosition.f x.f0 x.f1 x.f2 x.f3 = some (posB x) := by
 unfold impl_PNode_isPosition.f posB
 by_cases h : x.f0 = 1
 ·rw [if_pos h, h]; rfl
 rw [if_neg h, beq_eq_false_iff_ne.2 h]; rfl
set_option maxHeartbeats 4000000 in
set_option maxRecDepth 100000 in
theorem impl_Clear.calls (k : Nat) (A0 : Option Addr) (c0 : Nat) (l0 : List (S49)) (r : Bool) (w : World) (hr0 : Kd.C k49 w A0 l0.length l0) (hc0 : l0.length ≤ c0) (h : impl_Clear.f k l0 = some r) :
  Calls Try.prog 23 #[.slice A0 l0.length c0] w fun e w' => e = .returned (.bool r) ∧ Below w.heap.size w w' := by
 unfold impl_Clear.f at h
 obtain ⟨t, ht, h⟩ := Option.bind_eq_some_iff.1 h
 have HT := Aside0.mk ht
 have HR := Aside0.mk hr0
 have HC := Aside0.mk hc0
 have HB := Aside0.mk (Below.refl w.heap.size w)
 clear ht hr0 hc0
 cases t with
 | true =>
  simp only [if_true] at h
  obtain ⟨N, hN, h⟩ := Option.bind_eq_some_iff.1 h
  by_cases hg : 0 < l0.length ∧ N.fst.length = l0.length ∧ (∀ l ∈ N.fst, l.length < LIMK) ∧ N.fol.length = l0.length ∧ (∀ i : Nat, i < l0.length → inB l0.length (nextF N l0.length (i : Int))) ∧ inB l0.length (nextF N l0.length (-1))
  rotate_left
  ·rw [if_neg hg] at h
   cases h
  rw [if_pos hg] at h
  obtain rfl := Option.some.inj h
  have HNF := Aside0.mk hN
  have HG := Lib.hid hg
  clear hN hg h
  have hmx : l0.length ≤ 9223372036854775807 := Kd.C_max HR.out
  go_enter Try.func23, Try.ntmps23
  go_wp2_with (first | ((with_reducible refine gate_callee (f := 37) rfl ?_); refine goesL_ (some 7) rfl rfl Try.func37 dq21 rfl #[.slice A0 l0.length c0] rfl dq115 ?_; (with_reducible refine (impl_ParticleOk.calls k A0 c0 l0 true _ (Kd.C_below HR.out HB.out) HC.out HT.out).mono ?_); rintro e w1 ⟨rfl, hb_⟩; refine ⟨_, rfl, ?_⟩; have z_ := Aside0.mk (below_step HB.out hb_); clear HB hb_; have HB := z_; clear z_) | ((with_reducible refine gate_callee (f := 38) rfl ?_); refine goesL_ (some 10) rfl rfl Try.func38 dq21 rfl #[.slice A0 l0.length c0] rfl dq115 ?_; (with_reducible refine (net_of A0 c0 l0 _ (Kd.C_below HR.out HB.out) HC.out N HNF.out).mono ?_); rintro e w2 ⟨X, own, nv, fv, lv, wv, ms, rfl, hn_, hb_⟩; refine ⟨_, rfl, ?_⟩; have HN3 := Aside0.mk hn_; have HW1 := Aside0.mk (show w1.heap.size ≤ w1.heap.size from Nat.le_refl _); have z_ := Aside0.mk (below_step HB.out hb_); clear HB hb_ hn_; have HB := z_; clear z_))
  go_loopg [13] l0.length (fun gg s13 wr => ∃ i : Nat, i ≤ l0.length ∧ l0.length - i ≤ gg ∧ s13 = .int .i64 i ∧ Aside0 ((List.range i).all (fun i : Nat => !(posB (atP l0 i) && !apartF l0 (nextF N l0.length (i : Int)))) = true) ∧ Aside0 (NetW wr w1.heap.size X own (.slice A0 l0.length c0) nv fv lv wv N ms) ∧ Aside0 (Below w.heap.size w wr))
  case atStart => exact ⟨0, Nat.zero_le _, dq25, rfl, ⟨rfl⟩, HN3, HB⟩
  obtain ⟨i, hi, hgg, rfl, GQ, GN, GB⟩ := hrel
  clear HN3 HB
  by_cases hlt : i < l0.length
  rotate_left
  ·have hlz : ¬ ((i : Int) < (l0.length : Int)) := by omega
   have : i = l0.length := by omega
   subst this
   have HF := Aside0.mk (show clearV l0 N = apartF l0 (nextF N l0.length (-1)) by unfold clearV; rw [GQ.out, Bool.true_and])
   go_wp2_with (first | ((with_reducible refine gate_callee (f := 39) rfl ?_); refine goesL_ (some 31) rfl rfl Try.func39 dq21 rfl #[.pointer (some ⟨X, 0, none⟩), .int .i64 (-1)] rfl dq115 ?_; (with_reducible refine (net_next _ _ X own nv fv lv wv N ms _ l0.length c0 (-1) GN.out (Kd.C_max HR.out) HG.out.1 HG.out.2.1 HG.out.2.2.1 (by have := HG.out.2.2.2.1; omega)).mono ?_); rintro e w5 ⟨v, rfl, hr_, hb_⟩; refine ⟨_, rfl, ?_⟩; obtain ⟨Av, av, ev⟩ := Kd.R_slice hr_; subst ev; have HO := Aside0.mk hr_; have st_ := Stp.below hb_ own (fun _ => False); have z0_ := Aside0.mk (st_.net GN.out (fun _ _ h => h)); have z1_ := Aside0.mk (below_step GB.out hb_); clear GN GB; have GN := z0_; have GB := z1_; clear z0_ z1_; clear hb_ hr_ st_) | ((with_reducible refine gate_callee (f := 50) rfl ?_); refine goesL_ (some 32) rfl rfl Try.func50 dq21 rfl #[.pointer (some ⟨X, 0, none⟩), .slice Av (nextF N l0.length (-1)).length av] rfl dq115 ?_; (with_reducible refine (net_clear _ _ X own nv fv lv wv N ms _ l0.length c0 l0 Av av (nextF N l0.length (-1)) GN.out (Kd.C_below HR.out GB.out) rfl (Kd.R_reads' HO.out).2.2 (Kd.R_reads' HO.out).2.1 HG.out.2.2.2.2.2.at_).mono ?_); rintro e w6 ⟨rfl, hb_⟩; refine ⟨_, rfl, ?_⟩; have st_ := Stp.below hb_ own (fun _ => False); have z0_ := Aside0.mk (st_.net GN.out (fun _ _ h => h)); have z1_ := Aside0.mk (below_step GB.out hb_); clear GN GB; have GN := z0_; have GB := z1_; clear z0_ z1_; clear hb_ st_ HO))
   go_ret
   exact ⟨by rw [HF.out]; first | done | rfl, GB.out⟩
  have hlz : (i : Int) < (l0.length : Int) := by omega
  obtain ⟨ad, A2, c2, e, hx0, hx1, hx2, hx3, hl2, hi2⟩ := at_T49 HR.out (i : Int) dq25 dq25
  subst e
  rw [Int.toNat_natCast] at hx0 hx1 hx2 hx3
  obtain ⟨nd, hnd⟩ : ∃ nd, rd_T49 l0 (i : Int) = nd := ⟨_, rfl⟩
  rw [hnd] at hx0 hx1 hx2 hx3 hl2 hi2
  have HND := Aside0.mk (show atP l0 i = nd from hnd)
  clear hnd
  obtain ⟨b, hb⟩ : ∃ b, posB nd = b := ⟨_, rfl⟩
  have HPB := Aside0.mk hb
  have HPP := Aside0.mk (pos_pos nd)
  rw [hb] at HPP
  clear hb
  obtain ⟨kind, name, kids, occ⟩ := nd
  dsimp only at hx0 hx1 hx2 hx3 hl2 hi2 HPP
  replace hx0 := (GB.out.cell (World.block_lt_of_cell? w _ hx0)).trans hx0
  replace hx1 := (GB.out.cell (World.block_lt_of_cell? w _ hx1)).trans hx1
  replace hx2 := (GB.out.cell (World.block_lt_of_cell? w _ hx2)).trans hx2
  replace hx3 := (GB.out.cell (World.block_lt_of_cell? w _ hx3)).trans hx3
  have HL2 := Aside0.mk hl2
  have HI2 := Aside0.mk hi2
  have HGG := Aside0.mk hgg
  have HLT := Aside0.mk hlt
  clear hl2 hi2 hgg
  go_upto_region 7 with (first | ((with_reducible refine gate_dst (N := 5) rfl ?_); refine box_event ?hg (N := 5) ?hd (cs := #[.int .i64 0, .string (⟨#[]⟩ : ByteArray), .slice none 0 0, .int .i64 0]) (t := 49) ?hr ?_; (case hd => rfl); (case hg => rfl); (case hr => exact dq0); intro gb hg w2 hbox hb; have BK := Aside0.mk hbox; have hcz0 : w2.cell? ⟨gb, 0, none⟩ = some (.int .i64 0) := (blk_cell BK.out 0).trans rfl; have hcz1 : w2.cell? ⟨gb, 1, none⟩ = some (.string (⟨#[]⟩ : ByteArray)) := (blk_cell BK.out 1).trans rfl; have hcz2 : w2.cell? ⟨gb, 2, none⟩ = some (.slice none 0 0) := (blk_cell BK.out 2).trans rfl; have hcz3 : w2.cell? ⟨gb, 3, none⟩ = some (.int .i64 0) := (blk_cell BK.out 3).trans rfl; have hfz0 := blk_frozen BK.out 0; have hfz1 := blk_frozen BK.out 1; have hfz2 := blk_frozen BK.out 2; have hfz3 := blk_frozen BK.out 3; have HGB := Aside0.mk hg; have HBX := Aside0.mk hb; clear hbox hg hb))
  have GE : wr.heap.size ≤ gb := by have := HGB.out; omega
  have B3 : Below wr.heap.size wr ((((w2.setCell ⟨gb, 0, none⟩ (.int .i64 kind)).setCell ⟨gb, 1, none⟩ (.string name)).setCell ⟨gb, 2, none⟩ (.slice A2 kids.length c2)).setCell ⟨gb, 3, none⟩ (.int .i64 occ)) := below_set (below_set (below_set (below_set HBX.out GE) GE) GE) GE
  have K3 : ((((w2.setCell ⟨gb, 0, none⟩ (.int .i64 kind)).setCell ⟨gb, 1, none⟩ (.string name)).setCell ⟨gb, 2, none⟩ (.slice A2 kids.length c2)).setCell ⟨gb, 3, none⟩ (.int .i64 occ)).heap[gb]? = some (.cells #[.int .i64 kind, .string name, .slice A2 kids.length c2, .int .i64 occ] 49 (0, 0)) := (blk_set (blk_set (blk_set (blk_set BK.out 0 _) 1 _) 2 _) 3 _).trans rfl
  clear hcz0 hcz1 hcz2 hcz3 hfz0 hfz1 hfz2 hfz3 BK HBX HGB hx0 hx1 hx2 hx3
  generalize ((((w2.setCell ⟨gb, 0, none⟩ (.int .i64 kind)).setCell ⟨gb, 1, none⟩ (.string name)).setCell ⟨gb, 2, none⟩ (.slice A2 kids.length c2)).setCell ⟨gb, 3, none⟩ (.int .i64 occ)) = w3 at B3 K3 ⊢
  have N3 := Aside0.mk ((Stp.below B3 own (fun _ => False)).net GN.out (fun _ _ h => h))
  have L3 := Aside0.mk (below_step GB.out B3)
  have hk0 : w3.cell? ⟨gb, 0, none⟩ = some (.int .i64 kind) := (blk_cell K3 0).trans rfl
  have hk1 : w3.cell? ⟨gb, 1, none⟩ = some (.string name) := (blk_cell K3 1).trans rfl
  have hk2 : w3.cell? ⟨gb, 2, none⟩ = some (.slice A2 kids.length c2) := (blk_cell K3 2).trans rfl
  have hk3 : w3.cell? ⟨gb, 3, none⟩ = some (.int .i64 occ) := (blk_cell K3 3).trans rfl
  clear K3 B3 GE GN GB
  cases b with
  | false =>
   go_wp2_with (first | ((with_reducible refine gate_callee (f := 48) rfl ?_); refine goesL_ (some 19) rfl rfl Try.func48 dq21 rfl #[.agg #[.int .i64 kind, .string name, .slice A2 kids.length c2, .int .i64 occ]] rfl dq115 ?_; (with_reducible refine (impl_PNode_isPosition.calls kind name _ _ kids occ false _ (Kd.C_below HI2.out L3.out) HL2.out HPP.out).mono ?_); rintro e w4 ⟨rfl, hb_⟩; refine ⟨_, rfl, ?_⟩; have st_ := Stp.below hb_ own (fun _ => False); have z0_ := Aside0.mk (st_.net N3.out (fun _ _ h => h)); have z1_ := Aside0.mk (below_step L3.out hb_); clear N3 L3; have N3 := z0_; have L3 := z1_; clear z0_ z1_; clear hb_ st_ hk0 hk1 hk2 hk3))
   go_roundg (l0.length - (i + 1))
   case measure => have := HGG.out; omega
   case rel =>
    refine ⟨i + 1, dq25, dq25, by go_num, ⟨all_step GQ.out ?_⟩, N3, L3⟩
    show (!(posB (atP l0 i) && _)) = true
    rw [HND.out, HPB.out]
    rfl
  | true =>
   obtain ⟨c, hc⟩ : ∃ c, apartF l0 (nextF N l0.length (i : Int)) = c := ⟨_, rfl⟩
   have HCV := Aside0.mk hc
   clear hc
   cases c with
   | true =>
    go_wp2_with (first | ((with_reducible refine gate_callee (f := 48) rfl ?_); refine goesL_ (some 19) rfl rfl Try.func48 dq21 rfl #[.agg #[.int .i64 kind, .string name, .slice A2 kids.length c2, .int .i64 occ]] rfl dq115 ?_; (with_reducible refine (impl_PNode_isPosition.calls kind name _ _ kids occ true _ (Kd.C_below HI2.out L3.out) HL2.out HPP.out).mono ?_); rintro e w4 ⟨rfl, hb_⟩; refine ⟨_, rfl, ?_⟩; have st_ := Stp.below hb_ own (fun _ => False); have z0_ := Aside0.mk (st_.net N3.out (fun _ _ h => h)); have z1_ := Aside0.mk (below_step L3.out hb_); clear N3 L3; have N3 := z0_; have L3 := z1_; clear z0_ z1_; clear hb_ st_ hk0 hk1 hk2 hk3) | (go_at_call 39; (with_reducible refine (net_next _ _ X own nv fv lv wv N ms _ l0.length c0 (i : Int) N3.out (Kd.C_max HR.out) HG.out.1 HG.out.2.1 HG.out.2.2.1 (by have := HG.out.2.2.2.1; have := HLT.out; omega)).mono ?_); rintro e w5 ⟨v, rfl, hr_, hb_⟩; obtain ⟨Av, av, ev⟩ := Kd.R_slice hr_; subst ev; have HO := Aside0.mk hr_; have st_ := Stp.below hb_ own (fun _ => False); have z0_ := Aside0.mk (st_.net N3.out (fun _ _ h => h)); have z1_ := Aside0.mk (below_step L3.out hb_); clear N3 L3; have N3 := z0_; have L3 := z1_; clear z0_ z1_; clear hb_ hr_ st_) | ((go_at_call 50; (with_reducible refine (net_clear _ _ X own nv fv lv wv N ms _ l0.length c0 l0 Av av (nextF N l0.length (i : Int)) N3.out (Kd.C_below HR.out L3.out) rfl (Kd.R_reads' HO.out).2.2 (Kd.R_reads' HO.out).2.1 (HG.out.2.2.2.2.1 i HLT.out).at_).mono ?_); rintro e w6 ⟨rfl, hb_⟩; have st_ := Stp.below hb_ own (fun _ => False); have z0_ := Aside0.mk (st_.net N3.out (fun _ _ h => h)); have z1_ := Aside0.mk (below_step L3.out hb_); clear N3 L3; have N3 := z0_; have L3 := z1_; clear z0_ z1_; clear hb_ st_ HO); rw [HCV.out]))
    go_roundg (l0.length - (i + 1))
    case measure => have := HGG.out; omega
    case rel =>
     refine ⟨i + 1, dq25, dq25, by go_num, ⟨all_step GQ.out ?_⟩, N3, L3⟩
     show (!(posB (atP l0 i) && !apartF l0 (nextF N l0.length (i : Int)))) = true
     rw [HND.out, HPB.out, HCV.out]
     rfl
   | false =>
    have hF : clearV l0 N = false := by
     unfold clearV
     rw [all_not (i := i) HLT.out (by show (!(posB (atP l0 i) && !apartF l0 (nextF N l0.length (i : Int)))) = false; rw [HND.out, HPB.out, HCV.out]; rfl)]
     rfl
    have HF := Aside0.mk hF
    clear hF
    go_wp2_with (first | ((with_reducible refine gate_callee (f := 48) rfl ?_); refine goesL_ (some 19) rfl rfl Try.func48 dq21 rfl #[.agg #[.int .i64 kind, .string name, .slice A2 kids.length c2, .int .i64 occ]] rfl dq115 ?_; (with_reducible refine (impl_PNode_isPosition.calls kind name _ _ kids occ true _ (Kd.C_below HI2.out L3.out) HL2.out HPP.out).mono ?_); rintro e w4 ⟨rfl, hb_⟩; refine ⟨_, rfl, ?_⟩; have st_ := Stp.below hb_ own (fun _ => False); have z0_ := Aside0.mk (st_.net N3.out (fun _ _ h => h)); have z1_ := Aside0.mk (below_step L3.out hb_); clear N3 L3; have N3 := z0_; have L3 := z1_; clear z0_ z1_; clear hb_ st_ hk0 hk1 hk2 hk3) | (go_at_call 39; (with_reducible refine (net_next _ _ X own nv fv lv wv N ms _ l0.length c0 (i : Int) N3.out (Kd.C_max HR.out) HG.out.1 HG.out.2.1 HG.out.2.2.1 (by have := HG.out.2.2.2.1; have := HLT.out; omega)).mono ?_); rintro e w5 ⟨v, rfl, hr_, hb_⟩; obtain ⟨Av, av, ev⟩ := Kd.R_slice hr_; subst ev; have HO := Aside0.mk hr_; have st_ := Stp.below hb_ own (fun _ => False); have z0_ := Aside0.mk (st_.net N3.out (fun _ _ h => h)); have z1_ := Aside0.mk (below_step L3.out hb_); clear N3 L3; have N3 := z0_; have L3 := z1_; clear z0_ z1_; clear hb_ hr_ st_) | ((go_at_call 50; (with_reducible refine (net_clear _ _ X own nv fv lv wv N ms _ l0.length c0 l0 Av av (nextF N l0.length (i : Int)) N3.out (Kd.C_below HR.out L3.out) rfl (Kd.R_reads' HO.out).2.2 (Kd.R_reads' HO.out).2.1 (HG.out.2.2.2.2.1 i HLT.out).at_).mono ?_); rintro e w6 ⟨rfl, hb_⟩; have st_ := Stp.below hb_ own (fun _ => False); have z0_ := Aside0.mk (st_.net N3.out (fun _ _ h => h)); have z1_ := Aside0.mk (below_step L3.out hb_); clear N3 L3; have N3 := z0_; have L3 := z1_; clear z0_ z1_; clear hb_ st_ HO); rw [HCV.out]))
    go_ret
    exact ⟨by rw [HF.out]; rfl, L3.out⟩
 | false =>
  simp only [Bool.false_eq_true, if_false, Option.some.injEq] at h
  subst h
  go_enter Try.func23, Try.ntmps23
  go_wp2_with (first | ((with_reducible refine gate_callee (f := 37) rfl ?_); refine goesL_ (some 7) rfl rfl Try.func37 dq21 rfl #[.slice A0 l0.length c0] rfl dq115 ?_; (with_reducible refine (impl_ParticleOk.calls k A0 c0 l0 false _ (Kd.C_below HR.out HB.out) HC.out HT.out).mono ?_); rintro e w1 ⟨rfl, hb_⟩; refine ⟨_, rfl, ?_⟩; have z_ := Aside0.mk (below_step HB.out hb_); clear HB hb_; have HB := z_; clear z_))
  go_ret
  exact ⟨rfl, HB.out⟩
def addK (p : List (S49)) (nm : ByteArray) (out : List Int) (k : Int) : List Int := if takesB p k nm && !decide (k ∈ out) then out ++ [k] else out
def stepRow (p : List (S49)) (N : NetV) (n : Nat) (nm : ByteArray) (out : List Int) (q : Int) : List Int := (nextF N n q).foldl (addK p nm) out
def stepF (p : List (S49)) (N : NetV) (n : Nat) (nm : ByteArray) (from_ : List Int) : List Int := isort (from_.foldl (stepRow p N n nm) [])
def sumN (N : NetV) (n : Nat) : List Int → Nat
 | [] => 0
 | q :: l => (nextF N n q).length + sumN N n l
theorem tag_row {W w1 : World} {v : Value} {xs : List Int} (t : Nat) (own : Tags) (h : Kd.R (Kd.int .i64) 2 w1 W.heap.size (fun _ => True) v xs) :
  ∃ own' : Tags, Kd.R (Kd.int .i64) 2 w1 W.heap.size (fun k => own' k = t) v xs ∧ ∀ k, k < W.heap.size → own' k = own k :=
 ⟨fun k => if k < W.heap.size then own k else t, Kd.R_mono (Kd.R_bound h) (fun k hk => if_neg (by have := hk.2.1; omega)), fun k hk => if_pos hk⟩
def StepPost (w : World) (r : List Int) (e : Ending) (w' : World) : Prop := ∃ v, e = .returned v ∧ Kd.R (Kd.int .i64) 2 w' w.heap.size (fun _ => True) v r ∧ Below w.heap.size w w'
set_option maxHeartbeats 4000000 in
set_option maxRecDepth 100000 in
theorem net_step (w0 w : World) (X : Nat) (own : Tags) (nv fv lv wv : Value) (N : NetV) (ms : List Nat) (A0 : Option Addr) (n c0 : Nat) (l0 : List (S49)) (A1 : Option Addr) (c1 : Nat) (from_ : List Int) (nm : ByteArray)
  (hN : NetW w w0.heap.size X own (.slice A0 n c0) nv fv lv wv N ms) (hR : Kd.C k49 w A0 l0.length l0) (hn : l0.length = n) (h1 : Kd.C (Kd.int .i64) w A1 from_.length from_) (hc1 : from_.length ≤ c1)
  (h0 : 0 < n) (hf : N.fst.length = n) (hl : ∀ l ∈ N.fst, l.length < LIMK) (hq : ∀ q ∈ from_, q < (N.fol.length : Int) ∧ inB n (nextF N n q)) (hs : sumN N n from_ < LIMK) :
  Calls Try.prog 54 #[.pointer (some ⟨X, 0, none⟩), .slice A1 from_.length c1, .string nm] w (StepPost w (stepF l0 N n nm from_)) := by
 have N3 := Aside0.mk hN
 have HR := Aside0.mk hR
 have H1 := Aside0.mk h1
 have HE := Aside0.mk hn
 have L3 := Aside0.mk (Below.refl w.heap.size w)
 have hm1 : from_.length ≤ 9223372036854775807 := Kd.C_max h1
 have HM := Aside0.mk (show n ≤ 9223372036854775807 by have := Kd.C_max hR; omega)
 have H0 := Lib.hid h0
 have HFL := Aside0.mk hf
 have HLL := Aside0.mk hl
 have HQA := Aside0.mk hq
 have HSA := Aside0.mk hs
 clear hN hR h1 hn h0 hf hl hq hs
 obtain ⟨n1, hn1⟩ : ∃ n, from_.length = n := ⟨_, rfl⟩
 rw [hn1] at hc1 hm1 ⊢
 have HN1 := Aside0.mk hn1
 clear hn1
 go_enter Try.func54, Try.ntmps54
 go_wp2_with (first | ((with_reducible refine gate_dst (N := 12) rfl ?_); refine lit_ints (w0 := w) (W := w) (own := own) ?hg (N := 12) ?hd [] 5 ?hr L3.out (by simp) ?_; (case hd => rfl); (case hg => rfl); (case hr => first | (go_simp; done) | (go_simp; rfl)); intro v7 w4 own4 hv_ st_ hb_; obtain ⟨Ao, co, eo⟩ := Kd.R_slice hv_; subst eo; have R5 := Aside0.mk hv_; have z0_ := Aside0.mk (st_.net N3.out (fun _ _ h => h)); have z1_ := Aside0.mk (hb_); clear N3 L3; have N3 := z0_; have L3 := z1_; clear z0_ z1_; clear hv_ st_ hb_))
 go_loopg [7, 15] n1 (fun gg s7 s15 wr => ∃ (i : Nat) (ow : Tags) (v : Value) (out : List Int), i ≤ n1 ∧ n1 - i ≤ gg ∧ s7 = v ∧ s15 = .int .i64 i ∧ Aside0 ((from_.take i).foldl (stepRow l0 N n nm) [] = out) ∧ Aside0 (out.length + sumN N n (from_.drop i) < LIMK) ∧ Aside0 (Kd.R (Kd.int .i64) 2 wr w.heap.size (fun k => ow k = 5) v out) ∧ Aside0 (NetW wr w0.heap.size X ow (.slice A0 n c0) nv fv lv wv N ms) ∧ Aside0 (Below w.heap.size w wr))
 case atStart => exact ⟨0, own4, _, [], Nat.zero_le _, by omega, rfl, rfl, ⟨rfl⟩, ⟨by rw [List.drop_zero]; have := HSA.out; simp only [List.length_nil]; omega⟩, R5, N3, L3⟩
 case round =>
  obtain ⟨i, ow, v, out, hi, hg, rfl, rfl, GE, HS, R5', N3', L3'⟩ := hrel
  clear R5 N3 L3
  have R5 := R5'
  have N3 := N3'
  have L3 := L3'
  clear R5' N3' L3'
  obtain ⟨Ap, cp, eo⟩ := Kd.R_slice R5.out
  subst eo
  by_cases hlt : i < n1
  ·have hlz : (i : Int) < (n1 : Int) := by omega
   have hl : i < from_.length := by have := HN1.out; omega
   obtain ⟨ad1, e, hcell⟩ := Kd.at_int H1.out (i : Int) (by omega) (by omega)
   subst e
   rw [Int.toNat_natCast] at hcell
   replace hcell := (L3.out.cell (World.block_lt_of_cell? w _ hcell)).trans hcell
   have hmem : rd from_ (i : Int) ∈ from_ := by unfold rd; rw [Int.toNat_natCast, List.getD_eq_getElem?_getD, List.getElem?_eq_getElem hl]; exact List.getElem_mem hl
   have HQ := Aside0.mk (HQA.out _ hmem)
   have hd := drop_rd hl
   have ht := take_snoc hl
   obtain ⟨q, hq⟩ : ∃ q, rd from_ (i : Int) = q := ⟨_, rfl⟩
   rw [hq] at hcell HQ hd ht
   have HG := Aside0.mk hg
   have HD := Aside0.mk hd
   have HT := Aside0.mk ht
   have HLI := Aside0.mk hl
   have HS2 := Aside0.mk (show out.length + ((nextF N n q).length + sumN N n (from_.drop (i + 1))) < LIMK by have h_ := HS.out; rw [hd] at h_; exact h_)
   clear hmem hq hd ht hg hl HS
   go_wp2_with (first | ((with_reducible refine gate_callee (f := 39) rfl ?_); refine goesL_ (some 21) rfl rfl Try.func39 (by kernel_rfl) rfl #[.pointer (some ⟨X, 0, none⟩), .int .i64 q] rfl (by (try simp only [List.map_toArray, List.map_cons, List.map_nil]); first | done | rfl) ?_; (with_reducible refine (net_next _ _ X ow nv fv lv wv N ms _ n c0 q N3.out HM.out H0.out HFL.out HLL.out HQ.out.1).mono ?_); rintro e w5 ⟨vr, rfl, hr_, hb_⟩; refine ⟨_, rfl, ?_⟩; obtain ⟨Av, av, ev⟩ := Kd.R_slice hr_; subst ev; obtain ⟨ow6, hr6, hot⟩ := tag_row 6 ow hr_; have st_ := Stp.fresh hb_ hot (fun _ => False); have R6 := Aside0.mk (Kd.R_lower hr6 L3.out.size); have z0_ := Aside0.mk (st_.net N3.out (fun _ _ h => h)); have z1_ := Aside0.mk (below_step L3.out hb_); have z2_ := Aside0.mk (st_.row R5.out (fun h => h)); clear N3 L3 R5; have N3 := z0_; have L3 := z1_; have R5 := z2_; clear z0_ z1_ z2_; clear hb_ hr_ st_ hr6 hot))
   obtain ⟨m, hm⟩ : ∃ m, (nextF N n q).length = m := ⟨_, rfl⟩
   have HMM := Aside0.mk hm
   have hmm : m ≤ 9223372036854775807 := by have := HS2.out; unfold LIMK at this; omega
   rw [hm]
   clear hm
   go_loopg [7, 23] m (fun gg s7 s23 wr => ∃ (j : Nat) (ow : Tags) (v : Value) (out' : List Int), j ≤ m ∧ m - j ≤ gg ∧ s7 = v ∧ s23 = .int .i64 j ∧ Aside0 (((nextF N n q).take j).foldl (addK l0 nm) out = out') ∧ Aside0 (out'.length + ((m - j) + sumN N n (from_.drop (i + 1))) < LIMK) ∧ Aside0 (Kd.R (Kd.int .i64) 2 wr w.heap.size (fun k => ow k = 5) v out') ∧ Aside0 (Kd.R (Kd.int .i64) 2 wr w.heap.size (fun k => ow k = 6) (.slice Av m av) (nextF N n q)) ∧ Aside0 (NetW wr w0.heap.size X ow (.slice A0 n c0) nv fv lv wv N ms) ∧ Aside0 (Below w.heap.size w wr))
   case atStart => exact ⟨0, ow6, _, out, Nat.zero_le _, by omega, rfl, rfl, ⟨rfl⟩, ⟨by have h_ := HS2.out; have e_ := HMM.out; omega⟩, R5, ⟨by have h_ := R6.out; rw [HMM.out] at h_; exact h_⟩, N3, L3⟩
   case round =>
    obtain ⟨j, ow, v, out', hj, hg2, rfl, rfl, GE2, HS3, R5', R6', N3', L3'⟩ := hrel
    clear R5 R6 N3 L3
    have R5 := R5'
    have R6 := R6'
    have N3 := N3'
    have L3 := L3'
    clear R5' R6' N3' L3'
    obtain ⟨Aq, cq, eo⟩ := Kd.R_slice R5.out
    subst eo
    by_cases hlt2 : j < m
    ·have hlz2 : (j : Int) < (m : Int) := by omega
     have hl2 : j < (nextF N n q).length := by have := HMM.out; omega
     have hC6 : Kd.C (Kd.int .i64) wr Av m (nextF N n q) := by have h_ := (Kd.R_reads' R6.out).2.2; first | exact h_ | (rw [HMM.out] at h_; exact h_)
     obtain ⟨ad2, e, hcell2⟩ := Kd.at_int hC6 (j : Int) (by omega) (by omega)
     subst e
     rw [Int.toNat_natCast] at hcell2
     have hmem2 : rd (nextF N n q) (j : Int) ∈ nextF N n q := by unfold rd; rw [Int.toNat_natCast, List.getD_eq_getElem?_getD, List.getElem?_eq_getElem hl2]; exact List.getElem_mem hl2
     have HA := Aside0.mk (HQ.out.2.at_ _ hmem2)
     have ht2 := take_snoc hl2
     obtain ⟨a, ha⟩ : ∃ a, rd (nextF N n q) (j : Int) = a := ⟨_, rfl⟩
     rw [ha] at hcell2 HA ht2
     have HG2 := Aside0.mk hg2
     have HT2 := Aside0.mk ht2
     clear hmem2 ha ht2 hg2 hl2 hC6
     obtain ⟨tk, htk⟩ : ∃ tk, takesB l0 a nm = tk := ⟨_, rfl⟩
     have HTK := Aside0.mk htk
     clear htk
     obtain ⟨cn, hcn⟩ : ∃ cn, decide (a ∈ out') = cn := ⟨_, rfl⟩
     have HCN := Aside0.mk hcn
     clear hcn
     have HAD := Aside0.mk (show addK l0 nm out' a = if (tk && !cn) = true then out' ++ [a] else out' by unfold addK; rw [HTK.out, HCN.out])
     cases tk with
     | false =>
      go_wp2_with (first | ((with_reducible refine gate_callee (f := 70) rfl ?_); refine goesL_ (some 30) rfl rfl Try.func70 (by kernel_rfl) rfl #[.pointer (some ⟨X, 0, none⟩), .int .i64 a, .string nm] rfl (by (try simp only [List.map_toArray, List.map_cons, List.map_nil]); first | done | rfl) ?_; (with_reducible refine (net_takes w0 _ X ow nv fv lv wv N ms _ n c0 l0 a nm N3.out (Kd.C_below HR.out L3.out) HE.out HA.out.1 HA.out.2).mono ?_); rintro e wt ⟨rfl, hw_⟩; have hw2_ := hw_.symm; subst hw2_; clear hw_; refine ⟨_, rfl, ?_⟩; rw [HTK.out]))
      go_roundg (m - (j + 1))
      case measure => have := HG2.out; omega
      case rel =>
       refine ⟨j + 1, ow, _, out', by omega, by omega, rfl, by go_num, ⟨?_⟩, ⟨?_⟩, R5, R6, N3, L3⟩
       ·rw [HT2.out, List.foldl_append, GE2.out]
        show addK l0 nm out' a = _
        rw [HAD.out]
        rfl
       ·have h_ := HS3.out
        omega
     | true =>
      cases cn with
      | true =>
       go_wp2_with (first | ((with_reducible refine gate_callee (f := 70) rfl ?_); refine goesL_ (some 30) rfl rfl Try.func70 (by kernel_rfl) rfl #[.pointer (some ⟨X, 0, none⟩), .int .i64 a, .string nm] rfl (by (try simp only [List.map_toArray, List.map_cons, List.map_nil]); first | done | rfl) ?_; (with_reducible refine (net_takes w0 _ X ow nv fv lv wv N ms _ n c0 l0 a nm N3.out (Kd.C_below HR.out L3.out) HE.out HA.out.1 HA.out.2).mono ?_); rintro e wt ⟨rfl, hw_⟩; have hw2_ := hw_.symm; subst hw2_; clear hw_; refine ⟨_, rfl, ?_⟩; rw [HTK.out]) | (go_at_call 71; (with_reducible refine (contains_ints _ _ out' a _ (Kd.R_reads' R5.out).2.2 (Kd.R_reads' R5.out).2.1).mono ?_); rintro e wt ⟨rfl, hw_⟩; have hw2_ := hw_.symm; subst hw2_; clear hw_; rw [HCN.out]))
       go_roundg (m - (j + 1))
       case measure => have := HG2.out; omega
       case rel =>
        refine ⟨j + 1, ow, _, out', by omega, by omega, rfl, by go_num, ⟨?_⟩, ⟨?_⟩, R5, R6, N3, L3⟩
        ·rw [HT2.out, List.foldl_append, GE2.out]
         show addK l0 nm out' a = _
         rw [HAD.out]
         rfl
        ·have h_ := HS3.out
         omega
      | false =>
       go_wp2_with (first | ((with_reducible refine gate_callee (f := 70) rfl ?_); refine goesL_ (some 30) rfl rfl Try.func70 (by kernel_rfl) rfl #[.pointer (some ⟨X, 0, none⟩), .int .i64 a, .string nm] rfl (by (try simp only [List.map_toArray, List.map_cons, List.map_nil]); first | done | rfl) ?_; (with_reducible refine (net_takes w0 _ X ow nv fv lv wv N ms _ n c0 l0 a nm N3.out (Kd.C_below HR.out L3.out) HE.out HA.out.1 HA.out.2).mono ?_); rintro e wt ⟨rfl, hw_⟩; have hw2_ := hw_.symm; subst hw2_; clear hw_; refine ⟨_, rfl, ?_⟩; rw [HTK.out]) | (go_at_call 71; (with_reducible refine (contains_ints _ _ out' a _ (Kd.R_reads' R5.out).2.2 (Kd.R_reads' R5.out).2.1).mono ?_); rintro e wt ⟨rfl, hw_⟩; have hw2_ := hw_.symm; subst hw2_; clear hw_; rw [HCN.out]) | ((with_reducible refine gate_dst (N := 39) rfl ?_); refine lit_one (W := wr) ?hg (N := 39) ?hd (.int .i64 a) 2 ?hr ?_; (case hd => rfl); (case hg => rfl); (case hr => first | (go_simp; done) | (go_simp; rfl)); intro g7 w7 hg7 hbk hb_; have HK7 := Aside0.mk hbk; have st_ : Stp wr w7 ow ow (fun _ => False) := Stp.below hb_ _ _; have z0_ := Aside0.mk (st_.net N3.out (fun _ _ h => h)); have z1_ := Aside0.mk (st_.row R5.out (fun h => h)); have z2_ := Aside0.mk (st_.row R6.out (fun h => h)); have z3_ := Aside0.mk (below_step L3.out hb_); clear N3 R5 R6 L3; have N3 := z0_; have R5 := z1_; have R6 := z2_; have L3 := z3_; clear z0_ z1_ z2_ z3_; clear hbk hg7 st_ hb_) | ((with_reducible refine gate_builtin (b := .append) (xs := #[.tmp 37, .tmp 39]) rfl ?_); at_builtin; refine app_ints (w0 := w) (W := w7) (own := ow) (v := .slice Aq out'.length cq) (t := 5) ?hg (.tmp 37) (.tmp 39) ?ho out' [a] (A := some ⟨g7, 0, none⟩) (m := 1) (c := 1) ?hs ?hx R5.out (one_row HK7.out rfl) L3.out (by have := HS3.out; unfold LIMK at this; omega) ?_; (case hg => rfl); (case ho => rfl); (case hs => rfl); (case hx => rfl); intro v35 w8 own8 hv_ st_ hb_; have z0_ := Aside0.mk (st_.net N3.out (by intro t ht h; subst h; unfold Mine at ht; omega)); have z1_ := Aside0.mk (hv_); have z2_ := Aside0.mk (st_.row R6.out (by decide)); have z3_ := Aside0.mk (hb_); clear N3 R5 R6 L3; have N3 := z0_; have R5 := z1_; have R6 := z2_; have L3 := z3_; clear z0_ z1_ z2_ z3_; clear hv_ st_ hb_))
       go_roundg (m - (j + 1))
       case measure => have := HG2.out; omega
       case rel =>
        refine ⟨j + 1, own8, _, out' ++ [a], by omega, by omega, rfl, by go_num, ⟨?_⟩, ⟨?_⟩, R5, R6, N3, L3⟩
        ·rw [HT2.out, List.foldl_append, GE2.out]
         show addK l0 nm out' a = _
         rw [HAD.out]
         rfl
        ·have h_ := HS3.out
         simp only [List.length_append, List.length_singleton]
         omega
    ·have hlz2 : ¬ ((j : Int) < (m : Int)) := by omega
     have : j = m := by omega
     subst this
     have hgo : stepRow l0 N n nm out q = out' := by
      unfold stepRow
      have h_ := GE2.out
      rw [List.take_of_length_le (by have := HMM.out; omega)] at h_
      exact h_
     have HGO := Aside0.mk hgo
     clear hgo
     go_wp2
     go_roundg (n1 - (i + 1))
     case measure => have := HG.out; omega
     case rel =>
      refine ⟨i + 1, ow, _, out', by omega, by omega, rfl, by go_num, ⟨?_⟩, ⟨?_⟩, R5, N3, L3⟩
      ·rw [HT.out, List.foldl_append, GE.out]
       exact HGO.out
      ·have h_ := HS3.out
       omega
  ·have hlz : ¬ ((i : Int) < (n1 : Int)) := by omega
   have : i = n1 := by omega
   subst this
   have hgo : stepF l0 N n nm from_ = isort out := by
    unfold stepF
    have h_ := GE.out
    rw [List.take_of_length_le (by have := HN1.out; omega)] at h_
    rw [h_]
   have HGO := Aside0.mk hgo
   clear hgo
   go_wp2_with (first | ((with_reducible refine gate_callee (f := 44) rfl ?_); refine goesL_ (some 44) rfl rfl Try.func44 (by kernel_rfl) rfl #[.slice Ap out.length cp] rfl (by (try simp only [List.map_toArray, List.map_cons, List.map_nil]); first | done | rfl) ?_; (with_reducible refine (sort_ints _ _ _ _ _ R5.out (by have := HS.out; unfold LIMK at this; omega)).mono ?_); rintro e w9 ⟨rfl, hr_, hg_⟩; refine ⟨_, rfl, ?_⟩; have z0_ := Aside0.mk (grown_low L3.out hg_ R5.out); have z1_ := Aside0.mk (hr_); clear L3 R5; have L3 := z0_; have R5 := z1_; clear z0_ z1_; clear hr_ hg_))
   go_ret
   exact ⟨_, rfl, by rw [HGO.out]; exact Kd.R_mono R5.out (fun _ _ => trivial), L3.out⟩
def may_end.T4 : Bool × List (List Nat × List Nat) := (true, [([], []), ([0], [0]), ([1], [1]), ([2], [2]), ([3, 2], [2, 3]), ([4, 2], [2, 4]), ([5, 2], [2, 5]), ([2], [2]), ([7, 2, 2], [2, 7]), ([6, 8, 2], [2, 6, 8]), ([9, 2], [2, 9]), ([2, 10], [2, 10]), ([11, 8], [11]), ([12], [12]), ([13, 12], [12, 13]), ([14, 12, 12], [12, 14]), ([15], [15]), ([16, 15], [15, 16]), ([17, 15], [15, 17]), ([18, 15], [15, 18]), ([15], [15]), ([20, 15, 15], [15, 20]), ([19, 21, 15], [15, 19, 21]), ([22, 15], [15, 22]), ([15], [15]), ([23, 24, 21, 15], [15, 23, 24]), ([15, 25, 12], [12, 15, 25]), ([12, 26], [12, 26])])
def may_end.B4 : List Nat := [0, 1, 3, 7, 15, 31, 63, 7, 135, 511, 1023, 2047, 4095, 8191, 16383, 32767, 65535, 131071, 262143, 524287, 65535, 1114111, 4194303, 8388607, 65535, 33554431, 67108863, 134217727]
theorem may_end.tab4 : rtab .any (opsOf Try.f56 4) = may_end.T4 := by kernel_rfl
theorem may_end.bits4 : waitsOk may_end.T4.2 may_end.B4 = true := by kernel_rfl

def endB (N : NetV) (n : Nat) (q : Int) : Bool := if q < 0 then rdOf false N.nul ((n : Int) - 1) else decide (q ∈ rdL N.lst ((n : Int) - 1))
def mayF (N : NetV) (n : Nat) (l : List Int) : Bool := l.any (endB N n)
set_option maxHeartbeats 4000000 in
set_option maxRecDepth 100000 in
theorem net_mayend (w0 w : World) (X : Nat) (own : Tags) (nv fv lv wv : Value) (N : NetV) (ms : List Nat) (A0 : Option Addr) (n c0 : Nat) (A1 : Option Addr) (c1 : Nat) (l : List Int)
  (hN : NetW w w0.heap.size X own (.slice A0 n c0) nv fv lv wv N ms) (hm : n ≤ 9223372036854775807) (h0 : 0 < n) (h1 : Kd.C (Kd.int .i64) w A1 l.length l) (hc1 : l.length ≤ c1)
  (hnu : N.nul.length = n) (hfi : N.fst.length = n) (hla : N.lst.length = n) :
  Calls Try.prog 56 #[.pointer (some ⟨X, 0, none⟩), .slice A1 l.length c1] w fun e w' => e = .returned (.bool (mayF N n l)) ∧ Below w.heap.size w w' := by
 have N3 := Aside0.mk hN
 have H1 := Aside0.mk h1
 have HM := Aside0.mk hm
 have H0 := Lib.hid h0
 have HNU := Aside0.mk hnu
 have HFI := Aside0.mk hfi
 have HLA := Aside0.mk hla
 have L3 := Aside0.mk (Below.refl w.heap.size w)
 have hm1 : l.length ≤ 9223372036854775807 := Kd.C_max h1
 clear hN h1 hm h0 hnu hfi hla
 obtain ⟨n1, hn1⟩ : ∃ n, l.length = n := ⟨_, rfl⟩
 rw [hn1] at hc1 hm1 ⊢
 have HN1 := Aside0.mk hn1
 clear hn1
 go_enter Try.func56, Try.ntmps56
 go_wp2
 go_loopg [9] n1 (fun gg s9 wr => ∃ i : Nat, i ≤ n1 ∧ n1 - i ≤ gg ∧ s9 = .int .i64 i ∧ Aside0 (mayF N n l = (l.drop i).any (endB N n)) ∧ Aside0 (NetW wr w0.heap.size X own (.slice A0 n c0) nv fv lv wv N ms) ∧ Aside0 (Below w.heap.size w wr))
 case atStart => exact ⟨0, Nat.zero_le _, dq25, rfl, ⟨rfl⟩, N3, L3⟩
 obtain ⟨i, hi, hg, rfl, GQ, N3', L3'⟩ := hrel
 clear N3 L3
 have N3 := N3'
 have L3 := L3'
 clear N3' L3'
 by_cases hlt : i < n1
 rotate_left
 ·have hlz : ¬ ((i : Int) < (n1 : Int)) := by omega
  have : i = n1 := by omega
  subst this
  have HF := Aside0.mk (show mayF N n l = false by rw [GQ.out, ← HN1.out, List.drop_length]; rfl)
  go_wp2
  go_ret
  exact ⟨by rw [HF.out]; first | done | rfl, L3.out⟩
 have hlz : (i : Int) < (n1 : Int) := by omega
 have hl : i < l.length := by have := HN1.out; omega
 obtain ⟨ad1, e, hcell⟩ := Kd.at_int H1.out (i : Int) dq25 dq25
 subst e
 rw [Int.toNat_natCast] at hcell
 replace hcell := (L3.out.cell (World.block_lt_of_cell? w _ hcell)).trans hcell
 have hd := drop_rd hl
 obtain ⟨q, hq⟩ : ∃ q, rd l (i : Int) = q := ⟨_, rfl⟩
 rw [hq] at hcell hd
 have HG := Aside0.mk hg
 have HD := Aside0.mk (show mayF N n l = (endB N n q || (l.drop (i + 1)).any (endB N n)) by rw [GQ.out, hd, List.any_cons])
 clear hq hd hg hl GQ
 obtain ⟨gn, cn, gf, cf, Af, af, gl, cl, Al, al, e1, hcn, hon, e2, hcf, hof, HRf, e3, hcl, hol, HRl⟩ := N3.out.kid ((n : Int) - 1) (by have := H0.out; omega) (by have := HNU.out; have := H0.out; omega) (by have := HFI.out; have := H0.out; omega) (by have := HLA.out; have := H0.out; omega)
 obtain ⟨-, hx1, -, hx3, -, -⟩ := N3.out.cellAt
 rw [e1] at hx1
 rw [e3] at hx3
 obtain ⟨bn, hbn⟩ : ∃ bn, rdOf false N.nul ((n : Int) - 1) = bn := ⟨_, rfl⟩
 rw [hbn] at hcn
 rw [show ((n : Int) - 1).toNat = n - 1 by omega] at hcn hcl
 have HBN := Aside0.mk hbn
 have RL := Aside0.mk (Kd.R_mono (ok' := fun k => own k = 3) HRl (fun _ h => h))
 have hnz1 : (1 : Int) ≤ (n : Int) := by have := H0.out; omega
 have hnz : (0 : Int) ≤ (n : Int) - 1 := by omega
 have hnn : ((n : Int) - 1 : Int) < (N.nul.length : Int) := by have := HNU.out; omega
 have hnl : ((n : Int) - 1 : Int) < (N.lst.length : Int) := by have := HLA.out; omega
 clear hcf hof HRf hon hol hbn HRl
 go_upto_region 4 with (fail)
 by_cases cq : q < 0
 ·have ed : decide (q < 0) = true := decide_eq_true cq
  have ed2 : decide (q ≥ 0) = false := decide_eq_false dq25
  have HEB := Aside0.mk (show endB N n q = bn by unfold endB; rw [if_pos cq]; exact HBN.out)
  cases bn with
  | true =>
   have z0_ := Aside0.mk (N3.out.drew)
   have z1_ := Aside0.mk (below_drew1 L3.out)
   have z2_ := Aside0.mk (Kd.R_drew RL.out)
   clear N3 L3 RL
   have N3 := z0_
   have L3 := z1_
   have RL := z2_
   clear z0_ z1_ z2_
   refine start_ (n := 28) (S := fun w' => w'.cell? ⟨X, 1, none⟩ = some (.slice (some ⟨gn, 0, none⟩) N.nul.length cn) ∧ w'.cell? ⟨X, 3, none⟩ = some (.slice (some ⟨gl, 0, none⟩) N.lst.length cl) ∧ w'.cell? ⟨gn, n - 1, none⟩ = some (.bool true) ∧ w'.cell? ⟨gl, n - 1, none⟩ = some (.slice Al (rdL N.lst ((n : Int) - 1)).length al)) (ds := []) (bitsA 28 0) dq21 rfl rfl ⟨hx1, hx3, hcn, hcl⟩ (fun hHeld => ?_); refine with_tabW may_end.tab4 may_end.bits4 (fun HT_ HW_ => ?_)
   clear hx1 hx3 hcn hcl
   generalize wr.drew = wq at N3 L3 RL hHeld ⊢
   refine pureA (i := 0) (N := some 13) (bitsA 28 1) ?_
   refine pure_ (i := 1) (N := some 14) (v := ?_) (a' := ?_) (bitsA 28 3) rfl rfl (any_of HT_.out dq21) (fun _ _ _ h => h) (Or.inl ⟨by rfl, ?_⟩) ?_ ?_
   rotate_left
   ·intro w'
    go_simp
    with_reducible rfl
   rotate_left
   ·exact dAct
   (first | rw [ed] | (simp only [ed]) | skip)
   refine pureA (i := 2) (N := some 15) (bitsA 28 7) ?_
   refine pureA (i := 3) (N := some 16) (bitsA 28 15) ?_
   refine pureA (i := 4) (N := some 17) (bitsA 28 31) ?_
   refine pureA (i := 5) (N := some 18) (bitsA 28 63) ?_
   refine takeA4 (i := 6) (N := some 19) (bitsA 28 127) ?_
   refine pureA (i := 7) (N := some 20) (bitsA 28 255) ?_
   refine one_ (i := 8) (N := some 21) (bitsA 28 511) rfl rfl (one_of HT_.out dq21) dq26 (fun K hK => ?_)
   refine goes_ Try.func43 dq21 rfl #[.pointer (some ⟨X, 0, none⟩)] (by rfl) rfl rfl dq115 ?_
   refine (net_whole N3.out HM.out H0.out).mono ?_
   rintro e w6 ⟨rfl, hb_⟩
   refine ⟨_, rfl, ?_⟩
   obtain ⟨s1, s2, s3, s4⟩ := hHeld
   have st_ := Stp.below hb_ own (fun _ => False)
   have HS_ := Aside0.mk (show (fun w' => w'.cell? ⟨X, 1, none⟩ = some (.slice (some ⟨gn, 0, none⟩) N.nul.length cn) ∧ w'.cell? ⟨X, 3, none⟩ = some (.slice (some ⟨gl, 0, none⟩) N.lst.length cl) ∧ w'.cell? ⟨gn, n - 1, none⟩ = some (.bool true) ∧ w'.cell? ⟨gl, n - 1, none⟩ = some (.slice Al (rdL N.lst ((n : Int) - 1)).length al)) w6 from ⟨st_.cell s1 (fun h => h), st_.cell s2 (fun h => h), st_.cell s3 (fun h => h), st_.cell s4 (fun h => h)⟩)
   have z0_ := Aside0.mk (st_.net N3.out (fun _ _ h => h))
   have z1_ := Aside0.mk (below_step L3.out hb_)
   have z2_ := Aside0.mk (st_.row RL.out (fun h => h))
   clear N3 L3 RL
   have N3 := z0_
   have L3 := z1_
   have RL := z2_
   clear z0_ z1_ z2_
   clear s1 s2 s3 s4 st_ hb_
   refine hK.out _ _ HS_.out (fun hHeld => ?_)
   clear hK K
   refine norm_ (a' := ?_) ?_ ?_
   rotate_left
   ·show Act.put _ (some 21) _ = _
    simp only [Act.put, List.setIfInBounds_toArray, List.set_cons_zero, List.set_cons_succ, i64_w, i32_w]
    rfl
   clear HS_
   refine pureA (i := 9) (N := some 22) (bitsA 28 1023) ?_
   refine takeA4 (i := 10) (N := some 23) (bitsA 28 2047) ?_
   refine pureA (i := 11) (N := some 24) (bitsA 28 4095) ?_
   refine pureA (i := 12) (N := some 25) (bitsA 28 8191) ?_
   refine pureN (i := 13) (N := some 26) (bitsA 28 16383) ?_
   refine pureN (i := 14) (N := some 27) (bitsA 28 32767) ?_
   refine pureN (i := 15) (N := some 28) (bitsA 28 65535) ?_
   refine pureN (i := 16) (N := some 29) (bitsA 28 131071) ?_
   refine pureN (i := 17) (N := some 30) (bitsA 28 262143) ?_
   refine pureN (i := 18) (N := some 31) (bitsA 28 524287) ?_
   refine pureN (i := 19) (N := some 32) (bitsA 28 1048575) ?_
   refine pureN (i := 20) (N := some 33) (bitsA 28 2097151) ?_
   refine pureN (i := 21) (N := some 34) (bitsA 28 4194303) ?_
   refine pureN (i := 22) (N := some 35) (bitsA 28 8388607) ?_
   refine pureN (i := 23) (N := some 36) (bitsA 28 16777215) ?_
   refine pureN (i := 24) (N := some 37) (bitsA 28 33554431) ?_
   refine pureN (i := 25) (N := some 38) (bitsA 28 67108863) ?_
   refine pureN (i := 26) (N := some 39) (bitsA 28 134217727) ?_
   refine pureA (i := 27) (N := some 40) (bitsA 28 268435455) ?_
   refine done_ (done_of HT_.out dq21) ?_
   have HF := Aside0.mk (show mayF N n l = true by rw [HD.out, HEB.out]; rfl)
   go_wp2
   go_ret
   exact ⟨by rw [HF.out]; first | done | rfl, L3.out⟩
  | false =>
   have z0_ := Aside0.mk (N3.out.drew)
   have z1_ := Aside0.mk (below_drew1 L3.out)
   have z2_ := Aside0.mk (Kd.R_drew RL.out)
   clear N3 L3 RL
   have N3 := z0_
   have L3 := z1_
   have RL := z2_
   clear z0_ z1_ z2_
   refine start_ (n := 28) (S := fun w' => w'.cell? ⟨X, 1, none⟩ = some (.slice (some ⟨gn, 0, none⟩) N.nul.length cn) ∧ w'.cell? ⟨X, 3, none⟩ = some (.slice (some ⟨gl, 0, none⟩) N.lst.length cl) ∧ w'.cell? ⟨gn, n - 1, none⟩ = some (.bool false) ∧ w'.cell? ⟨gl, n - 1, none⟩ = some (.slice Al (rdL N.lst ((n : Int) - 1)).length al)) (ds := []) (bitsA 28 0) dq21 rfl rfl ⟨hx1, hx3, hcn, hcl⟩ (fun hHeld => ?_); refine with_tabW may_end.tab4 may_end.bits4 (fun HT_ HW_ => ?_)
   clear hx1 hx3 hcn hcl
   generalize wr.drew = wq at N3 L3 RL hHeld ⊢
   refine pureA (i := 0) (N := some 13) (bitsA 28 1) ?_
   refine pure_ (i := 1) (N := some 14) (v := ?_) (a' := ?_) (bitsA 28 3) rfl rfl (any_of HT_.out dq21) (fun _ _ _ h => h) (Or.inl ⟨by rfl, ?_⟩) ?_ ?_
   rotate_left
   ·intro w'
    go_simp
    with_reducible rfl
   rotate_left
   ·exact dAct
   (first | rw [ed] | (simp only [ed]) | skip)
   refine pureA (i := 2) (N := some 15) (bitsA 28 7) ?_
   refine pureA (i := 3) (N := some 16) (bitsA 28 15) ?_
   refine pureA (i := 4) (N := some 17) (bitsA 28 31) ?_
   refine pureA (i := 5) (N := some 18) (bitsA 28 63) ?_
   refine takeA4 (i := 6) (N := some 19) (bitsA 28 127) ?_
   refine pureA (i := 7) (N := some 20) (bitsA 28 255) ?_
   refine one_ (i := 8) (N := some 21) (bitsA 28 511) rfl rfl (one_of HT_.out dq21) dq26 (fun K hK => ?_)
   refine goes_ Try.func43 dq21 rfl #[.pointer (some ⟨X, 0, none⟩)] (by rfl) rfl rfl dq115 ?_
   refine (net_whole N3.out HM.out H0.out).mono ?_
   rintro e w6 ⟨rfl, hb_⟩
   refine ⟨_, rfl, ?_⟩
   obtain ⟨s1, s2, s3, s4⟩ := hHeld
   have st_ := Stp.below hb_ own (fun _ => False)
   have HS_ := Aside0.mk (show (fun w' => w'.cell? ⟨X, 1, none⟩ = some (.slice (some ⟨gn, 0, none⟩) N.nul.length cn) ∧ w'.cell? ⟨X, 3, none⟩ = some (.slice (some ⟨gl, 0, none⟩) N.lst.length cl) ∧ w'.cell? ⟨gn, n - 1, none⟩ = some (.bool false) ∧ w'.cell? ⟨gl, n - 1, none⟩ = some (.slice Al (rdL N.lst ((n : Int) - 1)).length al)) w6 from ⟨st_.cell s1 (fun h => h), st_.cell s2 (fun h => h), st_.cell s3 (fun h => h), st_.cell s4 (fun h => h)⟩)
   have z0_ := Aside0.mk (st_.net N3.out (fun _ _ h => h))
   have z1_ := Aside0.mk (below_step L3.out hb_)
   have z2_ := Aside0.mk (st_.row RL.out (fun h => h))
   clear N3 L3 RL
   have N3 := z0_
   have L3 := z1_
   have RL := z2_
   clear z0_ z1_ z2_
   clear s1 s2 s3 s4 st_ hb_
   refine hK.out _ _ HS_.out (fun hHeld => ?_)
   clear hK K
   refine norm_ (a' := ?_) ?_ ?_
   rotate_left
   ·show Act.put _ (some 21) _ = _
    simp only [Act.put, List.setIfInBounds_toArray, List.set_cons_zero, List.set_cons_succ, i64_w, i32_w]
    rfl
   clear HS_
   refine pureA (i := 9) (N := some 22) (bitsA 28 1023) ?_
   refine takeA4 (i := 10) (N := some 23) (bitsA 28 2047) ?_
   refine pureA (i := 11) (N := some 24) (bitsA 28 4095) ?_
   refine pureA (i := 12) (N := some 25) (bitsA 28 8191) ?_
   refine pureA (i := 13) (N := some 26) (bitsA 28 16383) ?_
   refine pure_ (i := 14) (N := some 27) (v := ?_) (a' := ?_) (bitsA 28 32767) rfl rfl (any_of HT_.out dq21) (fun _ _ _ h => h) (Or.inl ⟨by rfl, ?_⟩) ?_ ?_
   rotate_left
   ·intro w'
    go_simp
    with_reducible rfl
   rotate_left
   ·exact dAct
   (first | rw [ed2] | (simp only [ed2]) | skip)
   refine pureA (i := 15) (N := some 28) (bitsA 28 65535) ?_
   refine pureN (i := 16) (N := some 29) (bitsA 28 131071) ?_
   refine pureN (i := 17) (N := some 30) (bitsA 28 262143) ?_
   refine pureN (i := 18) (N := some 31) (bitsA 28 524287) ?_
   refine pureN (i := 19) (N := some 32) (bitsA 28 1048575) ?_
   refine pureN (i := 20) (N := some 33) (bitsA 28 2097151) ?_
   refine pureN (i := 21) (N := some 34) (bitsA 28 4194303) ?_
   refine pureN (i := 22) (N := some 35) (bitsA 28 8388607) ?_
   refine pureN (i := 23) (N := some 36) (bitsA 28 16777215) ?_
   refine pureN (i := 24) (N := some 37) (bitsA 28 33554431) ?_
   refine pureN (i := 25) (N := some 38) (bitsA 28 67108863) ?_
   refine pureA (i := 26) (N := some 39) (bitsA 28 134217727) ?_
   refine pureA (i := 27) (N := some 40) (bitsA 28 268435455) ?_
   refine done_ (done_of HT_.out dq21) ?_
   have HF := Aside0.mk (show mayF N n l = (l.drop (i + 1)).any (endB N n) by rw [HD.out, HEB.out, Bool.false_or])
   go_wp2
   go_roundg (n1 - (i + 1))
   case measure => have := HG.out; omega
   case rel => exact ⟨i + 1, dq25, dq25, by go_num, HF, N3, L3⟩
 have ed : decide (q < 0) = false := decide_eq_false cq
 have ed2 : decide (q ≥ 0) = true := decide_eq_true dq25
 have hqz : q ≥ 0 := by omega
 obtain ⟨bc, hbc⟩ : ∃ bc, decide (q ∈ rdL N.lst ((n : Int) - 1)) = bc := ⟨_, rfl⟩
 have HCN := Aside0.mk hbc
 have HEB := Aside0.mk (show endB N n q = bc by unfold endB; rw [if_neg cq]; exact hbc)
 clear hbc
 cases bc with
 | true =>
  have z0_ := Aside0.mk (N3.out.drew)
  have z1_ := Aside0.mk (below_drew1 L3.out)
  have z2_ := Aside0.mk (Kd.R_drew RL.out)
  clear N3 L3 RL
  have N3 := z0_
  have L3 := z1_
  have RL := z2_
  clear z0_ z1_ z2_
  refine start_ (n := 28) (S := fun w' => w'.cell? ⟨X, 1, none⟩ = some (.slice (some ⟨gn, 0, none⟩) N.nul.length cn) ∧ w'.cell? ⟨X, 3, none⟩ = some (.slice (some ⟨gl, 0, none⟩) N.lst.length cl) ∧ w'.cell? ⟨gn, n - 1, none⟩ = some (.bool bn) ∧ w'.cell? ⟨gl, n - 1, none⟩ = some (.slice Al (rdL N.lst ((n : Int) - 1)).length al)) (ds := []) (bitsA 28 0) dq21 rfl rfl ⟨hx1, hx3, hcn, hcl⟩ (fun hHeld => ?_); refine with_tabW may_end.tab4 may_end.bits4 (fun HT_ HW_ => ?_)
  clear hx1 hx3 hcn hcl
  generalize wr.drew = wq at N3 L3 RL hHeld ⊢
  refine pureA (i := 0) (N := some 13) (bitsA 28 1) ?_
  refine pure_ (i := 1) (N := some 14) (v := ?_) (a' := ?_) (bitsA 28 3) rfl rfl (any_of HT_.out dq21) (fun _ _ _ h => h) (Or.inl ⟨by rfl, ?_⟩) ?_ ?_
  rotate_left
  ·intro w'
   go_simp
   with_reducible rfl
  rotate_left
  ·exact dAct
  (first | rw [ed] | (simp only [ed]) | skip)
  refine pureA (i := 2) (N := some 15) (bitsA 28 7) ?_
  refine pureN (i := 3) (N := some 16) (bitsA 28 15) ?_
  refine pureN (i := 4) (N := some 17) (bitsA 28 31) ?_
  refine pureN (i := 5) (N := some 18) (bitsA 28 63) ?_
  refine pureN (i := 6) (N := some 19) (bitsA 28 127) ?_
  refine pureN (i := 7) (N := some 20) (bitsA 28 255) ?_
  refine pureN (i := 8) (N := some 21) (bitsA 28 511) ?_
  refine pureN (i := 9) (N := some 22) (bitsA 28 1023) ?_
  refine pureN (i := 10) (N := some 23) (bitsA 28 2047) ?_
  refine pureA (i := 11) (N := some 24) (bitsA 28 4095) ?_
  refine pureA (i := 12) (N := some 25) (bitsA 28 8191) ?_
  refine pureA (i := 13) (N := some 26) (bitsA 28 16383) ?_
  refine pure_ (i := 14) (N := some 27) (v := ?_) (a' := ?_) (bitsA 28 32767) rfl rfl (any_of HT_.out dq21) (fun _ _ _ h => h) (Or.inl ⟨by rfl, ?_⟩) ?_ ?_
  rotate_left
  ·intro w'
   go_simp
   with_reducible rfl
  rotate_left
  ·exact dAct
  (first | rw [ed2] | (simp only [ed2]) | skip)
  refine pureA (i := 15) (N := some 28) (bitsA 28 65535) ?_
  refine pureA (i := 16) (N := some 29) (bitsA 28 131071) ?_
  refine pureA (i := 17) (N := some 30) (bitsA 28 262143) ?_
  refine pureA (i := 18) (N := some 31) (bitsA 28 524287) ?_
  refine takeA4 (i := 19) (N := some 32) (bitsA 28 1048575) ?_
  refine pureA (i := 20) (N := some 33) (bitsA 28 2097151) ?_
  refine pureA (i := 24) (N := some 37) (bitsA 28 18874367) ?_
  refine one_ (i := 21) (N := some 34) (bitsA 28 20971519) rfl rfl (one_of HT_.out dq21) dq26 (fun K hK => ?_)
  refine goes_ Try.func43 dq21 rfl #[.pointer (some ⟨X, 0, none⟩)] (by rfl) rfl rfl dq115 ?_
  refine (net_whole N3.out HM.out H0.out).mono ?_
  rintro e w6 ⟨rfl, hb_⟩
  refine ⟨_, rfl, ?_⟩
  obtain ⟨s1, s2, s3, s4⟩ := hHeld
  have st_ := Stp.below hb_ own (fun _ => False)
  have HS_ := Aside0.mk (show (fun w' => w'.cell? ⟨X, 1, none⟩ = some (.slice (some ⟨gn, 0, none⟩) N.nul.length cn) ∧ w'.cell? ⟨X, 3, none⟩ = some (.slice (some ⟨gl, 0, none⟩) N.lst.length cl) ∧ w'.cell? ⟨gn, n - 1, none⟩ = some (.bool bn) ∧ w'.cell? ⟨gl, n - 1, none⟩ = some (.slice Al (rdL N.lst ((n : Int) - 1)).length al)) w6 from ⟨st_.cell s1 (fun h => h), st_.cell s2 (fun h => h), st_.cell s3 (fun h => h), st_.cell s4 (fun h => h)⟩)
  have z0_ := Aside0.mk (st_.net N3.out (fun _ _ h => h))
  have z1_ := Aside0.mk (below_step L3.out hb_)
  have z2_ := Aside0.mk (st_.row RL.out (fun h => h))
  clear N3 L3 RL
  have N3 := z0_
  have L3 := z1_
  have RL := z2_
  clear z0_ z1_ z2_
  clear s1 s2 s3 s4 st_ hb_
  refine hK.out _ _ HS_.out (fun hHeld => ?_)
  clear hK K
  refine norm_ (a' := ?_) ?_ ?_
  rotate_left
  ·show Act.put _ (some 34) _ = _
   simp only [Act.put, List.setIfInBounds_toArray, List.set_cons_zero, List.set_cons_succ, i64_w, i32_w]
   rfl
  clear HS_
  refine pureA (i := 22) (N := some 35) (bitsA 28 25165823) ?_
  refine takeA4 (i := 23) (N := some 36) (bitsA 28 33554431) ?_
  refine one_ (i := 25) (N := some 38) (bitsA 28 67108863) rfl rfl (one_of HT_.out dq21) dq26 (fun K hK => ?_)
  refine goes_ Try.func71 dq21 rfl #[.slice Al (rdL N.lst ((n : Int) - 1)).length al, .int .i64 q] (by rfl) rfl rfl dq115 ?_
  refine (contains_ints Al al (rdL N.lst ((n : Int) - 1)) q _ (Kd.R_reads' RL.out).2.2 (Kd.R_reads' RL.out).2.1).mono ?_
  rintro e wt ⟨rfl, hw_⟩
  have hw2_ := hw_.symm
  subst hw2_
  clear hw_
  refine ⟨_, rfl, ?_⟩
  rw [HCN.out]
  refine hK.out _ _ hHeld (fun hHeld => ?_)
  clear hK K
  refine norm_ (a' := ?_) ?_ ?_
  rotate_left
  ·show Act.put _ (some 38) _ = _
   simp only [Act.put, List.setIfInBounds_toArray, List.set_cons_zero, List.set_cons_succ, i64_w, i32_w]
   rfl
  refine pureA (i := 26) (N := some 39) (bitsA 28 134217727) ?_
  refine pureA (i := 27) (N := some 40) (bitsA 28 268435455) ?_
  refine done_ (done_of HT_.out dq21) ?_
  have HF := Aside0.mk (show mayF N n l = true by rw [HD.out, HEB.out]; rfl)
  go_wp2
  go_ret
  exact ⟨by rw [HF.out]; first | done | rfl, L3.out⟩
 | false =>
  have z0_ := Aside0.mk (N3.out.drew)
  have z1_ := Aside0.mk (below_drew1 L3.out)
  have z2_ := Aside0.mk (Kd.R_drew RL.out)
  clear N3 L3 RL
  have N3 := z0_
  have L3 := z1_
  have RL := z2_
  clear z0_ z1_ z2_
  refine start_ (n := 28) (S := fun w' => w'.cell? ⟨X, 1, none⟩ = some (.slice (some ⟨gn, 0, none⟩) N.nul.length cn) ∧ w'.cell? ⟨X, 3, none⟩ = some (.slice (some ⟨gl, 0, none⟩) N.lst.length cl) ∧ w'.cell? ⟨gn, n - 1, none⟩ = some (.bool bn) ∧ w'.cell? ⟨gl, n - 1, none⟩ = some (.slice Al (rdL N.lst ((n : Int) - 1)).length al)) (ds := []) (bitsA 28 0) dq21 rfl rfl ⟨hx1, hx3, hcn, hcl⟩ (fun hHeld => ?_); refine with_tabW may_end.tab4 may_end.bits4 (fun HT_ HW_ => ?_)
  clear hx1 hx3 hcn hcl
  generalize wr.drew = wq at N3 L3 RL hHeld ⊢
  refine pureA (i := 0) (N := some 13) (bitsA 28 1) ?_
  refine pure_ (i := 1) (N := some 14) (v := ?_) (a' := ?_) (bitsA 28 3) rfl rfl (any_of HT_.out dq21) (fun _ _ _ h => h) (Or.inl ⟨by rfl, ?_⟩) ?_ ?_
  rotate_left
  ·intro w'
   go_simp
   with_reducible rfl
  rotate_left
  ·exact dAct
  (first | rw [ed] | (simp only [ed]) | skip)
  refine pureA (i := 2) (N := some 15) (bitsA 28 7) ?_
  refine pureN (i := 3) (N := some 16) (bitsA 28 15) ?_
  refine pureN (i := 4) (N := some 17) (bitsA 28 31) ?_
  refine pureN (i := 5) (N := some 18) (bitsA 28 63) ?_
  refine pureN (i := 6) (N := some 19) (bitsA 28 127) ?_
  refine pureN (i := 7) (N := some 20) (bitsA 28 255) ?_
  refine pureN (i := 8) (N := some 21) (bitsA 28 511) ?_
  refine pureN (i := 9) (N := some 22) (bitsA 28 1023) ?_
  refine pureN (i := 10) (N := some 23) (bitsA 28 2047) ?_
  refine pureA (i := 11) (N := some 24) (bitsA 28 4095) ?_
  refine pureA (i := 12) (N := some 25) (bitsA 28 8191) ?_
  refine pureA (i := 13) (N := some 26) (bitsA 28 16383) ?_
  refine pure_ (i := 14) (N := some 27) (v := ?_) (a' := ?_) (bitsA 28 32767) rfl rfl (any_of HT_.out dq21) (fun _ _ _ h => h) (Or.inl ⟨by rfl, ?_⟩) ?_ ?_
  rotate_left
  ·intro w'
   go_simp
   with_reducible rfl
  rotate_left
  ·exact dAct
  (first | rw [ed2] | (simp only [ed2]) | skip)
  refine pureA (i := 15) (N := some 28) (bitsA 28 65535) ?_
  refine pureA (i := 16) (N := some 29) (bitsA 28 131071) ?_
  refine pureA (i := 17) (N := some 30) (bitsA 28 262143) ?_
  refine pureA (i := 18) (N := some 31) (bitsA 28 524287) ?_
  refine takeA4 (i := 19) (N := some 32) (bitsA 28 1048575) ?_
  refine pureA (i := 20) (N := some 33) (bitsA 28 2097151) ?_
  refine pureA (i := 24) (N := some 37) (bitsA 28 18874367) ?_
  refine one_ (i := 21) (N := some 34) (bitsA 28 20971519) rfl rfl (one_of HT_.out dq21) dq26 (fun K hK => ?_)
  refine goes_ Try.func43 dq21 rfl #[.pointer (some ⟨X, 0, none⟩)] (by rfl) rfl rfl dq115 ?_
  refine (net_whole N3.out HM.out H0.out).mono ?_
  rintro e w6 ⟨rfl, hb_⟩
  refine ⟨_, rfl, ?_⟩
  obtain ⟨s1, s2, s3, s4⟩ := hHeld
  have st_ := Stp.below hb_ own (fun _ => False)
  have HS_ := Aside0.mk (show (fun w' => w'.cell? ⟨X, 1, none⟩ = some (.slice (some ⟨gn, 0, none⟩) N.nul.length cn) ∧ w'.cell? ⟨X, 3, none⟩ = some (.slice (some ⟨gl, 0, none⟩) N.lst.length cl) ∧ w'.cell? ⟨gn, n - 1, none⟩ = some (.bool bn) ∧ w'.cell? ⟨gl, n - 1, none⟩ = some (.slice Al (rdL N.lst ((n : Int) - 1)).length al)) w6 from ⟨st_.cell s1 (fun h => h), st_.cell s2 (fun h => h), st_.cell s3 (fun h => h), st_.cell s4 (fun h => h)⟩)
  have z0_ := Aside0.mk (st_.net N3.out (fun _ _ h => h))
  have z1_ := Aside0.mk (below_step L3.out hb_)
  have z2_ := Aside0.mk (st_.row RL.out (fun h => h))
  clear N3 L3 RL
  have N3 := z0_
  have L3 := z1_
  have RL := z2_
  clear z0_ z1_ z2_
  clear s1 s2 s3 s4 st_ hb_
  refine hK.out _ _ HS_.out (fun hHeld => ?_)
  clear hK K
  refine norm_ (a' := ?_) ?_ ?_
  rotate_left
  ·show Act.put _ (some 34) _ = _
   simp only [Act.put, List.setIfInBounds_toArray, List.set_cons_zero, List.set_cons_succ, i64_w, i32_w]
   rfl
  clear HS_
  refine pureA (i := 22) (N := some 35) (bitsA 28 25165823) ?_
  refine takeA4 (i := 23) (N := some 36) (bitsA 28 33554431) ?_
  refine one_ (i := 25) (N := some 38) (bitsA 28 67108863) rfl rfl (one_of HT_.out dq21) dq26 (fun K hK => ?_)
  refine goes_ Try.func71 dq21 rfl #[.slice Al (rdL N.lst ((n : Int) - 1)).length al, .int .i64 q] (by rfl) rfl rfl dq115 ?_
  refine (contains_ints Al al (rdL N.lst ((n : Int) - 1)) q _ (Kd.R_reads' RL.out).2.2 (Kd.R_reads' RL.out).2.1).mono ?_
  rintro e wt ⟨rfl, hw_⟩
  have hw2_ := hw_.symm
  subst hw2_
  clear hw_
  refine ⟨_, rfl, ?_⟩
  rw [HCN.out]
  refine hK.out _ _ hHeld (fun hHeld => ?_)
  clear hK K
  refine norm_ (a' := ?_) ?_ ?_
  rotate_left
  ·show Act.put _ (some 38) _ = _
   simp only [Act.put, List.setIfInBounds_toArray, List.set_cons_zero, List.set_cons_succ, i64_w, i32_w]
   rfl
  refine pureA (i := 26) (N := some 39) (bitsA 28 134217727) ?_
  refine pureA (i := 27) (N := some 40) (bitsA 28 268435455) ?_
  refine done_ (done_of HT_.out dq21) ?_
  have HF := Aside0.mk (show mayF N n l = (l.drop (i + 1)).any (endB N n) by rw [HD.out, HEB.out, Bool.false_or])
  go_wp2
  go_roundg (n1 - (i + 1))
  case measure => have := HG.out; omega
  case rel => exact ⟨i + 1, dq25, dq25, by go_num, HF, N3, L3⟩
def stepOk (N : NetV) (n : Nat) (at_ : List Int) : Prop := (∀ q ∈ at_, q < (N.fol.length : Int) ∧ inB n (nextF N n q)) ∧ sumN N n at_ < LIMK
instance (N : NetV) (n : Nat) (at_ : List Int) : Decidable (stepOk N n at_) := inferInstanceAs (Decidable ((∀ q ∈ at_, q < (N.fol.length : Int) ∧ inB n (nextF N n q)) ∧ sumN N n at_ < LIMK))
def runO (p : List (S49)) (N : NetV) (n : Nat) : List ByteArray → List Int → Option (List Int)
 | [], at_ => some at_
 | nm :: names, at_ => if stepOk N n at_ then runO p N n names (stepF p N n nm at_) else none
def impl_Accepts.f (k : Nat) (l0 : List (S49)) (l1 : List ByteArray) : Option Bool :=
 (impl_ParticleOk.f k l0).bind fun t => if t = true then (if l1.length ≤ 200 then ((netOfF l0).bind fun N => if 0 < l0.length ∧ N.fst.length = l0.length ∧ (∀ l ∈ N.fst, l.length < LIMK) ∧ N.nul.length = l0.length ∧ N.lst.length = l0.length then (runO l0 N l0.length l1 [-1]).map (mayF N l0.length) else none) else some false) else some false
set_option maxHeartbeats 1000000 in
theorem net_start (w : World) : Calls Try.prog 53 #[] w (StepPost w [-1]) := by
 have L3 := Aside0.mk (Below.refl w.heap.size w)
 go_enter Try.func53, Try.ntmps53
 go_wp2_with (first | ((with_reducible refine gate_dst (N := 1) rfl ?_); refine lit_ints (w0 := w) (W := w) (own := fun _ => 0) ?hg (N := 1) ?hd [-1] 5 ?hr L3.out dq24 ?_; (case hd => rfl); (case hg => rfl); (case hr => exact dq0); intro v7 w4 own4 hv_ st_ hb_; have R5 := Aside0.mk hv_; have z_ := Aside0.mk hb_; clear L3; have L3 := z_; clear z_ hv_ st_ hb_))
 go_ret
 exact ⟨_, rfl, Kd.R_mono R5.out (fun _ _ => trivial), L3.out⟩
theorem drop_str {l : List ByteArray} {i : Nat} (h : i < l.length) : l.drop i = rdOf ByteArray.empty l (i : Int) :: l.drop (i + 1) := by
 rw [List.drop_eq_getElem_cons h]
 unfold rdOf
 rw [Int.toNat_natCast, List.getD_eq_getElem?_getD, List.getElem?_eq_getElem h]
 rfl
set_option maxHeartbeats 4000000 in
set_option maxRecDepth 100000 in
theorem impl_Accepts.calls (k : Nat) (A0 : Option Addr) (c0 : Nat) (l0 : List (S49)) (A1 : Option Addr) (c1 : Nat) (l1 : List ByteArray) (r : Bool) (w : World) (hr0 : Kd.C k49 w A0 l0.length l0) (hc0 : l0.length ≤ c0) (hr1 : Kd.C Kd.string w A1 l1.length l1) (hc1 : l1.length ≤ c1) (h : impl_Accepts.f k l0 l1 = some r) :
  Calls Try.prog 31 #[.slice A0 l0.length c0, .slice A1 l1.length c1] w fun e w' => e = .returned (.bool r) ∧ Below w.heap.size w w' := by
 unfold impl_Accepts.f at h
 obtain ⟨t, ht, h⟩ := Option.bind_eq_some_iff.1 h
 have HT := Aside0.mk ht
 have HR := Aside0.mk hr0
 have HC := Aside0.mk hc0
 have H1 := Aside0.mk hr1
 have HC1 := Aside0.mk hc1
 have HB := Aside0.mk (Below.refl w.heap.size w)
 have hm1 : l1.length ≤ 9223372036854775807 := Kd.C_max hr1
 clear ht hr0 hc0 hr1
 cases t with
 | true =>
  simp only [if_true] at h
  by_cases hlen : l1.length ≤ 200
  rotate_left
  ·rw [if_neg hlen] at h
   obtain rfl := Option.some.inj h
   have hgt : decide ((l1.length : Int) > 200) = true := decide_eq_true dq25
   have hgt2 : (l1.length : Int) > 200 := by omega
   clear h hlen
   go_enter Try.func31, Try.ntmps31
   go_wp2_with (first | ((with_reducible refine gate_callee (f := 37) rfl ?_); refine goesL_ (some 10) rfl rfl Try.func37 dq21 rfl #[.slice A0 l0.length c0] rfl dq115 ?_; (with_reducible refine (impl_ParticleOk.calls k A0 c0 l0 true _ (Kd.C_below HR.out HB.out) HC.out HT.out).mono ?_); rintro e w1 ⟨rfl, hb_⟩; refine ⟨_, rfl, ?_⟩; have z_ := Aside0.mk (below_step HB.out hb_); clear HB hb_; have HB := z_; clear z_))
   go_ret
   exact ⟨rfl, HB.out⟩
  rw [if_pos hlen] at h
  obtain ⟨N, hN, h⟩ := Option.bind_eq_some_iff.1 h
  by_cases hg : 0 < l0.length ∧ N.fst.length = l0.length ∧ (∀ l ∈ N.fst, l.length < LIMK) ∧ N.nul.length = l0.length ∧ N.lst.length = l0.length
  rotate_left
  ·rw [if_neg hg] at h
   cases h
  rw [if_pos hg] at h
  obtain ⟨fin, hfin, hr⟩ := Option.map_eq_some_iff.1 h
  have HNF := Aside0.mk hN
  have HG := Lib.hid hg
  have HFIN := Aside0.mk hfin
  have HRV := Aside0.mk hr
  have hgt : decide ((l1.length : Int) > 200) = false := decide_eq_false dq25
  have hgt2 : ¬ ((l1.length : Int) > 200) := by omega
  clear hN hg h hfin hr
  obtain ⟨n1, hn1⟩ : ∃ n, l1.length = n := ⟨_, rfl⟩
  rw [hn1] at hc1 hm1 hgt hgt2 hlen ⊢
  have HN1 := Aside0.mk hn1
  clear hn1
  go_enter Try.func31, Try.ntmps31
  go_wp2_with (first | ((with_reducible refine gate_callee (f := 37) rfl ?_); refine goesL_ (some 10) rfl rfl Try.func37 dq21 rfl #[.slice A0 l0.length c0] rfl dq115 ?_; (with_reducible refine (impl_ParticleOk.calls k A0 c0 l0 true _ (Kd.C_below HR.out HB.out) HC.out HT.out).mono ?_); rintro e w1 ⟨rfl, hb_⟩; refine ⟨_, rfl, ?_⟩; have z_ := Aside0.mk (below_step HB.out hb_); clear HB hb_; have HB := z_; clear z_) | ((with_reducible refine gate_callee (f := 38) rfl ?_); refine goesL_ (some 18) rfl rfl Try.func38 dq21 rfl #[.slice A0 l0.length c0] rfl dq115 ?_; (with_reducible refine (net_of A0 c0 l0 _ (Kd.C_below HR.out HB.out) HC.out N HNF.out).mono ?_); rintro e w2 ⟨X, own, nv, fv, lv, wv, ms, rfl, hn_, hb_⟩; refine ⟨_, rfl, ?_⟩; have HN3 := Aside0.mk hn_; have z_ := Aside0.mk (below_step HB.out hb_); clear HB hb_ hn_; have HB := z_; clear z_) | ((with_reducible refine gate_callee (f := 53) rfl ?_); refine goesL_ (some 19) rfl rfl Try.func53 dq21 rfl #[] rfl dq115 ?_; (with_reducible refine (net_start _).mono ?_); rintro e w3 ⟨vs, rfl, hr_, hb_⟩; refine ⟨_, rfl, ?_⟩; have RA := Aside0.mk (Kd.R_lower hr_ HB.out.size); have st_ := Stp.below hb_ own (fun _ => False); have z0_ := Aside0.mk (st_.net HN3.out (fun _ _ h => h)); have z1_ := Aside0.mk (below_step HB.out hb_); clear HN3 HB; have HN3 := z0_; have HB := z1_; clear z0_ z1_; clear hb_ hr_ st_))
  go_loopg [6, 22] n1 (fun gg s6 s22 wr => ∃ (i : Nat) (v : Value) (at_ : List Int), i ≤ n1 ∧ n1 - i ≤ gg ∧ s6 = v ∧ s22 = .int .i64 i ∧ Aside0 (runO l0 N l0.length (l1.drop i) at_ = some fin) ∧ Aside0 (Kd.R (Kd.int .i64) 2 wr w.heap.size (fun _ => True) v at_) ∧ Aside0 (NetW wr w1.heap.size X own (.slice A0 l0.length c0) nv fv lv wv N ms) ∧ Aside0 (Below w.heap.size w wr))
  case atStart => exact ⟨0, _, [-1], Nat.zero_le _, dq25, rfl, rfl, HFIN, RA, HN3, HB⟩
  obtain ⟨i, v, at_, hi, hgg, rfl, rfl, GF, RA', N3', L3'⟩ := hrel
  clear RA HN3 HB
  have RA := RA'
  have N3 := N3'
  have L3 := L3'
  clear RA' N3' L3'
  obtain ⟨Aa, ca, eo⟩ := Kd.R_slice RA.out
  subst eo
  by_cases hlt : i < n1
  rotate_left
  ·have hlz : ¬ ((i : Int) < (n1 : Int)) := by omega
   have : i = n1 := by omega
   subst this
   have hF := GF.out
   rw [← HN1.out, List.drop_length] at hF
   have hfe : at_ = fin := Option.some.inj hF
   have HRE := Aside0.mk (show r = mayF N l0.length at_ by rw [← HRV.out, hfe])
   clear hF hfe GF
   go_wp2_with (first | ((with_reducible refine gate_callee (f := 56) rfl ?_); refine goesL_ (some 33) rfl rfl Try.func56 dq21 rfl #[.pointer (some ⟨X, 0, none⟩), .slice Aa at_.length ca] rfl dq115 ?_; (with_reducible refine (net_mayend w1 _ X own nv fv lv wv N ms A0 l0.length c0 Aa ca at_ N3.out (Kd.C_max HR.out) HG.out.1 (Kd.R_reads' RA.out).2.2 (Kd.R_reads' RA.out).2.1 HG.out.2.2.2.1 HG.out.2.1 HG.out.2.2.2.2).mono ?_); rintro e w5 ⟨rfl, hb_⟩; refine ⟨_, rfl, ?_⟩; have z0_ := Aside0.mk (below_step L3.out hb_); clear L3; have L3 := z0_; clear z0_; clear hb_))
   go_ret
   exact ⟨by rw [HRE.out]; first | done | rfl, L3.out⟩
  have hlz : (i : Int) < (n1 : Int) := by omega
  have hl : i < l1.length := by have := HN1.out; omega
  obtain ⟨ad1, e, hcell⟩ := Kd.at_string H1.out (i : Int) dq25 dq25
  subst e
  rw [Int.toNat_natCast] at hcell
  replace hcell := (L3.out.cell (World.block_lt_of_cell? w _ hcell)).trans hcell
  have hd := drop_str hl
  obtain ⟨nm, hnm⟩ : ∃ nm, rdOf ByteArray.empty l1 (i : Int) = nm := ⟨_, rfl⟩
  rw [hnm] at hcell hd
  have hF := GF.out
  rw [hd] at hF
  unfold runO at hF
  by_cases hst : stepOk N l0.length at_
  rotate_left
  ·rw [if_neg hst] at hF
   cases hF
  rw [if_pos hst] at hF
  have HF := Aside0.mk hF
  have HST := Aside0.mk (show (∀ q ∈ at_, q < (N.fol.length : Int) ∧ inB l0.length (nextF N l0.length q)) ∧ sumN N l0.length at_ < LIMK from hst)
  have HGG := Aside0.mk hgg
  clear hnm hd hF hst hgg hl GF
  go_wp2_with (first | ((with_reducible refine gate_callee (f := 54) rfl ?_); refine goesL_ (some 29) rfl rfl Try.func54 dq21 rfl #[.pointer (some ⟨X, 0, none⟩), .slice Aa at_.length ca, .string nm] rfl dq115 ?_; (with_reducible refine (net_step w1 _ X own nv fv lv wv N ms A0 l0.length c0 l0 Aa ca at_ nm N3.out (Kd.C_below HR.out L3.out) rfl (Kd.R_reads' RA.out).2.2 (Kd.R_reads' RA.out).2.1 HG.out.1 HG.out.2.1 HG.out.2.2.1 HST.out.1 HST.out.2).mono ?_); rintro e w5 ⟨vn, rfl, hr_, hb_⟩; refine ⟨_, rfl, ?_⟩; have RN := Aside0.mk (Kd.R_lower hr_ L3.out.size); have st_ := Stp.below hb_ own (fun _ => False); have z0_ := Aside0.mk (st_.net N3.out (fun _ _ h => h)); have z1_ := Aside0.mk (below_step L3.out hb_); clear N3 L3; have N3 := z0_; have L3 := z1_; clear z0_ z1_; clear hb_ hr_ st_))
  go_roundg (n1 - (i + 1))
  case measure => have := HGG.out; omega
  case rel => exact ⟨i + 1, _, _, dq25, dq25, rfl, by go_num, HF, RN, N3, L3⟩
 | false =>
  simp only [Bool.false_eq_true, if_false, Option.some.injEq] at h
  subst h
  go_enter Try.func31, Try.ntmps31
  go_wp2_with (first | ((with_reducible refine gate_callee (f := 37) rfl ?_); refine goesL_ (some 10) rfl rfl Try.func37 dq21 rfl #[.slice A0 l0.length c0] rfl dq115 ?_; (with_reducible refine (impl_ParticleOk.calls k A0 c0 l0 false _ (Kd.C_below HR.out HB.out) HC.out HT.out).mono ?_); rintro e w1 ⟨rfl, hb_⟩; refine ⟨_, rfl, ?_⟩; have z_ := Aside0.mk (below_step HB.out hb_); clear HB hb_; have HB := z_; clear z_))
  go_ret
  exact ⟨rfl, HB.out⟩
def attrO (p : List (S49)) (N : NetV) (n : Nat) : List ByteArray → List Int → List Int → Option (List Int)
 | [], at_, out => some out
 | nm :: names, at_, out => if stepOk N n at_ ∧ stepF p N n nm at_ ≠ [] ∧ out.length + 1 < LIMK then attrO p N n names (stepF p N n nm at_) (out ++ [rd (stepF p N n nm at_) 0]) else none
def impl_Attribute.f (k : Nat) (l0 : List (S49)) (l1 : List ByteArray) : Option (List Int × Bool) :=
 (impl_Clear.f k l0).bind fun t => if t = true then ((impl_Accepts.f k l0 l1).bind fun u => if u = true then ((netOfF l0).bind fun N => if 0 < l0.length ∧ N.fst.length = l0.length ∧ (∀ l ∈ N.fst, l.length < LIMK) then (attrO l0 N l0.length l1 [-1] []).map (fun o => (o, true)) else none) else some ([], false)) else some ([], false)
theorem accepts_n (k : Nat) (A0 : Option Addr) (c0 : Nat) (l0 : List (S49)) (A1 : Option Addr) (c1 : Nat) (l1 : List ByteArray) (n1 : Nat) (hn : l1.length = n1) (r : Bool) (w : World) (hr0 : Kd.C k49 w A0 l0.length l0) (hc0 : l0.length ≤ c0) (hr1 : Kd.C Kd.string w A1 l1.length l1) (hc1 : n1 ≤ c1) (h : impl_Accepts.f k l0 l1 = some r) :
  Calls Try.prog 31 #[.slice A0 l0.length c0, .slice A1 n1 c1] w fun e w' => e = .returned (.bool r) ∧ Below w.heap.size w w' := by
 subst hn
 exact impl_Accepts.calls k A0 c0 l0 A1 c1 l1 r w hr0 hc0 hr1 hc1 h
set_option maxHeartbeats 4000000 in
set_option maxRecDepth 100000 in
theorem impl_Attribute.calls (k : Nat) (A0 : Option Addr) (c0 : Nat) (l0 : List (S49)) (A1 : Option Addr) (c1 : Nat) (l1 : List ByteArray) (r1 : List Int) (r2 : Bool) (w : World) (hr0 : Kd.C k49 w A0 l0.length l0) (hc0 : l0.length ≤ c0) (hr1 : Kd.C Kd.string w A1 l1.length l1) (hc1 : l1.length ≤ c1) (h : impl_Attribute.f k l0 l1 = some (r1, r2)) :
  Calls Try.prog 27 #[.slice A0 l0.length c0, .slice A1 l1.length c1] w fun e w' => ∃ v0_ : Value, e = .returned (.tuple #[v0_, .bool r2]) ∧ Kd.R (Kd.int .i64) 2 w' w.heap.size (fun _ => True) v0_ r1 ∧ Below w.heap.size w w' := by
 unfold impl_Attribute.f at h
 obtain ⟨t, ht, h⟩ := Option.bind_eq_some_iff.1 h
 have HT := Aside0.mk ht
 have HR := Aside0.mk hr0
 have HC := Aside0.mk hc0
 have H1 := Aside0.mk hr1
 have HB := Aside0.mk (Below.refl w.heap.size w)
 have hm1 : l1.length ≤ 9223372036854775807 := Kd.C_max hr1
 clear ht hr0 hc0 hr1
 cases t with
 | true =>
  simp only [if_true] at h
  obtain ⟨u, hu, h⟩ := Option.bind_eq_some_iff.1 h
  have HU := Aside0.mk hu
  clear hu
  obtain ⟨n1, hn1⟩ : ∃ n, l1.length = n := ⟨_, rfl⟩
  rw [hn1] at hc1 hm1 ⊢
  have HN1 := Aside0.mk hn1
  have HC1 := Aside0.mk hc1
  clear hn1 hc1
  cases u with
  | true =>
   simp only [if_true] at h
   obtain ⟨N, hN, h⟩ := Option.bind_eq_some_iff.1 h
   by_cases hg : 0 < l0.length ∧ N.fst.length = l0.length ∧ (∀ l ∈ N.fst, l.length < LIMK)
   rotate_left
   ·rw [if_neg hg] at h
    cases h
   rw [if_pos hg] at h
   obtain ⟨fin, hfin, hr⟩ := Option.map_eq_some_iff.1 h
   have HNF := Aside0.mk hN
   have HG := Lib.hid hg
   have HFIN := Aside0.mk hfin
   obtain ⟨rfl, rfl⟩ := Prod.mk.injEq .. ▸ hr
   clear hN hg h hfin hr
   go_enter Try.func27, Try.ntmps27
   go_wp2_with (first | ((with_reducible refine gate_dst (N := 23) rfl ?_); refine lit_ints (w0 := w) (own := ow6) ?hg (N := 23) ?hd [] 5 ?hr HB.out dq24 ?_; (case hd => rfl); (case hg => rfl); (case hr => exact dq0); intro v7 w4 own4 hv_ st_ hb_; have R5 := Aside0.mk hv_; have z0_ := Aside0.mk (st_.net HN3.out (fun _ _ h => h)); have z1_ := Aside0.mk (st_.row R6.out (fun h => h)); have z2_ := Aside0.mk (hb_); clear HN3 R6 HB; have HN3 := z0_; have R6 := z1_; have HB := z2_; clear z0_ z1_ z2_; clear hv_ st_ hb_) | ((with_reducible refine gate_callee (f := 23) rfl ?_); refine goesL_ (some 12) rfl rfl Try.func23 dq21 rfl #[.slice A0 l0.length c0] rfl dq115 ?_; (with_reducible refine (impl_Clear.calls k A0 c0 l0 true _ (Kd.C_below HR.out HB.out) HC.out HT.out).mono ?_); rintro e w1 ⟨rfl, hb_⟩; refine ⟨_, rfl, ?_⟩; have z_ := Aside0.mk (below_step HB.out hb_); clear HB hb_; have HB := z_; clear z_) | (go_at_call 31; (with_reducible refine (accepts_n k A0 c0 l0 A1 c1 l1 n1 HN1.out true _ (Kd.C_below HR.out HB.out) HC.out (Kd.C_below H1.out HB.out) HC1.out HU.out).mono ?_); rintro e wa ⟨rfl, hb_⟩; have z_ := Aside0.mk (below_step HB.out hb_); clear HB hb_; have HB := z_; clear z_) | ((with_reducible refine gate_callee (f := 38) rfl ?_); refine goesL_ (some 21) rfl rfl Try.func38 dq21 rfl #[.slice A0 l0.length c0] rfl dq115 ?_; (with_reducible refine (net_of A0 c0 l0 _ (Kd.C_below HR.out HB.out) HC.out N HNF.out).mono ?_); rintro e w2 ⟨X, own, nv, fv, lv, wv, ms, rfl, hn_, hb_⟩; refine ⟨_, rfl, ?_⟩; have HN3 := Aside0.mk hn_; have z_ := Aside0.mk (below_step HB.out hb_); clear HB hb_ hn_; have HB := z_; clear z_) | ((with_reducible refine gate_callee (f := 53) rfl ?_); refine goesL_ (some 22) rfl rfl Try.func53 dq21 rfl #[] rfl dq115 ?_; (with_reducible refine (net_start _).mono ?_); rintro e w3 ⟨vs, rfl, hr_, hb_⟩; refine ⟨_, rfl, ?_⟩; obtain ⟨ow6, hr6, hot⟩ := tag_row 6 own hr_; have st_ := Stp.fresh hb_ hot (fun _ => False); have R6 := Aside0.mk (Kd.R_lower hr6 HB.out.size); have z0_ := Aside0.mk (st_.net HN3.out (fun _ _ h => h)); have z1_ := Aside0.mk (below_step HB.out hb_); clear HN3 HB; have HN3 := z0_; have HB := z1_; clear z0_ z1_; clear hb_ hr_ st_ hr6 hot))
   go_loopg [7, 8, 26] n1 (fun gg s7 s8 s26 wr => ∃ (i : Nat) (ow : Tags) (v vo : Value) (at_ out : List Int), i ≤ n1 ∧ n1 - i ≤ gg ∧ s7 = v ∧ s8 = vo ∧ s26 = .int .i64 i ∧ Aside0 (attrO l0 N l0.length (l1.drop i) at_ out = some fin) ∧ Aside0 (Kd.R (Kd.int .i64) 2 wr w.heap.size (fun _ => True) v at_) ∧ Aside0 (Kd.R (Kd.int .i64) 2 wr w.heap.size (fun k => ow k = 5) vo out) ∧ Aside0 (NetW wr wa.heap.size X ow (.slice A0 l0.length c0) nv fv lv wv N ms) ∧ Aside0 (Below w.heap.size w wr))
   case atStart => exact ⟨0, _, _, _, [-1], [], Nat.zero_le _, dq25, rfl, rfl, rfl, HFIN, ⟨Kd.R_mono R6.out (fun _ _ => trivial)⟩, R5, HN3, HB⟩
   obtain ⟨i, ow, v, vo, at_, out, hi, hgg, rfl, rfl, rfl, GF, R6', R5', N3', L3'⟩ := hrel
   clear R6 R5 HN3 HB
   have R6 := R6'
   have R5 := R5'
   have N3 := N3'
   have L3 := L3'
   clear R6' R5' N3' L3'
   obtain ⟨Aa, ca, eo⟩ := Kd.R_slice R6.out
   subst eo
   obtain ⟨Aq, cq, eo⟩ := Kd.R_slice R5.out
   subst eo
   by_cases hlt : i < n1
   rotate_left
   ·have hlz : ¬ ((i : Int) < (n1 : Int)) := by omega
    have : i = n1 := by omega
    subst this
    have hF := GF.out
    rw [← HN1.out, List.drop_length] at hF
    have hfe : out = fin := Option.some.inj hF
    subst hfe
    clear hF GF
    go_wp2
    go_ret2
    exact ⟨_, rfl, Kd.R_mono R5.out (fun _ _ => trivial), L3.out⟩
   have hlz : (i : Int) < (n1 : Int) := by omega
   have hl : i < l1.length := by have := HN1.out; omega
   obtain ⟨ad1, e, hcell⟩ := Kd.at_string H1.out (i : Int) dq25 dq25
   subst e
   rw [Int.toNat_natCast] at hcell
   replace hcell := (L3.out.cell (World.block_lt_of_cell? w _ hcell)).trans hcell
   have hd := drop_str hl
   obtain ⟨nm, hnm⟩ : ∃ nm, rdOf ByteArray.empty l1 (i : Int) = nm := ⟨_, rfl⟩
   rw [hnm] at hcell hd
   have hF := GF.out
   rw [hd] at hF
   unfold attrO at hF
   by_cases hst : stepOk N l0.length at_ ∧ stepF l0 N l0.length nm at_ ≠ [] ∧ out.length + 1 < LIMK
   rotate_left
   ·rw [if_neg hst] at hF
    cases hF
   rw [if_pos hst] at hF
   have HF := Aside0.mk hF
   have HST := Aside0.mk (show ((∀ q ∈ at_, q < (N.fol.length : Int) ∧ inB l0.length (nextF N l0.length q)) ∧ sumN N l0.length at_ < LIMK) ∧ stepF l0 N l0.length nm at_ ≠ [] ∧ out.length + 1 < LIMK from hst)
   have HGG := Aside0.mk hgg
   clear hnm hd hF hst hgg hl GF
   go_upto_region 8 with (first | ((with_reducible refine gate_callee (f := 54) rfl ?_); refine goesL_ (some 33) rfl rfl Try.func54 dq21 rfl #[.pointer (some ⟨X, 0, none⟩), .slice Aa at_.length ca, .string nm] rfl dq115 ?_; (with_reducible refine (net_step wa _ X ow nv fv lv wv N ms A0 l0.length c0 l0 Aa ca at_ nm N3.out (Kd.C_below HR.out L3.out) rfl (Kd.R_reads' R6.out).2.2 (Kd.R_reads' R6.out).2.1 HG.out.1 HG.out.2.1 HG.out.2.2 HST.out.1.1 HST.out.1.2).mono ?_); rintro e w5 ⟨vn, rfl, hr_, hb_⟩; refine ⟨_, rfl, ?_⟩; obtain ⟨Ab, cb, eb⟩ := Kd.R_slice hr_; subst eb; obtain ⟨ow7, hr7, hot⟩ := tag_row 7 ow hr_; have st_ := Stp.fresh hb_ hot (fun _ => False); have R7 := Aside0.mk (Kd.R_lower hr7 L3.out.size); have z0_ := Aside0.mk (st_.net N3.out (fun _ _ h => h)); have z1_ := Aside0.mk (below_step L3.out hb_); have z2_ := Aside0.mk (st_.row R5.out (fun h => h)); clear N3 L3 R5; have N3 := z0_; have L3 := z1_; have R5 := z2_; clear z0_ z1_ z2_; clear hb_ hr_ st_ hr7 hot R6))
   obtain ⟨at2, hat2⟩ : ∃ q, stepF l0 N l0.length nm at_ = q := ⟨_, rfl⟩
   rw [hat2] at HST HF R7 ⊢
   clear hat2
   obtain ⟨m2, hm2⟩ : ∃ q, at2.length = q := ⟨_, rfl⟩
   have hpos : 0 < m2 := by rw [← hm2]; exact List.length_pos_iff.2 HST.out.2.1
   have hpz : (0 : Int) < (m2 : Int) := by omega
   have hmx : m2 ≤ 9223372036854775807 := by rw [← hm2]; exact Kd.C_max (Kd.R_reads' R7.out).2.2
   have hC7 : Kd.C (Kd.int .i64) w5 Ab at2.length at2 := (Kd.R_reads' R7.out).2.2
   obtain ⟨ad2, e, hcell2⟩ := Kd.at_int hC7 (0 : Int) dq25 dq25
   subst e
   replace hcell2 : w5.cell? ad2 = some (.int .i64 (rd at2 0)) := by have h_ := hcell2; rw [show ((0 : Int)).toNat = 0 from rfl, Addr.add_zero'] at h_; exact h_
   obtain ⟨a, ha⟩ : ∃ a, rd at2 0 = a := ⟨_, rfl⟩
   rw [ha] at hcell2 HF
   rw [hm2]
   have HM2 := Aside0.mk hm2
   clear ha hm2 hC7
   go_wp2_with (first | ((with_reducible refine gate_dst (N := 38) rfl ?_); refine lit_one ?hg (N := 38) ?hd (.int .i64 a) 2 ?hr ?_; (case hd => rfl); (case hg => rfl); (case hr => exact dq0); intro g7 w7 hg7 hbk hb_; have HK7 := Aside0.mk hbk; have st_ : Stp w5 w7 ow7 ow7 (fun _ => False) := Stp.below hb_ _ _; have z0_ := Aside0.mk (st_.net N3.out (fun _ _ h => h)); have z1_ := Aside0.mk (st_.row R5.out (fun h => h)); have z2_ := Aside0.mk (st_.row R7.out (fun h => h)); have z3_ := Aside0.mk (below_step L3.out hb_); clear N3 R5 R7 L3; have N3 := z0_; have R5 := z1_; have R7 := z2_; have L3 := z3_; clear z0_ z1_ z2_ z3_; clear hbk hg7 st_ hb_) | ((with_reducible refine gate_builtin (b := .append) (xs := #[.tmp 34, .tmp 38]) rfl ?_); at_builtin; refine app_ints (w0 := w) (W := w7) (own := ow7) (v := .slice Aq out.length cq) (t := 5) ?hg (.tmp 34) (.tmp 38) ?ho out [a] (A := some ⟨g7, 0, none⟩) (m := 1) (c := 1) ?hs ?hx R5.out (one_row HK7.out rfl) L3.out (by have := HST.out.2.2; unfold LIMK at this; omega) ?_; (case hg => rfl); (case ho => rfl); (case hs => rfl); (case hx => rfl); intro v35 w8 own8 hv_ st_ hb_; have z0_ := Aside0.mk (st_.net N3.out (by intro t ht h; subst h; unfold Mine at ht; omega)); have z1_ := Aside0.mk (hv_); have z2_ := Aside0.mk (st_.row R7.out dq26); have z3_ := Aside0.mk (hb_); clear N3 R5 R7 L3; have N3 := z0_; have R5 := z1_; have R7 := z2_; have L3 := z3_; clear z0_ z1_ z2_ z3_; clear hv_ st_ hb_))
   go_roundg (n1 - (i + 1))
   case measure => have := HGG.out; omega
   case rel => exact ⟨i + 1, _, _, _, at2, _, dq25, dq25, by rw [HM2.out], rfl, by go_num, HF, ⟨Kd.R_mono R7.out (fun _ _ => trivial)⟩, R5, N3, L3⟩
  | false =>
   simp only [Bool.false_eq_true, if_false, Option.some.injEq, Prod.mk.injEq] at h
   obtain ⟨rfl, rfl⟩ := h
   go_enter Try.func27, Try.ntmps27
   go_wp2_with (first | ((with_reducible refine gate_callee (f := 23) rfl ?_); refine goesL_ (some 12) rfl rfl Try.func23 dq21 rfl #[.slice A0 l0.length c0] rfl dq115 ?_; (with_reducible refine (impl_Clear.calls k A0 c0 l0 true _ (Kd.C_below HR.out HB.out) HC.out HT.out).mono ?_); rintro e w1 ⟨rfl, hb_⟩; refine ⟨_, rfl, ?_⟩; have z_ := Aside0.mk (below_step HB.out hb_); clear HB hb_; have HB := z_; clear z_) | (go_at_call 31; (with_reducible refine (accepts_n k A0 c0 l0 A1 c1 l1 n1 HN1.out false _ (Kd.C_below HR.out HB.out) HC.out (Kd.C_below H1.out HB.out) HC1.out HU.out).mono ?_); rintro e wa ⟨rfl, hb_⟩; have z_ := Aside0.mk (below_step HB.out hb_); clear HB hb_; have HB := z_; clear z_))
   go_ret2
   exact ⟨_, rfl, Kd.R_nil _ _ _ _ _, HB.out⟩
 | false =>
  simp only [Bool.false_eq_true, if_false, Option.some.injEq, Prod.mk.injEq] at h
  obtain ⟨rfl, rfl⟩ := h
  go_enter Try.func27, Try.ntmps27
  go_wp2_with (first | ((with_reducible refine gate_callee (f := 23) rfl ?_); refine goesL_ (some 12) rfl rfl Try.func23 dq21 rfl #[.slice A0 l0.length c0] rfl dq115 ?_; (with_reducible refine (impl_Clear.calls k A0 c0 l0 false _ (Kd.C_below HR.out HB.out) HC.out HT.out).mono ?_); rintro e w1 ⟨rfl, hb_⟩; refine ⟨_, rfl, ?_⟩; have z_ := Aside0.mk (below_step HB.out hb_); clear HB hb_; have HB := z_; clear z_))
  go_ret2
  exact ⟨_, rfl, Kd.R_nil _ _ _ _ _, HB.out⟩
abbrev SPn : Type := S49
def laws_markPNodeS.go (k : Nat) : List SPn → Int → Option Int
 | [], a => some a
 | x :: l, a => (laws_markText.f k (wrap64 (a + 1))).bind fun _ => (laws_markInt64S.f k x.f2 (wrap64 (wrap64 (a + 1) + 1))).bind fun p => laws_markPNodeS.go k l (wrap64 (p.1 + 1))
def laws_markPNodeS.f (k : Nat) (l0 : List SPn) (a1 : Int) : Option Int := laws_markPNodeS.go k l0 a1
theorem kept_set {w W : World} {S : Nat → Prop} {g j : Nat} {v : Value} (h : Kept w W S) (hg : S g ∨ w.heap.size ≤ g) : Kept w (W.setCell ⟨g, j, none⟩ v) S :=
 ⟨by have := h.1; simpa [World.setCell] using this, fun i hi hS => (Below.heap_setCell W ⟨g, j, none⟩ v i (fun e => by
  have e : i = g := e
  subst e
  exact hg.elim hS (fun h => by omega))).trans (h.2 i hi hS)⟩
theorem drop_set {α : Type} (l : List α) (i : Nat) (x : α) : (l.set i x).drop (i + 1) = l.drop (i + 1) := by
 rw [List.drop_set, if_pos dq25]
theorem pnode_at {W : World} {base g n cap : Nat} {ok : Nat → Prop} {cur : List SPn} (HS : Kd.S k49 49 W base ok (.slice (some ⟨g, 0, none⟩) n cap) cur) (i : Nat) (hi : i < n) (hc : i < cur.length) :
  ∃ v2, W.cell? ⟨g, i * 4, none⟩ = some (.int .i64 cur[i].f0) ∧ W.cell? ⟨g, i * 4 + 1, none⟩ = some (.string cur[i].f1) ∧ W.cell? ⟨g, i * 4 + 2, none⟩ = some v2 ∧ W.cell? ⟨g, i * 4 + 3, none⟩ = some (.int .i64 cur[i].f3) ∧ (∀ j, W.frozen? ⟨g, i * 4 + j, none⟩ = false) ∧
   (∀ z, Kd.S k49 49 (W.setCell ⟨g, i * 4, none⟩ (.int .i64 z)) base ok (.slice (some ⟨g, 0, none⟩) n cap) (cur.set i ⟨z, cur[i].f1, cur[i].f2, cur[i].f3⟩)) ∧
   (∀ z, Kd.S k49 49 (W.setCell ⟨g, i * 4 + 1, none⟩ (.string z)) base ok (.slice (some ⟨g, 0, none⟩) n cap) (cur.set i ⟨cur[i].f0, z, cur[i].f2, cur[i].f3⟩)) ∧
   (∀ z, Kd.S k49 49 (W.setCell ⟨g, i * 4 + 3, none⟩ (.int .i64 z)) base ok (.slice (some ⟨g, 0, none⟩) n cap) (cur.set i ⟨cur[i].f0, cur[i].f1, cur[i].f2, z⟩)) ∧
   ∃ oki, (∀ j, oki j → ok j) ∧ (Kd.int .i64).R 2 W base oki v2 cur[i].f2 ∧ (∀ (w1 : World) (r : List Int), (∀ j, ok j → ¬ oki j → j < W.heap.size → w1.heap[j]? = W.heap[j]?) → (Kd.int .i64).R 2 w1 base (fun j => oki j ∨ W.heap.size ≤ j) v2 r → (∀ j, W.heap.size ≤ j → ok j) → Kd.S k49 49 w1 base ok (.slice (some ⟨g, 0, none⟩) n cap) (cur.set i ⟨cur[i].f0, cur[i].f1, r, cur[i].f3⟩)) := by
 have h0 : (0 : Int) ≤ (i : Int) := by omega
 have h1 : (i : Int) < n := by omega
 have ex : cur.getD (i : Int).toNat z49 = cur[i] := by rw [Int.toNat_natCast, List.getD_eq_getElem?_getD, List.getElem?_eq_getElem hc]; rfl
 obtain ⟨oki, ce, hcl, hM, hcc, hfr, hok, hH⟩ := Kd.S_elem HS z49 (i : Int) h0 h1
 rw [ex] at hM
 simp only [Int.toNat_natCast] at hcc hfr
 obtain ⟨v2, rfl, hR⟩ := k49_openM hM
 have S0 := fun (seg : Value) (j : Nat) (x' : SPn) (hj : j + [seg].length ≤ (k49).sz) (hM' : (k49).M W base oki x' (([.int .i64 cur[i].f0, .string cur[i].f1, v2, .int .i64 cur[i].f3] : List Value).take j ++ [seg] ++ ([.int .i64 cur[i].f0, .string cur[i].f1, v2, .int .i64 cur[i].f3] : List Value).drop (j + [seg].length))) => (Kd.S_seg0 hH h0 h1 (seg := [seg]) (j := j) hj (x' := x') hM' (fun _ hk => hk)).1
 refine ⟨v2, hcc 0 _ rfl, hcc 1 _ rfl, hcc 2 _ rfl, hcc 3 _ rfl, hfr, fun z => ?_, fun z => ?_, fun z => ?_, oki, fun j hj => (hok j hj).1, hR, fun w1 r hw hr hn => ?_⟩
 ·have := S0 (.int .i64 z) 0 ⟨z, cur[i].f1, cur[i].f2, cur[i].f3⟩ (show 0 + 1 ≤ 4 by decide) (k49_mkM _ _ _ (⟨z, cur[i].f1, cur[i].f2, cur[i].f3⟩ : SPn) hR)
  simp only [Int.toNat_natCast] at this
  exact this
 ·have := S0 (.string z) 1 ⟨cur[i].f0, z, cur[i].f2, cur[i].f3⟩ (show 1 + 1 ≤ 4 by decide) (k49_mkM _ _ _ (⟨cur[i].f0, z, cur[i].f2, cur[i].f3⟩ : SPn) hR)
  simp only [Int.toNat_natCast] at this
  exact this
 ·have := S0 (.int .i64 z) 3 ⟨cur[i].f0, cur[i].f1, cur[i].f2, z⟩ (show 3 + 1 ≤ 4 by decide) (k49_mkM _ _ _ (⟨cur[i].f0, cur[i].f1, cur[i].f2, z⟩ : SPn) hR)
  simp only [Int.toNat_natCast] at this
  exact this
 have hH2 := Kd.H_step (Kd.H_widen hH) (w1 := w1) (fun j hj hnj hlt => hw j hj (fun h => hnj (.inl h)) hlt)
 have := Kd.H_back hH2 (x' := ⟨cur[i].f0, cur[i].f1, r, cur[i].f3⟩) (k49_mkM _ _ _ (⟨cur[i].f0, cur[i].f1, r, cur[i].f3⟩ : SPn) hr) (fun j hj => hj.elim .inl (fun h => .inr ⟨hn j h, h⟩))
 simp only [Int.toNat_natCast] at this
 exact this
structure Mid (W : World) (base g n cap : Nat) (ok : Nat → Prop) (i : Nat) (a : List Int) (d cur : List SPn) : Prop where
 s : Kd.S k49 49 W base ok (.slice (some ⟨g, 0, none⟩) n cap) cur
 len : cur.length = n
 at_ : ∀ h : i < cur.length, cur[i].f2 = a
 rest : cur.drop (i + 1) = d
theorem Mid.below {W w1 : World} {base g n cap i : Nat} {ok : Nat → Prop} {a : List Int} {d cur : List SPn} (h : Mid W base g n cap ok i a d cur) (hb : Below W.heap.size W w1) : Mid w1 base g n cap ok i a d cur := ⟨Kd.S_below h.s hb, h.len, h.at_, h.rest⟩
theorem mid_set {W : World} {base g n cap i : Nat} {ok : Nat → Prop} {a : List Int} {d cur : List SPn} {x : SPn} (hx : x.f2 = a) (len : cur.length = n) (rest : cur.drop (i + 1) = d) (s : Kd.S k49 49 W base ok (.slice (some ⟨g, 0, none⟩) n cap) (cur.set i x)) : Mid W base g n cap ok i a d (cur.set i x) :=
 ⟨s, by rw [List.length_set, len], fun h => by rw [List.getElem_set_self]; exact hx, by rw [drop_set, rest]⟩
theorem Mid.open_ {W : World} {base g n cap i : Nat} {ok : Nat → Prop} {a : List Int} {d cur : List SPn} (h : Mid W base g n cap ok i a d cur) (hi : i < n) :
  ∃ (z y : Int) (s1 : ByteArray) (v2 : Value), W.cell? ⟨g, i * 4, none⟩ = some (.int .i64 z) ∧ W.cell? ⟨g, i * 4 + 1, none⟩ = some (.string s1) ∧ W.cell? ⟨g, i * 4 + 2, none⟩ = some v2 ∧ W.cell? ⟨g, i * 4 + 3, none⟩ = some (.int .i64 y) ∧ (∀ j, W.frozen? ⟨g, i * 4 + j, none⟩ = false) ∧
   (∀ z, ∃ c2, Mid (W.setCell ⟨g, i * 4, none⟩ (.int .i64 z)) base g n cap ok i a d c2) ∧ (∀ z, ∃ c2, Mid (W.setCell ⟨g, i * 4 + 1, none⟩ (.string z)) base g n cap ok i a d c2) ∧ (∀ z, ∃ c2, Mid (W.setCell ⟨g, i * 4 + 3, none⟩ (.int .i64 z)) base g n cap ok i a d c2) ∧
   ∃ oki, (∀ j, oki j → ok j) ∧ (Kd.int .i64).R 2 W base oki v2 a ∧ (∀ (w1 : World) (r : List Int), (∀ j, ok j → ¬ oki j → j < W.heap.size → w1.heap[j]? = W.heap[j]?) → (Kd.int .i64).R 2 w1 base (fun j => oki j ∨ W.heap.size ≤ j) v2 r → (∀ j, W.heap.size ≤ j → ok j) → ∃ c2 : List SPn, Mid w1 base g n cap ok i r d c2) := by
 have hc : i < cur.length := by rw [h.len]; exact hi
 have ea := h.at_ hc
 obtain ⟨v2, q0, q1, q2, q3, qf, S0, S1, S2, oki, ho1, hR, hback⟩ := pnode_at h.s i hi hc
 rw [ea] at hR
 refine ⟨_, _, _, v2, q0, q1, q2, q3, qf, fun z => ⟨_, mid_set (x := ⟨z, cur[i].f1, cur[i].f2, cur[i].f3⟩) ea h.len h.rest (S0 z)⟩, fun z => ⟨_, mid_set (x := ⟨cur[i].f0, z, cur[i].f2, cur[i].f3⟩) ea h.len h.rest (S1 z)⟩, fun z => ⟨_, mid_set (x := ⟨cur[i].f0, cur[i].f1, cur[i].f2, z⟩) ea h.len h.rest (S2 z)⟩, oki, ho1, hR, fun w1 r h1 h2 h3 => ⟨_, mid_set (x := ⟨cur[i].f0, cur[i].f1, r, cur[i].f3⟩) rfl h.len h.rest (hback w1 r h1 h2 h3)⟩⟩
set_option maxHeartbeats 4000000 in
set_option maxRecDepth 100000 in
theorem laws_markPNodeS.marks (k : Nat) (P0 : Nat → Prop) (u : Value) (l0 : List SPn) (a1 r : Int) (w0 w : World) (hB : Below w0.heap.size w0 w) (ho : Kd.S k49 49 w w0.heap.size P0 u l0) (h : laws_markPNodeS.f k l0 a1 = some r) :
  Calls Try.prog 15 #[u, .int .i64 a1] w fun e w' => e = .returned (.int .i64 r) ∧ (∃ l1, Kd.S k49 49 w' w0.heap.size (fun j => P0 j ∨ w.heap.size ≤ j) u l1) ∧ Below w0.heap.size w0 w' ∧ Kept w w' (fun j => P0 j) := by
 obtain ⟨A, c, rfl⟩ := Kd.S_slice ho
 have HO0 := Aside0.mk (Kd.S_mono (ok' := fun j => P0 j ∨ w.heap.size ≤ j) ho (fun _ hk => .inl hk))
 have HK0 := Aside0.mk (Kept.refl w (fun j => P0 j))
 have HB0 := Aside0.mk hB
 have HA0 := Aside0.mk h
 clear hB h ho
 obtain ⟨n, hn⟩ : ∃ n, l0.length = n := ⟨_, rfl⟩
 have HN := Lib.hid hn
 rw [hn]
 rw [hn] at HO0
 clear hn
 have hnm : n ≤ 9223372036854775807 := by have := (Kd.S_reads' HO0.out).2.2.2.1; have e := HN.out; omega
 go_enter Try.func15, Try.ntmps15
 go_wp2
 go_loopg [1, 5] n (fun gg s1 s5 wr => ∃ (i : Nat) (x1 : Int) (cur : List SPn), i ≤ n ∧ n - i ≤ gg ∧ s1 = .int .i64 x1 ∧ s5 = .int .i64 i ∧ Aside0 (cur.length = n) ∧ Aside0 (cur.drop i = l0.drop i) ∧ Aside0 (laws_markPNodeS.go k (l0.drop i) x1 = some r) ∧ Aside0 (Kd.S k49 49 wr w0.heap.size (fun j => P0 j ∨ w.heap.size ≤ j) (.slice A n c) cur) ∧ Aside0 (Kept w wr (fun j => P0 j)) ∧ Aside0 (Below w0.heap.size w0 wr))
 case atStart => exact ⟨0, a1, l0, Nat.zero_le _, dq25, rfl, rfl, ⟨HN.out⟩, ⟨rfl⟩, ⟨HA0.out⟩, HO0, HK0, HB0⟩
 obtain ⟨i, x1, cur, hi, hg, rfl, rfl, HL, HD, HA, HO, HK, HB⟩ := hrel
 clear HO0 HK0 HB0 HA0
 by_cases hlt : i < n
 rotate_left
 ·have hz : l0.drop i = [] := List.drop_of_length_le (by have := HN.out; omega)
  have ha := HA.out
  rw [hz] at ha
  obtain rfl := Option.some.inj ha
  clear ha hz HA
  have hlt2 : ¬ ((i : Int) < (n : Int)) := by omega
  go_wp2
  go_ret
  exact ⟨rfl, ⟨cur, HO.out⟩, HB.out, HK.out⟩
 have hlz : (i : Int) < (n : Int) := by omega
 have hl : i < l0.length := by have := HN.out; omega
 have hc : i < cur.length := by have := HL.out; omega
 have hdd : cur.drop i = cur[i] :: cur.drop (i + 1) := List.drop_eq_getElem_cons hc
 have hdl : l0.drop i = l0[i] :: l0.drop (i + 1) := List.drop_eq_getElem_cons hl
 have hd := HD.out
 rw [hdd, hdl] at hd
 injection hd with hxe hde
 have ha := HA.out
 rw [hdl] at ha
 clear hdd hdl HA HD
 simp only [laws_markPNodeS.go, Option.bind_eq_some_iff] at ha
 obtain ⟨t1, ht1, ⟨p1, p2⟩, ht3, ha⟩ := ha
 obtain ⟨aa, haa⟩ : ∃ aa, l0[i].f2 = aa := ⟨_, rfl⟩
 rw [haa] at ht3
 have hAA := Aside0.mk ((congrArg (fun x : SPn => x.f2) hxe).trans haa)
 clear haa
 obtain ⟨g, cap, e, gb, gl, _⟩ := Kd.S_form HO.out dq25
 injection e with e1 e2 e3
 subst e1
 subst e3
 clear e2
 have hX := Aside0.mk hxe
 have hE := Aside0.mk hde
 have hT1 := Aside0.mk ht1
 have hT3 := Aside0.mk ht3
 have hA := Aside0.mk ha
 have hGB := Aside0.mk gb
 clear hxe hde ht1 ht3 ha gb gl
 have M0 : Mid wr w0.heap.size g n c (fun j => P0 j ∨ w.heap.size ≤ j) i aa (l0.drop (i + 1)) cur := ⟨HO.out, HL.out, fun _ => hAA.out, hE.out⟩
 obtain ⟨z0, y0, s1, v2, q0, q1, q2, q3, qf, P0', P1', P3', _⟩ := M0.open_ hlt
 have f0 : wr.frozen? ⟨g, i * 4, none⟩ = false := qf 0
 obtain ⟨c2, M1⟩ := P0' x1
 have M1 := Aside0.mk M1
 have hG0 : Aside0 (P0 g ∨ w.heap.size ≤ g) := ⟨(Kd.S_R HO.out).1 g rfl⟩
 have HK' := Aside0.mk (kept_set (g := g) (j := i * 4) (v := .int .i64 x1) HK.out hG0.out)
 have HB' := Aside0.mk (below_set (g := g) (j := i * 4) (v := .int .i64 x1) HB.out hGB.out)
 clear HK HB
 have HK := HK'
 have HB := HB'
 clear HK' HB' qf P0' P1' P3' M0 q1 q2 q3 HO HL hX hE hAA hl hc
 go_wp2_with (first | ((with_reducible refine gate_callee (f := 41) rfl ?_); refine goesL_ (some 22) rfl rfl Try.func41 dq21 rfl #[.int .i64 (wrap64 (x1 + 1))] rfl dq115 ?_; (with_reducible refine (laws_markText.calls k (wrap64 (x1 + 1)) t1 _ hT1.out).mono ?_); rintro e w2 ⟨rfl, hb⟩; refine ⟨_, rfl, ?_⟩; obtain ⟨z0, y0, s1, v2, q0, q1, q2, q3, qf, P0', P1', P3', _⟩ := (M1.out.below hb).open_ hlt; clear M1; obtain ⟨c2, M2⟩ := P1' t1; have M1 := Aside0.mk M2; clear M2; have f0 : w2.frozen? ⟨g, i * 4 + 1, none⟩ = false := qf 1; have HK' := Aside0.mk (kept_set (g := g) (j := i * 4 + 1) (v := .string t1) (Kept.below HK.out hb) hG0.out); have HB' := Aside0.mk (below_set (g := g) (j := i * 4 + 1) (v := .string t1) (below_step HB.out hb) hGB.out); clear HK HB; have HK := HK'; have HB := HB'; clear HK' HB'; have q3a := Aside0.mk q2; clear q3 q2; obtain ⟨_, _, _, v2b, _, _, q2b, _, _, _, _, _, oki, ho1, hR, hback⟩ := M1.out.open_ hlt; have e3_ : (w2.setCell ⟨g, i * 4 + 1, none⟩ (.string t1)).cell? ⟨g, i * 4 + 2, none⟩ = w2.cell? ⟨g, i * 4 + 2, none⟩ := (by apply World.cell?_setCell_other; intro h_; injection h_ with _ h2_ _; omega); obtain rfl : v2b = v2 := Option.some.inj (q2b.symm.trans (e3_.trans q3a.out)); clear e3_; have q2 := q3a.out; have q3c := Aside0.mk q2b; clear q2b q3a; have hok1 := Aside0.mk ho1; have hR1 := Aside0.mk hR; have hbk := Aside0.mk hback; clear ho1 hR hback M1; clear qf P0' P1' P3' hb) | ((with_reducible refine gate_callee (f := 16) rfl ?_); refine goesL_ (some 33) rfl rfl Try.func16 dq21 rfl #[v2b, .int .i64 (wrap64 (wrap64 (x1 + 1) + 1))] rfl dq115 ?_; (with_reducible refine (laws_markInt64S.calls k oki v2b aa _ p1 p2 w0 _ HB.out hR1.out hT3.out).mono ?_); rintro e w3 ⟨rfl, hr3, hb3, hk3⟩; refine ⟨_, rfl, ?_⟩; obtain ⟨c3, M3⟩ := hbk.out w3 p2 (fun j _ hnj hlt => hk3.2 j hlt hnj) hr3 (fun j hj => .inr (Nat.le_trans HK.out.1 hj)); have HK' := Aside0.mk (HK.out.then_ hk3 (fun j hj => hok1.out j hj)); have HB' := Aside0.mk hb3; clear HK HB hr3 hb3 hk3; have HK := HK'; have HB := HB'; clear HK' HB'; obtain ⟨z0, y0, s1, v2, q0, q1, q2, q3, qf, P0', P1', P3', _⟩ := M3.open_ hlt; have f0 : w3.frozen? ⟨g, i * 4 + 3, none⟩ = false := qf 3; have PP := Lib.hid P3'; clear P0' P1' P3' qf M3 q0 q1 q2))
 obtain ⟨c4, M4⟩ := PP.out p1
 have hk4 := kept_set (g := g) (j := i * 4 + 3) (v := .int .i64 p1) HK.out hG0.out
 have hb4 := below_set (g := g) (j := i * 4 + 3) (v := .int .i64 p1) HB.out hGB.out
 go_roundg (n - (i + 1))
 case measure => omega
 case rel => exact ⟨i + 1, wrap64 (p1 + 1), c4, dq25, dq25, rfl, by go_num, ⟨M4.len⟩, ⟨M4.rest⟩, hA, ⟨M4.s⟩, ⟨hk4⟩, ⟨hb4⟩⟩
end Go.Proofs.Ytejkkdjfiebmfaa.L
