/- Words and contracts for the row RowFnSample; printed, and merged. -/
import Derived.Test.YtajdfbgbkgabjaaQa3
import Derived.Lib.Hide
import Derived.Outline
import Derived.Lib.Strings
set_option linter.unusedVariables false
set_option linter.unusedSimpArgs false
set_option maxHeartbeats 16000000
set_option maxRecDepth 100000
namespace Go.Proofs.Ytajdfbgbkgabjaa.L
open Go.RowKit YtajdfbgbkgabjaaW.PrintWords YtajdfbgbkgabjaaW.PrintLast YtajdfbgbkgabjaaW.PrintMore

def rd_item.T3 : Bool × List (List Nat × List Nat) := (true, [([], []), ([0], [0]), ([1], [1]), ([2], [2]), ([], []), ([4], [4]), ([5], [5]), ([6], [6]), ([7], [7]), ([3, 8], [3, 8]), ([9], [9]), ([10], [10]), ([11, 10], [10, 11]), ([12, 10], [10, 12]), ([13, 10], [10, 13]), ([10], [10]), ([15, 10], [10, 15]), ([16, 10], [10, 16]), ([17, 10], [10, 17]), ([14, 18, 10], [10, 14, 18]), ([19, 10, 10], [10, 19]), ([10, 20], [10, 20])])
def rd_item.B3 : List Nat := [0, 1, 3, 7, 0, 16, 48, 112, 240, 511, 1023, 2047, 4095, 8191, 16383, 2047, 34815, 100351, 231423, 524287, 1048575, 2097151]
theorem rd_item.tab3 : rtab .any (opsOf Try.f43 3) = rd_item.T3 := by kernel_rfl
theorem rd_item.bits3 : waitsOk rd_item.T3.2 rd_item.B3 = true := by kernel_rfl
def rd_item.T5 : Bool × List (List Nat × List Nat) := (true, [([], []), ([0], [0]), ([1], [1]), ([2], [2]), ([], []), ([], []), ([5], [5]), ([6], [6]), ([7], [7]), ([3, 4, 8], [3, 4, 8]), ([0, 1, 2, 3, 4, 5, 6, 7, 8, 9], []), ([10, 9, 0, 1, 2, 3, 4, 5, 6, 7, 8, 9], [9, 10])])
def rd_item.B5 : List Nat := [0, 1, 3, 7, 0, 0, 32, 96, 224, 511, 1023, 2047]
theorem rd_item.tab5 : rtab .any (opsOf Try.f43 5) = rd_item.T5 := by kernel_rfl
theorem rd_item.bits5 : waitsOk rd_item.T5.2 rd_item.B5 = true := by kernel_rfl
def rd_item.T19 : Bool × List (List Nat × List Nat) := (true, [([], []), ([0], [0]), ([], []), ([], []), ([3], [3]), ([2, 4], [2, 4]), ([5], [5]), ([1, 6, 5], [1, 6]), ([0, 1, 2, 3, 4, 5, 6, 7], []), ([8, 7, 7, 0, 1, 2, 3, 4, 5, 6, 7], [7, 8])])
def rd_item.B19 : List Nat := [0, 1, 0, 0, 8, 28, 60, 127, 255, 511]
theorem rd_item.tab19 : rtab .any (opsOf Try.f43 19) = rd_item.T19 := by kernel_rfl
theorem rd_item.bits19 : waitsOk rd_item.T19.2 rd_item.B19 = true := by kernel_rfl
def rd_item.T23 : Bool × List (List Nat × List Nat) := (true, [([], []), ([], []), ([1], [1]), ([2], [2]), ([3], [3]), ([], []), ([5], [5]), ([4, 6], [4, 6]), ([0, 0, 1, 2, 3, 4, 5, 6, 7], [0]), ([8, 0, 1, 2, 3, 4, 5, 6, 7], [8]), ([9, 7, 7, 0, 1, 2, 3, 4, 5, 6, 7], [7, 9])])
def rd_item.B23 : List Nat := [0, 0, 2, 6, 14, 0, 32, 126, 255, 511, 1023]
theorem rd_item.tab23 : rtab .any (opsOf Try.f43 23) = rd_item.T23 := by kernel_rfl
theorem rd_item.bits23 : waitsOk rd_item.T23.2 rd_item.B23 = true := by kernel_rfl

theorem byte_bt {s : ByteArray} {i : Nat} (h : i < s.size) : (((s[i]'h).toNat : Nat) : Int) = bt s ((i : Nat) : Int) := by
 unfold bt
 simp [h]
theorem enter_item {w0 w w3 : World} {owC : Tags} {g b : Nat} {s : ByteArray} {at_ : Int} {bad : Bool} {v : Value} {out : List SPm} (hI : IsR54 w0 w g s at_ bad v) (hg0 : owC g = 0) (hO : Kd.S k42 42 w w0.heap.size (fun k => owC k = 1) v out) (hB : Below w0.heap.size w0 w) (B3 : Below w.heap.size w w3)
  (K3 : w3.heap[b]? = some (.cells #[.int .i64 1, .string (⟨#[]⟩ : ByteArray), .slice none 0 0, .int .i64 0] 42 (0, 0))) (GE : w.heap.size ≤ b) :
  Fr w0 w w3 (aside owC) (fun q => if q = b then 3 else aside owC q) g b s at_ bad v v out 1 (⟨#[]⟩ : ByteArray) (.slice none 0 0) (.slice none 0 0) [] 0 := by
 have hgw := blk_lt hI.1
 have ha1 : ∀ k, owC k = 1 → aside owC k = 1 := by
  intro k hk
  unfold aside
  rw [hk]
  rfl
 refine ⟨blk_below hI.1 B3, ?_, hI.2, K3, if_pos rfl, Nat.le_trans hB.size GE, Kd.S_mono (Kd.S_below (Kd.S_bound hO) B3) ?_, Kd.R_nil _ _ _ _ _, below_step hB B3, B3.size, fun k h1 _ => B3.block k h1, fun k h1 _ => if_neg dq28⟩
 ·rw [if_neg dq28]
  unfold aside
  rw [hg0]
  rfl
 intro k hk
 rw [if_neg, ha1 k hk.1]
 rintro rfl
 have := hk.2.2.1
 omega
theorem rd_item.calls (k : Nat) : ∀ (w0 w : World) (owC : Tags) (g : Nat) (s : ByteArray) (at_ : Nat) (bad : Bool) (v : Value) (out : List SPm) (deep : Int) (r : Int) (at' : Nat) (bad' : Bool) (out' : List SPm)
  (hI : IsR54 w0 w g s ((at_ : Nat) : Int) bad v) (hg0 : owC g = 0) (hO : Kd.S k42 42 w w0.heap.size (fun k => owC k = 1) v out) (hB : Below w0.heap.size w0 w) (hs : s.size ≤ 20000) (h : itF k s at_ bad out deep = some (r, at', bad', out')),
  Calls Try.prog 43 #[.pointer (some ⟨g, 0, none⟩), .int .i64 deep] w fun e w' => ∃ (v' : Value) (ow' : Tags), e = .returned (.int .i64 r) ∧ IsR54 w0 w' g s ((at' : Nat) : Int) bad' v' ∧ ow' g = 0 ∧ Kd.S k42 42 w' w0.heap.size (fun k => ow' k = 1) v' out' ∧ Stp w w' owC ow' (fun t => t ≤ 1) ∧ Below w0.heap.size w0 w' := by
 induction k using Nat.strongRecOn with
 | _ k ih =>
 intro w0 w owC g s at_ bad v out deep r at' bad' out' hI hg0 hO hB hs h
 cases k with
 | zero => exact absurd h (by simp [itF])
 | succ k =>
 have IH := Lib.hid ih
 have HG0 := Zq.i hg0
 have HS := Zq.i hs
 have HH := Zq.i h
 have HST := Zq.i hI
 have HO := Zq.i hO
 have HB := Zq.i hB
 clear ih hI hg0 hO hB hs h
 go_enter Try.func43, Try.ntmps43
 go_upto_block 0 with (first | ((with_reducible refine gate_dst (N := 5) rfl ?_); refine box_event ?hg (N := 5) ?hd (cs := #[.int .i64 0, .string (⟨#[]⟩ : ByteArray), .slice none 0 0, .int .i64 0]) (t := 42) ?hr ?_; (case hd => rfl); (case hg => rfl); (case hr => exact dq0); intro b hb w2 hbox hb2; have BK := Zq.i hbox; have hcz0 : w2.cell? ⟨b, 0, none⟩ = some (.int .i64 0) := (blk_cell BK.out 0).trans rfl; have hcz1 : w2.cell? ⟨b, 1, none⟩ = some (.string (⟨#[]⟩ : ByteArray)) := (blk_cell BK.out 1).trans rfl; have hcz2 : w2.cell? ⟨b, 2, none⟩ = some (.slice none 0 0) := (blk_cell BK.out 2).trans rfl; have hcz3 : w2.cell? ⟨b, 3, none⟩ = some (.int .i64 0) := (blk_cell BK.out 3).trans rfl; have hfz0 := blk_frozen BK.out 0; have hfz1 := blk_frozen BK.out 1; have hfz2 := blk_frozen BK.out 2; have hfz3 := blk_frozen BK.out 3; have HGB := Zq.i hb; have HBX := Zq.i hb2; clear hbox hb hb2))
 have GE : w.heap.size ≤ b := by have := HGB.out; omega
 have B3 : Below w.heap.size w ((((w2.setCell ⟨b, 0, none⟩ (.int .i64 1)).setCell ⟨b, 1, none⟩ (.string (⟨#[]⟩ : ByteArray))).setCell ⟨b, 2, none⟩ (.slice none 0 0)).setCell ⟨b, 3, none⟩ (.int .i64 0)) := below_set (below_set (below_set (below_set HBX.out GE) GE) GE) GE
 have K3 : ((((w2.setCell ⟨b, 0, none⟩ (.int .i64 1)).setCell ⟨b, 1, none⟩ (.string (⟨#[]⟩ : ByteArray))).setCell ⟨b, 2, none⟩ (.slice none 0 0)).setCell ⟨b, 3, none⟩ (.int .i64 0)).heap[b]? = some (.cells #[.int .i64 1, .string (⟨#[]⟩ : ByteArray), .slice none 0 0, .int .i64 0] 42 (0, 0)) := (blk_set (blk_set (blk_set (blk_set BK.out 0 _) 1 _) 2 _) 3 _).trans rfl
 clear hcz0 hcz1 hcz2 hcz3 hfz0 hfz1 hfz2 hfz3 BK HBX HGB
 generalize ((((w2.setCell ⟨b, 0, none⟩ (.int .i64 1)).setCell ⟨b, 1, none⟩ (.string (⟨#[]⟩ : ByteArray))).setCell ⟨b, 2, none⟩ (.slice none 0 0)).setCell ⟨b, 3, none⟩ (.int .i64 0)) = w3 at B3 K3 ⊢
 have F : Zq (Fr w0 w w3 (aside owC) (fun q => if q = b then 3 else aside owC q) g b s ((at_ : Nat) : Int) bad v v out 1 (⟨#[]⟩ : ByteArray) (.slice none 0 0) (.slice none 0 0) [] 0) := ⟨enter_item HST.out HG0.out HO.out HB.out B3 K3 GE⟩
 obtain ⟨ow, how⟩ : ∃ q : Tags, (fun q => if q = b then 3 else aside owC q) = q := ⟨_, rfl⟩
 rw [how] at F
 clear how B3 K3 GE HST HO HB
 go_cut [6] (fun v6 wc => ∃ (ow : Tags) (at2 : Nat) (bad2 : Bool) (v2 : Value) (out2 : List SPm) (kind : Int) (name : ByteArray) (kw : Value) (kids : List Int), Zq (Fr w0 w wc (aside owC) ow g b s ((at2 : Nat) : Int) bad2 v2 v2 out2 kind name kw kw kids 0) ∧ Zq (itT s at2 bad2 out2 kind name kids = some (r, at', bad', out')))
 case rest =>
  clear F HH
  obtain ⟨ow, at2, bad2, v, out2, kind, name, kw, kids, F, HT⟩ := hcut
  have H := HT.out
  clear HT
  unfold itT at H
  by_cases hol : out2.length < 1000000
  rotate_left
  ·rw [if_neg hol] at H
   cases H
  rw [if_pos hol] at H
  simp only [Option.some.injEq, Prod.mk.injEq] at H
  obtain ⟨rfl, rfl, rfl, rfl⟩ := H
  have HOL := Zq.i hol
  clear hol
  obtain ⟨Av, cv, ev⟩ := Kd.S_slice F.out.o
  subst ev
  obtain ⟨Ak, ck, ek⟩ := Kd.R_slice F.out.kr
  subst ek
  obtain ⟨⟨cg0, cg1, cg2, cg3⟩, ⟨cb0, cb1, cb2, cb3⟩, ⟨fg1, fg2, fg3⟩, fb0, fb1, fb2, fb3⟩ := F.out.cells
  go_upto_region 23 with (first | ((with_reducible refine gate_callee (f := 86) rfl ?_); refine goesL_ (some 124) rfl rfl Try.func86 dq24 rfl #[.pointer (some ⟨g, 0, none⟩)] rfl dq42 ?_; (with_reducible refine (rd_occur.calls g s ((at2 : Nat) : Int) bad2 _ _ s _ bad2 w0 _ F.out.state F.out.bl (rd_occur_N s at2 bad2 HS.out)).mono ?_); rintro e w4 ⟨rfl, hI_, hb_, hk_⟩; refine ⟨_, rfl, ?_⟩; clear cg0 cg1 cg2 cg3 cb0 cb1 cb2 cb3 fg1 fg2 fg3 fb0 fb1 fb2 fb3; have F_ := Zq.i (F.out.is hI_ hb_ hk_); clear F; have F := F_; clear F_; obtain ⟨⟨cg0, cg1, cg2, cg3⟩, ⟨cb0, cb1, cb2, cb3⟩, ⟨fg1, fg2, fg3⟩, fb0, fb1, fb2, fb3⟩ := F.out.cells; clear hI_ hb_ hk_))
  obtain ⟨w5, hw_⟩ : ∃ q, w4.setCell ⟨b, 3, none⟩ (.int .i64 (occN s at2 bad2).1) = q := ⟨_, rfl⟩
  have F_ := Zq.i (F.out.setb 3 (.int .i64 (occN s at2 bad2).1) rfl)
  rw [hw_] at F_
  (try rw [hw_])
  clear cg0 cg1 cg2 cg3 cb0 cb1 cb2 cb3 fg1 fg2 fg3 fb0 fb1 fb2 fb3 F hw_
  have F := F_
  clear F_
  obtain ⟨⟨cg0, cg1, cg2, cg3⟩, ⟨cb0, cb1, cb2, cb3⟩, ⟨fg1, fg2, fg3⟩, fb0, fb1, fb2, fb3⟩ := F.out.cells
  have h3_ := cg3
  have k0_ := cb0
  have k1_ := cb1
  have k2_ := cb2
  have k3_ := cb3
  clear cg0 cg1 cg2 cg3 cb0 cb1 cb2 cb3 fg1 fg2 fg3 fb0 fb1 fb2 fb3
  have F_ := Zq.i (F.out.below (below_drew (Below.refl _ _)))
  clear F
  have F := F_
  clear F_
  refine start_ (n := 11) (S := fun w' => w'.cell? ⟨g, 3, none⟩ = some (.slice Av out2.length cv) ∧ w'.cell? ⟨b, 0, none⟩ = some (.int .i64 kind) ∧ w'.cell? ⟨b, 1, none⟩ = some (.string name) ∧ w'.cell? ⟨b, 2, none⟩ = some (.slice Ak kids.length ck) ∧ w'.cell? ⟨b, 3, none⟩ = some (.int .i64 (occN s at2 bad2).1)) (ds := [10]) #[false, false, false, false, false, false, false, false, false, false, false] dq24 rfl rfl ⟨h3_, k0_, k1_, k2_, k3_⟩ (fun hHeld => ?_); refine with_tabW rd_item.tab23 rd_item.bits23 (fun HT_ HW_ => ?_)
  clear h3_ k0_ k1_ k2_ k3_
  generalize w5.drew = w9 at F hHeld ⊢
  refine pureA (i := 0) (N := some 126) #[true, false, false, false, false, false, false, false, false, false, false] ?_
  refine pureA (i := 1) (N := some 127) #[true, true, false, false, false, false, false, false, false, false, false] ?_
  refine pureA (i := 2) (N := some 128) #[true, true, true, false, false, false, false, false, false, false, false] ?_
  refine pureA (i := 3) (N := some 129) #[true, true, true, true, false, false, false, false, false, false, false] ?_
  refine takeA5 (i := 4) (N := some 130) #[true, true, true, true, true, false, false, false, false, false, false] ?_
  refine takeA5 (i := 5) (N := some 131) #[true, true, true, true, true, true, false, false, false, false, false] ?_
  refine one_ (i := 6) (N := some 132) #[true, true, true, true, true, true, true, false, false, false, false] rfl rfl (one_of HT_.out dq24) dq25 (fun K hK => ?_)
  refine value_ (w1 := w9.alloc (.cells #[.int .i64 kind, .string name, .slice Ak kids.length ck, .int .i64 (occN s at2 bad2).1] 42 (0, 0))) (v := .slice (some ⟨w9.heap.size, 0, none⟩) 1 1) dq31 rfl ?_ ?_
  ·go_simp
   try rfl
  have HS_ := Zq.i (show (fun w' => w'.cell? ⟨g, 3, none⟩ = some (.slice Av out2.length cv) ∧ w'.cell? ⟨b, 0, none⟩ = some (.int .i64 kind) ∧ w'.cell? ⟨b, 1, none⟩ = some (.string name) ∧ w'.cell? ⟨b, 2, none⟩ = some (.slice Ak kids.length ck) ∧ w'.cell? ⟨b, 3, none⟩ = some (.int .i64 (occN s at2 bad2).1)) (w9.alloc (.cells #[.int .i64 kind, .string name, .slice Ak kids.length ck, .int .i64 (occN s at2 bad2).1] 42 (0, 0))) from ⟨(F.out.below (below_alloc (Below.refl _ _) _)).cells.1.2.2.2, (F.out.below (below_alloc (Below.refl _ _) _)).cells.2.1⟩)
  clear hHeld
  refine hK.out _ _ HS_.out (fun hHeld => ?_)
  clear hK K
  refine norm_ (a' := ?_) ?_ ?_
  rotate_left
  ·exact (dAct : Act.put _ (some 132) _ = _)
  clear HS_
  refine one_ (i := 7) (N := some 133) #[true, true, true, true, true, true, true, true, false, false, false] rfl rfl (one_of HT_.out dq24) dq25 (fun K hK => ?_)
  refine Kd.S_append_step k42 (w0 := w0) (W := w9) w0.heap.size dq31 (.tmp 130) (.tmp 132) 22 42 (.agg #[.int .i64 0, .string (⟨#[]⟩ : ByteArray), .slice none 0 0, .int .i64 0]) 56 rfl Try.underlying22 dq31 rfl dq25 dq28 (.slice Av out2.length cv) out2 (⟨kind, name, kids, (occN s at2 bad2).1⟩ : SPm) [.int .i64 kind, .string name, .slice Ak kids.length ck, .int .i64 (occN s at2 bad2).1] (fun k => ow k = 1 ∨ ow k = 2 ∨ w9.heap.size ≤ k) (fun k => ow k = 2) rfl rfl (k42_mkM w9 w0.heap.size _ (⟨kind, name, kids, (occN s at2 bad2).1⟩ : SPm) F.out.kr) (fun k hk => ⟨.inr (.inl hk), fun e_ => by have := (Kd.S_R F.out.o).1 k e_.symm; omega⟩) (fun k hk => .inr (.inr hk)) (Kd.S_mono F.out.o (fun k hk => ⟨.inl hk, dq28⟩)) F.out.bl F.out.bl.size (by have := HOL.out; omega) ?_
  intro v12 w12 ho_ hb_ hg_ _
  obtain ⟨An, cn, en⟩ := Kd.S_slice ho_
  subst en
  obtain ⟨ow12, F2_⟩ := F.out.laid hg_ hb_ ho_
  clear F
  have F := Zq.i F2_
  clear F2_ ho_ hb_ hg_ hHeld
  have HS_ := Zq.i (show (fun w' => w'.cell? ⟨g, 3, none⟩ = some (.slice Av out2.length cv) ∧ w'.cell? ⟨b, 0, none⟩ = some (.int .i64 kind) ∧ w'.cell? ⟨b, 1, none⟩ = some (.string name) ∧ w'.cell? ⟨b, 2, none⟩ = some (.slice Ak kids.length ck) ∧ w'.cell? ⟨b, 3, none⟩ = some (.int .i64 (occN s at2 bad2).1)) w12 from ⟨F.out.cells.1.2.2.2, F.out.cells.2.1⟩)
  refine hK.out _ _ HS_.out (fun hHeld => ?_)
  clear hK K
  refine norm_ (a' := ?_) ?_ ?_
  rotate_left
  ·exact (dAct : Act.put _ (some 133) _ = _)
  clear HS_
  refine pureA (i := 8) (N := some 134) #[true, true, true, true, true, true, true, true, true, false, false] ?_
  refine pureA (i := 9) (N := some 135) #[true, true, true, true, true, true, true, true, true, true, false] ?_
  refine last_ (i := 10) (N := none) #[true, true, true, true, true, true, true, true, true, true, true] rfl rfl (one_of HT_.out dq24) dq25 (fun K hK => ?_)
  obtain ⟨⟨cg0, cg1, cg2, cg3⟩, ⟨cb0, cb1, cb2, cb3⟩, ⟨fg1, fg2, fg3⟩, fb0, fb1, fb2, fb3⟩ := F.out.cells
  refine skip_ (w1 := w12.setCell ⟨g, 3, none⟩ (.slice An (out2 ++ [(⟨kind, name, kids, (occN s at2 bad2).1⟩ : SPm)]).length cn)) dq31 rfl ?_ ?_
  ·go_simp
   try rfl
  clear cg0 cg1 cg2 cg3 cb0 cb1 cb2 cb3 fg1 fg2 fg3 fb0 fb1 fb2 fb3
  have F_ := Zq.i (F.out.set3)
  clear F
  have F := F_
  clear F_
  generalize w12.setCell ⟨g, 3, none⟩ (.slice An (out2 ++ [(⟨kind, name, kids, (occN s at2 bad2).1⟩ : SPm)]).length cn) = w13 at F ⊢
  refine hK.out _ _ ?_
  clear hK K hHeld
  refine done_ (done_of HT_.out dq24) ?_
  obtain ⟨nO, hnO⟩ : ∃ q, (out2 ++ [(⟨kind, name, kids, (occN s at2 bad2).1⟩ : SPm)]).length = q := ⟨_, rfl⟩
  have hnO2 : nO = out2.length + 1 := by rw [← hnO]; simp
  have HNO := Zq.i hnO2
  have F9 := Zq.i F.out
  obtain ⟨⟨cg0, cg1, cg2, cg3⟩, ⟨cb0, cb1, cb2, cb3⟩, ⟨fg1, fg2, fg3⟩, fb0, fb1, fb2, fb3⟩ := F.out.cells
  rw [hnO] at cg3
  clear hnO hnO2 F
  have hres : wrap64 ((nO : Int) - 1) = ((out2.length : Nat) : Int) := by have h1_ := HNO.out; have h2_ := HOL.out; unfold wrap64; omega
  by_cases h40 : 40 < out2.length + 1
  rotate_left
  ·have h41 : decide ((nO : Int) > 40) = false := dF (by have := HNO.out; omega)
   have h42 : ¬ ((nO : Int) > 40) := by have := HNO.out; omega
   have hbd : (bad2 || decide (40 < out2.length + 1)) = bad2 := by rw [dF h40]; cases bad2 <;> rfl
   go_wp2
   go_ret
   obtain ⟨ow9, hg9, ho9, hs9⟩ := Fr.done (F9.out) HG0.out
   first
    | exact ⟨_, ow9, dq43, by first | exact (F9.out).state | (rw [hbd]; exact (F9.out).state), hg9, ho9, hs9, (F9.out).bl⟩
    | exact ⟨dq43, _, by first | exact (F9.out).state | (rw [hbd]; exact (F9.out).state), ow9, hg9, ho9, hs9, (F9.out).bl⟩
  have h41 : decide ((nO : Int) > 40) = true := dT (by have := HNO.out; omega)
  have h42 : ((nO : Int) > 40) := by have := HNO.out; omega
  have hbd : (bad2 || decide (40 < out2.length + 1)) = true := by rw [dT h40]; cases bad2 <;> rfl
  go_wp2
  go_ret
  obtain ⟨ow9, hg9, ho9, hs9⟩ := Fr.done (F9.out.set2 true) HG0.out
  first
   | exact ⟨_, ow9, dq43, by first | exact (F9.out.set2 true).state | (rw [hbd]; exact (F9.out.set2 true).state), hg9, ho9, hs9, (F9.out.set2 true).bl⟩
   | exact ⟨dq43, _, by first | exact (F9.out.set2 true).state | (rw [hbd]; exact (F9.out.set2 true).state), ow9, hg9, ho9, hs9, (F9.out.set2 true).bl⟩
 obtain ⟨⟨cg0, cg1, cg2, cg3⟩, ⟨cb0, cb1, cb2, cb3⟩, ⟨fg1, fg2, fg3⟩, fb0, fb1, fb2, fb3⟩ := F.out.cells
 have H := HH.out
 clear HH
 unfold itF at H
 cases h40 : isN s at_ bad 40 with
 | true =>
  rw [if_pos h40] at H
  have Q40 := Zq.i h40
  clear h40
  obtain ⟨⟨at3, bad3, out3, kind3, kids3⟩, hl, ht⟩ := Option.bind_eq_some_iff.1 H
  have HL := Zq.i hl
  have HT := Zq.i (show itT s at3 bad3 out3 kind3 (⟨#[]⟩ : ByteArray) kids3 = some (r, at', bad', out') from ht)
  clear H hl ht
  go_upto_if 65 with (first | ((with_reducible refine gate_callee (f := 84) rfl ?_); refine goesL_ (some 62) rfl rfl Try.func84 dq24 rfl #[.pointer (some ⟨g, 0, none⟩), .int .u8 40] rfl dq42 ?_; (with_reducible refine (rd_is.calls g s ((at_ : Nat) : Int) bad v 40 true s (((at_ + 1 : Nat) : Nat) : Int) bad w0 _ F.out.state F.out.bl (rd_is_t Q40.out HS.out)).mono ?_); rintro e w4 ⟨rfl, hI_, hb_, hk_⟩; refine ⟨_, rfl, ?_⟩; clear cg0 cg1 cg2 cg3 cb0 cb1 cb2 cb3 fg1 fg2 fg3 fb0 fb1 fb2 fb3; have F_ := Zq.i (F.out.is hI_ hb_ hk_); clear F; have F := F_; clear F_; obtain ⟨⟨cg0, cg1, cg2, cg3⟩, ⟨cb0, cb1, cb2, cb3⟩, ⟨fg1, fg2, fg3⟩, fb0, fb1, fb2, fb3⟩ := F.out.cells; clear hI_ hb_ hk_))
  obtain ⟨w5, hw_⟩ : ∃ q, w4.setCell ⟨b, 0, none⟩ (.int .i64 2) = q := ⟨_, rfl⟩
  have F_ := Zq.i (F.out.setb 0 (.int .i64 2) rfl)
  rw [hw_] at F_
  (try rw [hw_])
  clear cg0 cg1 cg2 cg3 cb0 cb1 cb2 cb3 fg1 fg2 fg3 fb0 fb1 fb2 fb3 F hw_
  have F := F_
  clear F_
  obtain ⟨⟨cg0, cg1, cg2, cg3⟩, ⟨cb0, cb1, cb2, cb3⟩, ⟨fg1, fg2, fg3⟩, fb0, fb1, fb2, fb3⟩ := F.out.cells
  go_cut [6] (fun v6 wc => Zq (Fr w0 w wc (aside owC) ow g b s ((at_ + 1 : Nat) : Int) (bad || decide (deep > 10)) v v out 2 (⟨#[]⟩ : ByteArray) (.slice none 0 0) (.slice none 0 0) [] 0))
  case first =>
   by_cases hd : deep > 10
   rotate_left
   ·have hd1 : decide (deep > 10) = false := dF hd
    rw [hd1]
    go_wp2
    go_meet
    case rel => exact ⟨by rw [show (bad || decide (deep > 10)) = bad by rw [hd1, Bool.or_false]]; exact F.out⟩
   have hd1 : decide (deep > 10) = true := dT hd
   rw [hd1]
   go_wp2
   go_meet
   case rel => exact ⟨by rw [show (bad || decide (deep > 10)) = true by rw [hd1, Bool.or_true]]; exact F.out.set2 true⟩
  clear cg0 cg1 cg2 cg3 cb0 cb1 cb2 cb3 fg1 fg2 fg3 fb0 fb1 fb2 fb3 F
  have F := hcut
  clear hcut
  go_wp2_with (fail)
  go_loopg [6] k (fun gg s6 wr => ∃ (ow : Tags) (kq : Nat) (at2 : Nat) (bad2 : Bool) (v2 : Value) (out2 : List SPm) (kind : Int) (kw : Value) (kids : List Int), kq ≤ gg ∧ Zq (kq ≤ k) ∧ Zq (Fr w0 w wr (aside owC) ow g b s ((at2 : Nat) : Int) bad2 v2 v2 out2 kind (⟨#[]⟩ : ByteArray) kw kw kids 0) ∧ Zq (itL kq s at2 bad2 out2 deep kind kids = some (at3, bad3, out3, kind3, kids3)))
  case atStart => exact ⟨ow, k, _, _, _, _, _, _, _, Nat.le_refl _, ⟨Nat.le_refl _⟩, F, HL⟩
  clear F HL
  obtain ⟨ow, kq, at2, bad2, v, out2, kind, kw, kids, hgg, HKQ, F, HL⟩ := hrel
  have HGG := Zq.i hgg
  clear hgg
  cases kq with
  | zero => exact absurd HL.out (by simp [itL])
  | succ q =>
  have H := HL.out
  clear HL
  unfold itL at H
  obtain ⟨⟨cg0, cg1, cg2, cg3⟩, ⟨cb0, cb1, cb2, cb3⟩, ⟨fg1, fg2, fg3⟩, fb0, fb1, fb2, fb3⟩ := F.out.cells
  cases bad2 with
  | true =>
   rw [if_pos rfl] at H
   simp only [Option.some.injEq, Prod.mk.injEq] at H
   obtain ⟨rfl, rfl, rfl, rfl, rfl⟩ := H
   go_wp2
   go_meet
   case rel => exact ⟨ow, at2, true, v, out2, kind, _, kw, kids, F, HT⟩
  | false =>
   rw [if_neg dq25] at H
   cases h41 : isN s at2 false 41 with
   | true =>
    rw [if_pos h41] at H
    have Q41 := Zq.i h41
    clear h41
    simp only [Option.some.injEq, Prod.mk.injEq] at H
    obtain ⟨rfl, rfl, rfl, rfl, rfl⟩ := H
    go_wp2_with (first | (go_at_call 84; (with_reducible refine (rd_is.calls g s ((at2 : Nat) : Int) false v 41 true s (((at2 + 1 : Nat) : Nat) : Int) false w0 _ F.out.state F.out.bl (rd_is_t Q41.out HS.out)).mono ?_); rintro e w6 ⟨rfl, hI_, hb_, hk_⟩; clear cg0 cg1 cg2 cg3 cb0 cb1 cb2 cb3 fg1 fg2 fg3 fb0 fb1 fb2 fb3; have F_ := Zq.i (F.out.is hI_ hb_ hk_); clear F; have F := F_; clear F_; obtain ⟨⟨cg0, cg1, cg2, cg3⟩, ⟨cb0, cb1, cb2, cb3⟩, ⟨fg1, fg2, fg3⟩, fb0, fb1, fb2, fb3⟩ := F.out.cells; clear hI_ hb_ hk_))
    go_meet
    case rel => exact ⟨ow, at2 + 1, false, v, out2, kind, _, kw, kids, F, HT⟩
   | false =>
    rw [if_neg (by rw [h41]; decide)] at H
    have Q41 := Zq.i h41
    clear h41
    obtain ⟨⟨ri, ai, bi, oi⟩, hr, hl⟩ := Option.bind_eq_some_iff.1 H
    dsimp only at hl
    by_cases hkl : kids.length < 1000000
    rotate_left
    ·rw [if_neg hkl] at hl
     cases hl
    rw [if_pos hkl] at hl
    have HR := Zq.i hr
    have HL := Zq.i hl
    have HKL := Zq.i hkl
    clear H hr hl hkl
    obtain ⟨Ak, ck, ek⟩ := Kd.R_slice F.out.kr
    subst ek
    obtain ⟨nk, hnk⟩ : ∃ q, kids.length = q := ⟨_, rfl⟩
    have HNK := Zq.i hnk
    go_upto_if 82 with (first | (go_at_call 84; (with_reducible refine (rd_is.calls g s ((at2 : Nat) : Int) false v 41 false s ((at2 : Nat) : Int) false w0 _ F.out.state F.out.bl (rd_is_f Q41.out)).mono ?_); rintro e w6 ⟨rfl, hI_, hb_, hk_⟩; clear cg0 cg1 cg2 cg3 cb0 cb1 cb2 cb3 fg1 fg2 fg3 fb0 fb1 fb2 fb3; have F_ := Zq.i (F.out.is hI_ hb_ hk_); clear F; have F := F_; clear F_; obtain ⟨⟨cg0, cg1, cg2, cg3⟩, ⟨cb0, cb1, cb2, cb3⟩, ⟨fg1, fg2, fg3⟩, fb0, fb1, fb2, fb3⟩ := F.out.cells; clear hI_ hb_ hk_))
    go_cut [6] (fun v6 wc => Zq (Fr w0 w wc (aside owC) ow g b s (((itA s at2 kind kids).1 : Nat) : Int) (itA s at2 kind kids).2.1 v v out2 (itA s at2 kind kids).2.2 (⟨#[]⟩ : ByteArray) (.slice Ak kids.length ck) (.slice Ak kids.length ck) kids 0))
    case rest =>
     clear cg0 cg1 cg2 cg3 cb0 cb1 cb2 cb3 fg1 fg2 fg3 fb0 fb1 fb2 fb3 F Q41
     have F := hcut
     clear hcut hnk
     obtain ⟨⟨aa, ba, ka⟩, hea⟩ : ∃ q, itA s at2 kind kids = q := ⟨_, rfl⟩
     rw [hea] at F HR HL
     clear hea
     dsimp only at F HR HL
     obtain ⟨⟨cg0, cg1, cg2, cg3⟩, ⟨cb0, cb1, cb2, cb3⟩, ⟨fg1, fg2, fg3⟩, fb0, fb1, fb2, fb3⟩ := F.out.cells
     go_upto_region 19 with (fail)
     have hc2 := cb2
     clear cg0 cg1 cg2 cg3 cb0 cb1 cb2 cb3 fg1 fg2 fg3 fb0 fb1 fb2 fb3
     have F_ := Zq.i (F.out.below (below_drew (Below.refl _ _)))
     clear F
     have F := F_
     clear F_
     refine start_ (n := 10) (S := fun w' => w'.cell? ⟨b, 2, none⟩ = some (.slice Ak kids.length ck) ∧ True) (ds := [9]) #[false, false, false, false, false, false, false, false, false, false] dq24 rfl rfl ⟨hc2, trivial⟩ (fun hHeld => ?_); refine with_tabW rd_item.tab19 rd_item.bits19 (fun HT_ HW_ => ?_)
     clear hc2
     generalize wc.drew = w9 at F hHeld ⊢
     refine pureA (i := 0) (N := some 110) #[true, false, false, false, false, false, false, false, false, false] ?_
     refine takeA2 (i := 1) (N := some 111) #[true, true, false, false, false, false, false, false, false, false] ?_
     refine pureA (i := 2) (N := some 112) #[true, true, true, false, false, false, false, false, false, false] ?_
     refine pureA (i := 3) (N := some 113) #[true, true, true, true, false, false, false, false, false, false] ?_
     refine pureA (i := 4) (N := some 114) #[true, true, true, true, true, false, false, false, false, false] ?_
     refine one_ (i := 5) (N := some 115) #[true, true, true, true, true, true, false, false, false, false] rfl rfl (one_of HT_.out dq24) dq25 (fun K hK => ?_)
     refine goes_ Try.func43 dq24 rfl #[.pointer (some ⟨g, 0, none⟩), .int .i64 (wrap64 (deep + 1))] dq31 rfl rfl dq42 ?_
     refine (IH.out q (by have := HKQ.out; omega) w0 w9 ow g s aa ba v out2 (wrap64 (deep + 1)) ri ai bi oi F.out.state F.out.g0 F.out.o F.out.bl HS.out HR.out).mono ?_
     rintro e w10 ⟨v10, ow10, rfl, hI_, hg_, ho_, hs_, hb_⟩
     refine ⟨_, rfl, ?_⟩
     have F_ := Zq.i (F.out.call hI_ hg_ ho_ hs_ hb_)
     clear F
     have F := F_
     clear F_ hI_ hg_ ho_ hs_ hb_ hHeld
     have HS_ := Zq.i (show (fun w' => w'.cell? ⟨b, 2, none⟩ = some (.slice Ak kids.length ck) ∧ True) w10 from ⟨F.out.cells.2.1.2.2.1, trivial⟩)
     refine hK.out _ _ HS_.out (fun hHeld => ?_)
     clear hK K
     refine norm_ (a' := ?_) ?_ ?_
     rotate_left
     ·exact (dAct : Act.put _ (some 115) _ = _)
     clear HS_
     refine one_ (i := 6) (N := some 116) #[true, true, true, true, true, true, true, false, false, false] rfl rfl (one_of HT_.out dq24) dq25 (fun K hK => ?_)
     refine value_ (w1 := w10.alloc (.cells #[.int .i64 ri] 2 (0, 0))) (v := .slice (some ⟨w10.heap.size, 0, none⟩) 1 1) dq31 rfl ?_ ?_
     ·go_simp
      try rfl
     have HK7 := Zq.i (blk_new w10 (.cells #[.int .i64 ri] 2 (0, 0)))
     have F_ := Zq.i (F.out.below (below_alloc (Below.refl _ _) (.cells #[.int .i64 ri] 2 (0, 0))))
     clear F
     have F := F_
     clear F_
     generalize hg7 : w10.heap.size = g7 at HK7 ⊢
     generalize w10.alloc (.cells #[.int .i64 ri] 2 (0, 0)) = w11 at HK7 F ⊢
     clear hg7 hHeld
     have HS_ := Zq.i (show (fun w' => w'.cell? ⟨b, 2, none⟩ = some (.slice Ak kids.length ck) ∧ True) w11 from ⟨F.out.cells.2.1.2.2.1, trivial⟩)
     refine hK.out _ _ HS_.out (fun hHeld => ?_)
     clear hK K
     refine norm_ (a' := ?_) ?_ ?_
     rotate_left
     ·exact (dAct : Act.put _ (some 116) _ = _)
     clear HS_
     refine one_ (i := 7) (N := some 117) #[true, true, true, true, true, true, true, true, false, false] rfl rfl (one_of HT_.out dq24) dq25 (fun K hK => ?_)
     refine app_ints_step (w0 := w0) (W := w11) (own := ow10) (v := .slice Ak kids.length ck) (t := 2) dq31 (.tmp 111) (.tmp 116) rfl kids [ri] (A := some ⟨g7, 0, none⟩) (m := 1) (c := 1) rfl rfl F.out.kr (one_row HK7.out rfl) F.out.bl (by have := HKL.out; omega) ?_
     intro v12 w12 ow12 hv_ st_ hb_
     obtain ⟨Ak2, ck2, ek2⟩ := Kd.R_slice hv_
     subst ek2
     have F_ := Zq.i (F.out.grow st_ hv_ hb_)
     clear F
     have F := F_
     clear F_ hv_ st_ hb_ hHeld HK7
     have HS_ := Zq.i (show (fun w' => w'.cell? ⟨b, 2, none⟩ = some (.slice Ak kids.length ck) ∧ True) w12 from ⟨F.out.cells.2.1.2.2.1, trivial⟩)
     refine hK.out _ _ HS_.out (fun hHeld => ?_)
     clear hK K
     refine norm_ (a' := ?_) ?_ ?_
     rotate_left
     ·exact (dAct : Act.put _ (some 117) _ = _)
     clear HS_
     refine pureA (i := 8) (N := some 118) #[true, true, true, true, true, true, true, true, true, false] ?_
     refine last_ (i := 9) (N := none) #[true, true, true, true, true, true, true, true, true, true] rfl rfl (one_of HT_.out dq24) dq25 (fun K hK => ?_)
     obtain ⟨⟨cg0, cg1, cg2, cg3⟩, ⟨cb0, cb1, cb2, cb3⟩, ⟨fg1, fg2, fg3⟩, fb0, fb1, fb2, fb3⟩ := F.out.cells
     refine skip_ (w1 := w12.setCell ⟨b, 2, none⟩ (.slice Ak2 (kids ++ [ri]).length ck2)) dq31 rfl ?_ ?_
     ·go_simp
      try rfl
     clear cg0 cg1 cg2 cg3 cb0 cb1 cb2 cb3 fg1 fg2 fg3 fb0 fb1 fb2 fb3
     have F_ := Zq.i (F.out.setb 2 (.slice Ak2 (kids ++ [ri]).length ck2) rfl)
     clear F
     have F := F_
     clear F_
     generalize w12.setCell ⟨b, 2, none⟩ (.slice Ak2 (kids ++ [ri]).length ck2) = w13 at F ⊢
     refine hK.out _ _ ?_
     clear hK K hHeld
     refine done_ (done_of HT_.out dq24) ?_
     go_wp2
     go_roundg q
     case measure => have := HGG.out; omega
     case rel => exact ⟨ow12, q, ai, bi, v10, oi, ka, _, kids ++ [ri], Nat.le_refl _, ⟨by have := HKQ.out; omega⟩, F, HL⟩
    by_cases hk : 0 < kids.length
    rotate_left
    ·have hk1 : decide ((kids.length : Int) > 0) = false := dF dq28
     have hk2 : ¬ ((kids.length : Int) > 0) := by omega
     go_wp2
     go_meet
     case rel =>
      refine ⟨?_⟩
      have e_ : itA s at2 kind kids = (at2, false, kind) := by unfold itA; rw [if_neg hk]
      rw [e_]
      exact F.out
    have hk1 : decide ((kids.length : Int) > 0) = true := dT dq28
    have hk2 : (kids.length : Int) > 0 := by omega
    cases h124 : isN s at2 false 124 with
    | true =>
     have Q := Zq.i h124
     by_cases h1 : kids.length = 1
     ·have h11 : ((kids.length : Int) == 1) = true := beq_iff_eq.2 dq28
      go_upto_region 17 with (first | ((with_reducible refine gate_callee (f := 84) rfl ?_); refine goesL_ (some 84) rfl rfl Try.func84 dq24 rfl #[.pointer (some ⟨g, 0, none⟩), .int .u8 124] rfl dq42 ?_; (with_reducible refine (rd_is.calls g s ((at2 : Nat) : Int) false v 124 true s (((at2 + 1 : Nat) : Nat) : Int) false w0 _ F.out.state F.out.bl (rd_is_t Q.out HS.out)).mono ?_); rintro e w7 ⟨rfl, hI_, hb_, hk_⟩; refine ⟨_, rfl, ?_⟩; clear cg0 cg1 cg2 cg3 cb0 cb1 cb2 cb3 fg1 fg2 fg3 fb0 fb1 fb2 fb3; have F_ := Zq.i (F.out.is hI_ hb_ hk_); clear F; have F := F_; clear F_; obtain ⟨⟨cg0, cg1, cg2, cg3⟩, ⟨cb0, cb1, cb2, cb3⟩, ⟨fg1, fg2, fg3⟩, fb0, fb1, fb2, fb3⟩ := F.out.cells; clear hI_ hb_ hk_))
      obtain ⟨w8, hw_⟩ : ∃ q, w7.setCell ⟨b, 0, none⟩ (.int .i64 3) = q := ⟨_, rfl⟩
      have F_ := Zq.i (F.out.setb 0 (.int .i64 3) rfl)
      rw [hw_] at F_
      (try rw [hw_])
      clear cg0 cg1 cg2 cg3 cb0 cb1 cb2 cb3 fg1 fg2 fg3 fb0 fb1 fb2 fb3 F hw_
      have F := F_
      clear F_
      obtain ⟨⟨cg0, cg1, cg2, cg3⟩, ⟨cb0, cb1, cb2, cb3⟩, ⟨fg1, fg2, fg3⟩, fb0, fb1, fb2, fb3⟩ := F.out.cells
      go_wp2
      go_meet
      case rel =>
       refine ⟨?_⟩
       have e_ : itA s at2 kind kids = (at2 + 1, false, 3) := by unfold itA; rw [if_pos hk, if_pos h124, if_pos h1]
       rw [e_]
       exact F.out
     have h11 : ((kids.length : Int) == 1) = false := beq_eq_false_iff_ne.2 dq28
     by_cases h3 : kind = 3
     ·have h33 : (kind == 3) = true := beq_iff_eq.2 h3
      go_wp2_with (first | ((with_reducible refine gate_callee (f := 84) rfl ?_); refine goesL_ (some 84) rfl rfl Try.func84 dq24 rfl #[.pointer (some ⟨g, 0, none⟩), .int .u8 124] rfl dq42 ?_; (with_reducible refine (rd_is.calls g s ((at2 : Nat) : Int) false v 124 true s (((at2 + 1 : Nat) : Nat) : Int) false w0 _ F.out.state F.out.bl (rd_is_t Q.out HS.out)).mono ?_); rintro e w7 ⟨rfl, hI_, hb_, hk_⟩; refine ⟨_, rfl, ?_⟩; clear cg0 cg1 cg2 cg3 cb0 cb1 cb2 cb3 fg1 fg2 fg3 fb0 fb1 fb2 fb3; have F_ := Zq.i (F.out.is hI_ hb_ hk_); clear F; have F := F_; clear F_; obtain ⟨⟨cg0, cg1, cg2, cg3⟩, ⟨cb0, cb1, cb2, cb3⟩, ⟨fg1, fg2, fg3⟩, fb0, fb1, fb2, fb3⟩ := F.out.cells; clear hI_ hb_ hk_))
      go_meet
      case rel =>
       refine ⟨?_⟩
       have e_ : itA s at2 kind kids = (at2 + 1, false, kind) := by unfold itA; rw [if_pos hk, if_pos h124, if_neg h1, if_pos h3]
       rw [e_]
       exact F.out
     have h33 : (kind == 3) = false := beq_eq_false_iff_ne.2 h3
     go_wp2_with (first | ((with_reducible refine gate_callee (f := 84) rfl ?_); refine goesL_ (some 84) rfl rfl Try.func84 dq24 rfl #[.pointer (some ⟨g, 0, none⟩), .int .u8 124] rfl dq42 ?_; (with_reducible refine (rd_is.calls g s ((at2 : Nat) : Int) false v 124 true s (((at2 + 1 : Nat) : Nat) : Int) false w0 _ F.out.state F.out.bl (rd_is_t Q.out HS.out)).mono ?_); rintro e w7 ⟨rfl, hI_, hb_, hk_⟩; refine ⟨_, rfl, ?_⟩; clear cg0 cg1 cg2 cg3 cb0 cb1 cb2 cb3 fg1 fg2 fg3 fb0 fb1 fb2 fb3; have F_ := Zq.i (F.out.is hI_ hb_ hk_); clear F; have F := F_; clear F_; obtain ⟨⟨cg0, cg1, cg2, cg3⟩, ⟨cb0, cb1, cb2, cb3⟩, ⟨fg1, fg2, fg3⟩, fb0, fb1, fb2, fb3⟩ := F.out.cells; clear hI_ hb_ hk_))
     have F_ := Zq.i (F.out.set2 true)
     clear F
     have F := F_
     go_meet
     case rel =>
      refine ⟨?_⟩
      have e_ : itA s at2 kind kids = (at2 + 1, true, kind) := by unfold itA; rw [if_pos hk, if_pos h124, if_neg h1, if_neg h3]
      rw [e_]
      exact F.out
    | false =>
     have Q := Zq.i h124
     by_cases h3 : kind = 3
     ·have h33 : (kind == 3) = true := beq_iff_eq.2 h3
      go_wp2_with (first | ((with_reducible refine gate_callee (f := 84) rfl ?_); refine goesL_ (some 84) rfl rfl Try.func84 dq24 rfl #[.pointer (some ⟨g, 0, none⟩), .int .u8 124] rfl dq42 ?_; (with_reducible refine (rd_is.calls g s ((at2 : Nat) : Int) false v 124 false s ((at2 : Nat) : Int) false w0 _ F.out.state F.out.bl (rd_is_f Q.out)).mono ?_); rintro e w7 ⟨rfl, hI_, hb_, hk_⟩; refine ⟨_, rfl, ?_⟩; clear cg0 cg1 cg2 cg3 cb0 cb1 cb2 cb3 fg1 fg2 fg3 fb0 fb1 fb2 fb3; have F_ := Zq.i (F.out.is hI_ hb_ hk_); clear F; have F := F_; clear F_; obtain ⟨⟨cg0, cg1, cg2, cg3⟩, ⟨cb0, cb1, cb2, cb3⟩, ⟨fg1, fg2, fg3⟩, fb0, fb1, fb2, fb3⟩ := F.out.cells; clear hI_ hb_ hk_))
      have F_ := Zq.i (F.out.set2 true)
      clear F
      have F := F_
      go_meet
      case rel =>
       refine ⟨?_⟩
       have e_ : itA s at2 kind kids = (at2, true, kind) := by unfold itA; rw [if_pos hk, if_neg (by rw [h124]; decide), if_pos h3]
       rw [e_]
       exact F.out
     have h33 : (kind == 3) = false := beq_eq_false_iff_ne.2 h3
     cases h44 : isN s at2 false 44 with
     | true =>
      have Q2 := Zq.i h44
      go_wp2_with (first | ((with_reducible refine gate_callee (f := 84) rfl ?_); refine goesL_ (some 84) rfl rfl Try.func84 dq24 rfl #[.pointer (some ⟨g, 0, none⟩), .int .u8 124] rfl dq42 ?_; (with_reducible refine (rd_is.calls g s ((at2 : Nat) : Int) false v 124 false s ((at2 : Nat) : Int) false w0 _ F.out.state F.out.bl (rd_is_f Q.out)).mono ?_); rintro e w7 ⟨rfl, hI_, hb_, hk_⟩; refine ⟨_, rfl, ?_⟩; clear cg0 cg1 cg2 cg3 cb0 cb1 cb2 cb3 fg1 fg2 fg3 fb0 fb1 fb2 fb3; have F_ := Zq.i (F.out.is hI_ hb_ hk_); clear F; have F := F_; clear F_; obtain ⟨⟨cg0, cg1, cg2, cg3⟩, ⟨cb0, cb1, cb2, cb3⟩, ⟨fg1, fg2, fg3⟩, fb0, fb1, fb2, fb3⟩ := F.out.cells; clear hI_ hb_ hk_) | (go_at_call 84; (with_reducible refine (rd_is.calls g s ((at2 : Nat) : Int) false v 44 true s (((at2 + 1 : Nat) : Nat) : Int) false w0 _ F.out.state F.out.bl (rd_is_t Q2.out HS.out)).mono ?_); rintro e w8 ⟨rfl, hI_, hb_, hk_⟩; clear cg0 cg1 cg2 cg3 cb0 cb1 cb2 cb3 fg1 fg2 fg3 fb0 fb1 fb2 fb3; have F_ := Zq.i (F.out.is hI_ hb_ hk_); clear F; have F := F_; clear F_; obtain ⟨⟨cg0, cg1, cg2, cg3⟩, ⟨cb0, cb1, cb2, cb3⟩, ⟨fg1, fg2, fg3⟩, fb0, fb1, fb2, fb3⟩ := F.out.cells; clear hI_ hb_ hk_))
      go_meet
      case rel =>
       refine ⟨?_⟩
       have e_ : itA s at2 kind kids = (at2 + 1, false, kind) := by unfold itA; rw [if_pos hk, if_neg (by rw [h124]; decide), if_neg h3, if_pos h44]
       rw [e_]
       exact F.out
     | false =>
      have Q2 := Zq.i h44
      go_wp2_with (first | ((with_reducible refine gate_callee (f := 84) rfl ?_); refine goesL_ (some 84) rfl rfl Try.func84 dq24 rfl #[.pointer (some ⟨g, 0, none⟩), .int .u8 124] rfl dq42 ?_; (with_reducible refine (rd_is.calls g s ((at2 : Nat) : Int) false v 124 false s ((at2 : Nat) : Int) false w0 _ F.out.state F.out.bl (rd_is_f Q.out)).mono ?_); rintro e w7 ⟨rfl, hI_, hb_, hk_⟩; refine ⟨_, rfl, ?_⟩; clear cg0 cg1 cg2 cg3 cb0 cb1 cb2 cb3 fg1 fg2 fg3 fb0 fb1 fb2 fb3; have F_ := Zq.i (F.out.is hI_ hb_ hk_); clear F; have F := F_; clear F_; obtain ⟨⟨cg0, cg1, cg2, cg3⟩, ⟨cb0, cb1, cb2, cb3⟩, ⟨fg1, fg2, fg3⟩, fb0, fb1, fb2, fb3⟩ := F.out.cells; clear hI_ hb_ hk_) | (go_at_call 84; (with_reducible refine (rd_is.calls g s ((at2 : Nat) : Int) false v 44 false s ((at2 : Nat) : Int) false w0 _ F.out.state F.out.bl (rd_is_f Q2.out)).mono ?_); rintro e w8 ⟨rfl, hI_, hb_, hk_⟩; clear cg0 cg1 cg2 cg3 cb0 cb1 cb2 cb3 fg1 fg2 fg3 fb0 fb1 fb2 fb3; have F_ := Zq.i (F.out.is hI_ hb_ hk_); clear F; have F := F_; clear F_; obtain ⟨⟨cg0, cg1, cg2, cg3⟩, ⟨cb0, cb1, cb2, cb3⟩, ⟨fg1, fg2, fg3⟩, fb0, fb1, fb2, fb3⟩ := F.out.cells; clear hI_ hb_ hk_))
      have F_ := Zq.i (F.out.set2 true)
      clear F
      have F := F_
      go_meet
      case rel =>
       refine ⟨?_⟩
       have e_ : itA s at2 kind kids = (at2, true, kind) := by unfold itA; rw [if_pos hk, if_neg (by rw [h124]; decide), if_neg h3, if_neg (by rw [h44]; decide)]
       rw [e_]
       exact F.out
 | false =>
  rw [if_neg (by rw [h40]; decide)] at H
  have Q40 := Zq.i h40
  clear h40
  cases h35 : isN s at_ bad 35 with
  | true =>
   rw [if_pos h35] at H
   have Q35 := Zq.i h35
   have HT := Zq.i H
   clear H h35
   go_wp2_with (first | ((with_reducible refine gate_callee (f := 84) rfl ?_); refine goesL_ (some 62) rfl rfl Try.func84 dq24 rfl #[.pointer (some ⟨g, 0, none⟩), .int .u8 40] rfl dq42 ?_; (with_reducible refine (rd_is.calls g s ((at_ : Nat) : Int) bad v 40 false s ((at_ : Nat) : Int) bad w0 _ F.out.state F.out.bl (rd_is_f Q40.out)).mono ?_); rintro e w4 ⟨rfl, hI_, hb_, hk_⟩; refine ⟨_, rfl, ?_⟩; clear cg0 cg1 cg2 cg3 cb0 cb1 cb2 cb3 fg1 fg2 fg3 fb0 fb1 fb2 fb3; have F_ := Zq.i (F.out.is hI_ hb_ hk_); clear F; have F := F_; clear F_; obtain ⟨⟨cg0, cg1, cg2, cg3⟩, ⟨cb0, cb1, cb2, cb3⟩, ⟨fg1, fg2, fg3⟩, fb0, fb1, fb2, fb3⟩ := F.out.cells; clear hI_ hb_ hk_) | ((with_reducible refine gate_callee (f := 84) rfl ?_); refine goesL_ (some 121) rfl rfl Try.func84 dq24 rfl #[.pointer (some ⟨g, 0, none⟩), .int .u8 35] rfl dq42 ?_; (with_reducible refine (rd_is.calls g s ((at_ : Nat) : Int) bad v 35 true s (((at_ + 1 : Nat) : Nat) : Int) bad w0 _ F.out.state F.out.bl (rd_is_t Q35.out HS.out)).mono ?_); rintro e w5 ⟨rfl, hI_, hb_, hk_⟩; refine ⟨_, rfl, ?_⟩; clear cg0 cg1 cg2 cg3 cb0 cb1 cb2 cb3 fg1 fg2 fg3 fb0 fb1 fb2 fb3; have F_ := Zq.i (F.out.is hI_ hb_ hk_); clear F; have F := F_; clear F_; obtain ⟨⟨cg0, cg1, cg2, cg3⟩, ⟨cb0, cb1, cb2, cb3⟩, ⟨fg1, fg2, fg3⟩, fb0, fb1, fb2, fb3⟩ := F.out.cells; clear hI_ hb_ hk_))
   have F_ := Zq.i (F.out.setb 0 (.int .i64 4) rfl)
   clear F
   have F := F_
   go_meet
   case rel => exact ⟨ow, at_ + 1, bad, v, out, 4, _, _, [], F, HT⟩
  | false =>
   rw [if_neg (by rw [h35]; decide)] at H
   have Q35 := Zq.i h35
   clear h35
   obtain ⟨e1, he, H⟩ := Option.bind_eq_some_iff.1 H
   by_cases hle : at_ ≤ e1 ∧ e1 ≤ s.size
   rotate_left
   ·rw [if_neg hle] at H
    cases H
   rw [if_pos hle] at H
   obtain ⟨ok, hok, H⟩ := Option.bind_eq_some_iff.1 H
   have HE := Zq.i he
   have HOK := Zq.i hok
   have HT := Zq.i H
   have HLE := Zq.i hle
   clear H he hok hle
   go_upto_block 1 with (first | ((with_reducible refine gate_callee (f := 84) rfl ?_); refine goesL_ (some 62) rfl rfl Try.func84 dq24 rfl #[.pointer (some ⟨g, 0, none⟩), .int .u8 40] rfl dq42 ?_; (with_reducible refine (rd_is.calls g s ((at_ : Nat) : Int) bad v 40 false s ((at_ : Nat) : Int) bad w0 _ F.out.state F.out.bl (rd_is_f Q40.out)).mono ?_); rintro e w4 ⟨rfl, hI_, hb_, hk_⟩; refine ⟨_, rfl, ?_⟩; clear cg0 cg1 cg2 cg3 cb0 cb1 cb2 cb3 fg1 fg2 fg3 fb0 fb1 fb2 fb3; have F_ := Zq.i (F.out.is hI_ hb_ hk_); clear F; have F := F_; clear F_; obtain ⟨⟨cg0, cg1, cg2, cg3⟩, ⟨cb0, cb1, cb2, cb3⟩, ⟨fg1, fg2, fg3⟩, fb0, fb1, fb2, fb3⟩ := F.out.cells; clear hI_ hb_ hk_) | ((with_reducible refine gate_callee (f := 84) rfl ?_); refine goesL_ (some 121) rfl rfl Try.func84 dq24 rfl #[.pointer (some ⟨g, 0, none⟩), .int .u8 35] rfl dq42 ?_; (with_reducible refine (rd_is.calls g s ((at_ : Nat) : Int) bad v 35 false s ((at_ : Nat) : Int) bad w0 _ F.out.state F.out.bl (rd_is_f Q35.out)).mono ?_); rintro e w5 ⟨rfl, hI_, hb_, hk_⟩; refine ⟨_, rfl, ?_⟩; clear cg0 cg1 cg2 cg3 cb0 cb1 cb2 cb3 fg1 fg2 fg3 fb0 fb1 fb2 fb3; have F_ := Zq.i (F.out.is hI_ hb_ hk_); clear F; have F := F_; clear F_; obtain ⟨⟨cg0, cg1, cg2, cg3⟩, ⟨cb0, cb1, cb2, cb3⟩, ⟨fg1, fg2, fg3⟩, fb0, fb1, fb2, fb3⟩ := F.out.cells; clear hI_ hb_ hk_))
   go_cut [6] (fun v6 wc => Zq (Fr w0 w wc (aside owC) ow g b s ((e1 : Nat) : Int) bad v v out 1 (⟨#[]⟩ : ByteArray) (.slice none 0 0) (.slice none 0 0) [] 0))
   case rest =>
    clear cg0 cg1 cg2 cg3 cb0 cb1 cb2 cb3 fg1 fg2 fg3 fb0 fb1 fb2 fb3 F HE
    have F := hcut
    clear hcut
    obtain ⟨⟨cg0, cg1, cg2, cg3⟩, ⟨cb0, cb1, cb2, cb3⟩, ⟨fg1, fg2, fg3⟩, fb0, fb1, fb2, fb3⟩ := F.out.cells
    have hp1 : ((0 : Int) ≤ ((at_ : Nat) : Int)) = True := eq_true dq28
    have hq1 : (((at_ : Nat) : Int) ≤ ((e1 : Nat) : Int)) = True := eq_true (by have := HLE.out; omega)
    have hr1 : (((e1 : Nat) : Int) ≤ (s.size : Int)) = True := eq_true (by have := HLE.out; omega)
    go_upto_region 5 with (fail)
    have hc1 := cg1
    have hc0 := cg0
    clear cg0 cg1 cg2 cg3 cb0 cb1 cb2 cb3 fg1 fg2 fg3 fb0 fb1 fb2 fb3
    have F_ := Zq.i (F.out.below (below_drew (Below.refl _ _)))
    clear F
    have F := F_
    clear F_
    refine start_ (n := 12) (S := fun w' => w'.cell? ⟨g, 0, none⟩ = some (.string s) ∧ w'.cell? ⟨g, 1, none⟩ = some (.int .i64 ((e1 : Nat) : Int))) (ds := [11]) (bitsA 12 0) dq24 rfl rfl ⟨hc0, hc1⟩ (fun hHeld => ?_); refine with_tabW rd_item.tab5 rd_item.bits5 (fun HT_ HW_ => ?_)
    clear hc1 hc0
    generalize wc.drew = w9 at F hHeld ⊢
    refine pureA (i := 0) (N := some 42) (bitsA 12 1) ?_
    refine pureA (i := 1) (N := some 43) (bitsA 12 3) ?_
    refine pureA (i := 2) (N := some 44) (bitsA 12 7) ?_
    refine takeA2 (i := 3) (N := some 45) (bitsA 12 15) ?_
    refine pureA (i := 4) (N := some 46) (bitsA 12 31) ?_
    refine pureA (i := 5) (N := some 47) (bitsA 12 63) ?_
    refine pureA (i := 6) (N := some 48) (bitsA 12 127) ?_
    refine pureA (i := 7) (N := some 49) (bitsA 12 255) ?_
    refine takeA2 (i := 8) (N := some 50) (bitsA 12 511) ?_
    refine pureA (i := 9) (N := some 51) (bitsA 12 1023) ?_
    refine pureA (i := 10) (N := some 52) (bitsA 12 2047) ?_
    refine last_ (i := 11) (N := none) (bitsA 12 4095) rfl rfl (one_of HT_.out dq24) dq25 (fun K hK => ?_)
    obtain ⟨⟨cg0, cg1, cg2, cg3⟩, ⟨cb0, cb1, cb2, cb3⟩, ⟨fg1, fg2, fg3⟩, fb0, fb1, fb2, fb3⟩ := F.out.cells
    refine skip_ (w1 := w9.setCell ⟨b, 1, none⟩ (.string (s.extract at_ e1))) dq31 rfl ?_ ?_
    ·go_simp
     try rfl
    clear cg0 cg1 cg2 cg3 cb0 cb1 cb2 cb3 fg1 fg2 fg3 fb0 fb1 fb2 fb3
    have F_ := Zq.i (F.out.setb 1 (.string (s.extract at_ e1)) rfl)
    clear F
    have F := F_
    clear F_
    generalize w9.setCell ⟨b, 1, none⟩ (.string (s.extract at_ e1)) = w10 at F ⊢
    refine hK.out _ _ ?_
    clear hK K hHeld
    refine done_ (done_of HT_.out dq24) ?_
    obtain ⟨⟨cg0, cg1, cg2, cg3⟩, ⟨cb0, cb1, cb2, cb3⟩, ⟨fg1, fg2, fg3⟩, fb0, fb1, fb2, fb3⟩ := F.out.cells
    cases ok with
    | true =>
     go_wp2_with (first | ((with_reducible refine gate_callee (f := 78) rfl ?_); refine goesL_ (some 55) rfl rfl Try.func78 dq24 rfl #[.string (s.extract at_ e1)] rfl dq42 ?_; (with_reducible refine (spec_NameOk.calls k (s.extract at_ e1) true _ HOK.out).mono ?_); rintro e w11 ⟨rfl, hd_⟩; refine ⟨_, rfl, ?_⟩; clear cg0 cg1 cg2 cg3 cb0 cb1 cb2 cb3 fg1 fg2 fg3 fb0 fb1 fb2 fb3; have F_ := Zq.i (F.out.drawn hd_); clear F; have F := F_; clear F_; obtain ⟨⟨cg0, cg1, cg2, cg3⟩, ⟨cb0, cb1, cb2, cb3⟩, ⟨fg1, fg2, fg3⟩, fb0, fb1, fb2, fb3⟩ := F.out.cells; clear hd_))
     go_meet
     case rel => exact ⟨ow, e1, bad, v, out, 1, _, _, [], F, HT⟩
    | false =>
     go_wp2_with (first | ((with_reducible refine gate_callee (f := 78) rfl ?_); refine goesL_ (some 55) rfl rfl Try.func78 dq24 rfl #[.string (s.extract at_ e1)] rfl dq42 ?_; (with_reducible refine (spec_NameOk.calls k (s.extract at_ e1) false _ HOK.out).mono ?_); rintro e w11 ⟨rfl, hd_⟩; refine ⟨_, rfl, ?_⟩; clear cg0 cg1 cg2 cg3 cb0 cb1 cb2 cb3 fg1 fg2 fg3 fb0 fb1 fb2 fb3; have F_ := Zq.i (F.out.drawn hd_); clear F; have F := F_; clear F_; obtain ⟨⟨cg0, cg1, cg2, cg3⟩, ⟨cb0, cb1, cb2, cb3⟩, ⟨fg1, fg2, fg3⟩, fb0, fb1, fb2, fb3⟩ := F.out.cells; clear hd_))
     have F_ := Zq.i (F.out.set2 true)
     clear F
     have F := F_
     go_meet
     case rel => exact ⟨ow, e1, true, v, out, 1, _, _, [], F, HT⟩
   clear cg0 cg1 cg2 cg3 cb0 cb1 cb2 cb3 fg1 fg2 fg3 fb0 fb1 fb2 fb3
   go_wp2_with (fail)
   go_loopg [34] k (fun gg s34 wr => ∃ (kq : Nat) (at2 : Nat), kq ≤ gg ∧ Zq (Fr w0 w wr (aside owC) ow g b s ((at2 : Nat) : Int) bad v v out 1 (⟨#[]⟩ : ByteArray) (.slice none 0 0) (.slice none 0 0) [] 0) ∧ Zq (itS kq s at2 = some e1))
   case atStart => exact ⟨k, _, Nat.le_refl _, F, HE⟩
   clear F HE
   obtain ⟨kq, at2, hgg, F, HE⟩ := hrel
   have HGG := Zq.i hgg
   clear hgg
   cases kq with
   | zero => exact absurd HE.out (by simp [itS])
   | succ q =>
   have H := HE.out
   clear HE
   unfold itS at H
   obtain ⟨⟨cg0, cg1, cg2, cg3⟩, ⟨cb0, cb1, cb2, cb3⟩, ⟨fg1, fg2, fg3⟩, fb0, fb1, fb2, fb3⟩ := F.out.cells
   by_cases hlt : at2 < s.size
   rotate_left
   ·rw [if_neg hlt] at H
    obtain rfl : at2 = e1 := oI H
    have hlt1 : decide (((at2 : Nat) : Int) < (s.size : Int)) = false := dF dq28
    have hq1 : (((at2 : Nat) : Int) < (s.size : Int)) = False := eq_false dq28
    clear H hlt
    go_upto_region 3 with (fail)
    have hc1 := cg1
    have hc0 := cg0
    clear cg0 cg1 cg2 cg3 cb0 cb1 cb2 cb3 fg1 fg2 fg3 fb0 fb1 fb2 fb3
    have F_ := Zq.i (F.out.below (below_drew (Below.refl _ _)))
    clear F
    have F := F_
    clear F_
    refine start_ (n := 22) (S := fun w' => w'.cell? ⟨g, 1, none⟩ = some (.int .i64 ((at2 : Nat) : Int)) ∧ w'.cell? ⟨g, 0, none⟩ = some (.string s)) (ds := []) (bitsA 22 0) dq24 rfl rfl ⟨hc1, hc0⟩ (fun hHeld => ?_); refine with_tabW rd_item.tab3 rd_item.bits3 (fun HT_ HW_ => ?_)
    clear hc1 hc0
    generalize wr.drew = w9 at F hHeld ⊢
    refine pureA (i := 0) (N := some 13) (bitsA 22 1) ?_
    refine pureA (i := 1) (N := some 14) (bitsA 22 3) ?_
    refine pureA (i := 2) (N := some 15) (bitsA 22 7) ?_
    refine takeA2 (i := 3) (N := some 16) (bitsA 22 15) ?_
    refine pureA (i := 4) (N := some 17) (bitsA 22 31) ?_
    refine pureA (i := 5) (N := some 18) (bitsA 22 63) ?_
    refine pureA (i := 6) (N := some 19) (bitsA 22 127) ?_
    refine takeA2 (i := 7) (N := some 20) (bitsA 22 255) ?_
    refine pureA (i := 8) (N := some 21) (bitsA 22 511) ?_
    refine pureA (i := 9) (N := some 22) (bitsA 22 1023) ?_
    refine pureA (i := 10) (N := some 23) (bitsA 22 2047) ?_
    refine pureN (i := 11) (N := some 24) (bitsA 22 4095) ?_
    refine pureN (i := 12) (N := some 25) (bitsA 22 8191) ?_
    refine pureN (i := 13) (N := some 26) (bitsA 22 16383) ?_
    refine pureN (i := 14) (N := some 27) (bitsA 22 32767) ?_
    refine pureN (i := 15) (N := some 28) (bitsA 22 65535) ?_
    refine pureN (i := 16) (N := some 29) (bitsA 22 131071) ?_
    refine pureN (i := 17) (N := some 30) (bitsA 22 262143) ?_
    refine pureN (i := 18) (N := some 31) (bitsA 22 524287) ?_
    refine pureN (i := 19) (N := some 32) (bitsA 22 1048575) ?_
    refine pureN (i := 20) (N := some 33) (bitsA 22 2097151) ?_
    refine pureA (i := 21) (N := some 34) (bitsA 22 4194303) ?_
    refine done_ (done_of HT_.out dq24) ?_
    clear hHeld
    go_wp2
    go_meet
    case rel => exact F
   rw [if_pos hlt] at H
   obtain ⟨m, hm, H⟩ := Option.bind_eq_some_iff.1 H
   have HM := Zq.i hm
   have hlt1 : decide (((at2 : Nat) : Int) < (s.size : Int)) = true := dT dq28
   have HBT := Zq.i (byte_bt hlt)
   have hp1 : ((0 : Int) ≤ ((at2 : Nat) : Int)) = True := eq_true dq28
   have hq1 : (((at2 : Nat) : Int) < (s.size : Int)) = True := eq_true dq28
   have HLT := Zq.i hlt
   clear hm
   go_upto_region 3 with (fail)
   cases m with
   | true =>
    have HE := Zq.i (show itS q s (at2 + 1) = some e1 from H)
    clear H
    have hc1 := cg1
    have hc0 := cg0
    clear cg0 cg1 cg2 cg3 cb0 cb1 cb2 cb3 fg1 fg2 fg3 fb0 fb1 fb2 fb3
    have F_ := Zq.i (F.out.below (below_drew (Below.refl _ _)))
    clear F
    have F := F_
    clear F_
    refine start_ (n := 22) (S := fun w' => w'.cell? ⟨g, 1, none⟩ = some (.int .i64 ((at2 : Nat) : Int)) ∧ w'.cell? ⟨g, 0, none⟩ = some (.string s)) (ds := []) (bitsA 22 0) dq24 rfl rfl ⟨hc1, hc0⟩ (fun hHeld => ?_); refine with_tabW rd_item.tab3 rd_item.bits3 (fun HT_ HW_ => ?_)
    clear hc1 hc0
    generalize wr.drew = w9 at F hHeld ⊢
    refine pureA (i := 0) (N := some 13) (bitsA 22 1) ?_
    refine pureA (i := 1) (N := some 14) (bitsA 22 3) ?_
    refine pureA (i := 2) (N := some 15) (bitsA 22 7) ?_
    refine takeA2 (i := 3) (N := some 16) (bitsA 22 15) ?_
    refine pureA (i := 4) (N := some 17) (bitsA 22 31) ?_
    refine pureA (i := 5) (N := some 18) (bitsA 22 63) ?_
    refine pureA (i := 6) (N := some 19) (bitsA 22 127) ?_
    refine takeA2 (i := 7) (N := some 20) (bitsA 22 255) ?_
    refine pureA (i := 8) (N := some 21) (bitsA 22 511) ?_
    refine pureA (i := 9) (N := some 22) (bitsA 22 1023) ?_
    refine pureA (i := 10) (N := some 23) (bitsA 22 2047) ?_
    refine pureA (i := 11) (N := some 24) (bitsA 22 4095) ?_
    refine pureA (i := 12) (N := some 25) (bitsA 22 8191) ?_
    refine pureA (i := 13) (N := some 26) (bitsA 22 16383) ?_
    refine takeA2 (i := 14) (N := some 27) (bitsA 22 32767) ?_
    refine pureA (i := 15) (N := some 28) (bitsA 22 65535) ?_
    refine pureA (i := 16) (N := some 29) (bitsA 22 131071) ?_
    refine pureA (i := 17) (N := some 30) (bitsA 22 262143) ?_
    refine takeA2 (i := 18) (N := some 31) (bitsA 22 524287) ?_
    refine pureA (i := 19) (N := some 32) (bitsA 22 1048575) ?_
    rw [HBT.out]
    refine one_ (i := 20) (N := some 33) (bitsA 22 2097151) rfl rfl (one_of HT_.out dq24) dq25 (fun K hK => ?_)
    refine goes_ Try.func85 dq24 rfl #[.int .u8 (bt s ((at2 : Nat) : Int))] dq31 rfl rfl dq42 ?_
    refine (spec_l1More.calls (bt s ((at2 : Nat) : Int)) true w9 HM.out).mono ?_
    rintro e w10 ⟨rfl, hd_⟩
    refine ⟨_, rfl, ?_⟩
    have F_ := Zq.i (F.out.drawn hd_)
    clear F
    have F := F_
    clear F_ hd_ hHeld
    have HS_ := Zq.i (show (fun w' => w'.cell? ⟨g, 1, none⟩ = some (.int .i64 ((at2 : Nat) : Int)) ∧ w'.cell? ⟨g, 0, none⟩ = some (.string s)) w10 from ⟨F.out.cells.1.2.1, F.out.cells.1.1⟩)
    refine hK.out _ _ HS_.out (fun hHeld => ?_)
    clear hK K
    refine norm_ (a' := ?_) ?_ ?_
    rotate_left
    ·exact (dAct : Act.put _ (some 33) _ = _)
    clear HS_
    refine pureA (i := 21) (N := some 34) (bitsA 22 4194303) ?_
    refine done_ (done_of HT_.out dq24) ?_
    clear hHeld
    obtain ⟨⟨cg0, cg1, cg2, cg3⟩, ⟨cb0, cb1, cb2, cb3⟩, ⟨fg1, fg2, fg3⟩, fb0, fb1, fb2, fb3⟩ := F.out.cells
    go_wp2
    have F_ := Zq.i (F.out.set1 (wrap64 (((at2 : Nat) : Int) + 1)))
    have hw_ : wrap64 (((at2 : Nat) : Int) + 1) = ((at2 + 1 : Nat) : Int) := by have h1_ := HLT.out; have h2_ := HS.out; unfold wrap64; omega
    rw [hw_] at F_
    (try rw [hw_])
    clear F
    have F := F_
    go_roundg q
    case measure => have := HGG.out; omega
    case rel => exact ⟨q, at2 + 1, Nat.le_refl _, F, HE⟩
   | false =>
    obtain rfl : at2 = e1 := oI H
    clear H
    have hc1 := cg1
    have hc0 := cg0
    clear cg0 cg1 cg2 cg3 cb0 cb1 cb2 cb3 fg1 fg2 fg3 fb0 fb1 fb2 fb3
    have F_ := Zq.i (F.out.below (below_drew (Below.refl _ _)))
    clear F
    have F := F_
    clear F_
    refine start_ (n := 22) (S := fun w' => w'.cell? ⟨g, 1, none⟩ = some (.int .i64 ((at2 : Nat) : Int)) ∧ w'.cell? ⟨g, 0, none⟩ = some (.string s)) (ds := []) (bitsA 22 0) dq24 rfl rfl ⟨hc1, hc0⟩ (fun hHeld => ?_); refine with_tabW rd_item.tab3 rd_item.bits3 (fun HT_ HW_ => ?_)
    clear hc1 hc0
    generalize wr.drew = w9 at F hHeld ⊢
    refine pureA (i := 0) (N := some 13) (bitsA 22 1) ?_
    refine pureA (i := 1) (N := some 14) (bitsA 22 3) ?_
    refine pureA (i := 2) (N := some 15) (bitsA 22 7) ?_
    refine takeA2 (i := 3) (N := some 16) (bitsA 22 15) ?_
    refine pureA (i := 4) (N := some 17) (bitsA 22 31) ?_
    refine pureA (i := 5) (N := some 18) (bitsA 22 63) ?_
    refine pureA (i := 6) (N := some 19) (bitsA 22 127) ?_
    refine takeA2 (i := 7) (N := some 20) (bitsA 22 255) ?_
    refine pureA (i := 8) (N := some 21) (bitsA 22 511) ?_
    refine pureA (i := 9) (N := some 22) (bitsA 22 1023) ?_
    refine pureA (i := 10) (N := some 23) (bitsA 22 2047) ?_
    refine pureA (i := 11) (N := some 24) (bitsA 22 4095) ?_
    refine pureA (i := 12) (N := some 25) (bitsA 22 8191) ?_
    refine pureA (i := 13) (N := some 26) (bitsA 22 16383) ?_
    refine takeA2 (i := 14) (N := some 27) (bitsA 22 32767) ?_
    refine pureA (i := 15) (N := some 28) (bitsA 22 65535) ?_
    refine pureA (i := 16) (N := some 29) (bitsA 22 131071) ?_
    refine pureA (i := 17) (N := some 30) (bitsA 22 262143) ?_
    refine takeA2 (i := 18) (N := some 31) (bitsA 22 524287) ?_
    refine pureA (i := 19) (N := some 32) (bitsA 22 1048575) ?_
    rw [HBT.out]
    refine one_ (i := 20) (N := some 33) (bitsA 22 2097151) rfl rfl (one_of HT_.out dq24) dq25 (fun K hK => ?_)
    refine goes_ Try.func85 dq24 rfl #[.int .u8 (bt s ((at2 : Nat) : Int))] dq31 rfl rfl dq42 ?_
    refine (spec_l1More.calls (bt s ((at2 : Nat) : Int)) false w9 HM.out).mono ?_
    rintro e w10 ⟨rfl, hd_⟩
    refine ⟨_, rfl, ?_⟩
    have F_ := Zq.i (F.out.drawn hd_)
    clear F
    have F := F_
    clear F_ hd_ hHeld
    have HS_ := Zq.i (show (fun w' => w'.cell? ⟨g, 1, none⟩ = some (.int .i64 ((at2 : Nat) : Int)) ∧ w'.cell? ⟨g, 0, none⟩ = some (.string s)) w10 from ⟨F.out.cells.1.2.1, F.out.cells.1.1⟩)
    refine hK.out _ _ HS_.out (fun hHeld => ?_)
    clear hK K
    refine norm_ (a' := ?_) ?_ ?_
    rotate_left
    ·exact (dAct : Act.put _ (some 33) _ = _)
    clear HS_
    refine pureA (i := 21) (N := some 34) (bitsA 22 4194303) ?_
    refine done_ (done_of HT_.out dq24) ?_
    clear hHeld
    go_wp2
    go_meet
    case rel => exact F
def spec_ReadModel.f (k : Nat) (a0 : ByteArray) : Option (List SPm × Bool) :=
 if a0.toList = ([] : List UInt8) then some ([], false) else if bt a0 0 = 40 then (if a0.size ≤ 20000 then ((itF k a0 0 false [] 1).bind fun x => if x.2.2.1 = true then some ([], false) else if x.2.1 < a0.size then some ([], false) else (spec_ParticleOk.f k x.2.2.2).bind fun ok => if ok = true then some (x.2.2.2, true) else some ([], false)) else some ([], false)) else some ([], false)
theorem spec_ReadModel.calls (k : Nat) (a0 : ByteArray) (r1 : List (S42)) (r2 : Bool) (w : World) (h : spec_ReadModel.f k a0 = some (r1, r2)) :
  Calls Try.prog 9 #[.string a0] w fun e w' => ∃ v0_ : Value, e = .returned (.tuple #[v0_, .bool r2]) ∧ Kd.S k42 42 w' w.heap.size (fun _ => True) v0_ r1 ∧ Below w.heap.size w w' := by
 have H := h
 unfold spec_ReadModel.f at H
 clear h
 by_cases c3 : a0.toList = ([] : List UInt8)
 ·rw [if_pos c3] at H
  have c3b0 := bE c3
  have c3b1 := bQ c3
  clear c3
  obtain ⟨rfl, rfl⟩ := oP H
  go_enter Try.func9, Try.ntmps9
  go_wp2_with (first | ((with_reducible refine gate_dst (N := 7) rfl ?_); refine box_event ?hg (N := 7) ?hd (cs := #[.string a0, .int .i64 0, .bool false, .slice none 0 0]) (t := 54) ?hr ?_; (case hd => rfl); (case hg => rfl); (case hr => exact dq0); intro g hg w1 hbox hb; have HGX := Zq.i hg; have HBX := Zq.i hbox; have HB := Zq.i hb; clear hg hbox hb))
  go_ret2
  exact ⟨_, rfl, Kd.S_nil _ _ _ _ _, HB.out⟩
 rw [if_neg c3] at H
 have hz : a0.size ≠ 0 := fun e => c3 (by
  have h_ : a0.data.toList.length = 0 := by rw [Array.length_toList]; exact e
  rw [ByteArray.toList_eq]; exact List.eq_nil_of_length_eq_zero h_)
 have c3b0 := bN c3
 have c3b1 := bO c3
 have c5b0 : decide (0 < (a0.size : Int)) = true := dT dq28
 have c5b1 : decide (0 < a0.size) = true := dT dq28
 have hx6 : ∀ h : 0 < a0.size, ((a0[0]'h).toNat : Int) = bt a0 0 := bt_at a0 0
 have qi6 : (0 < (a0.size : Int)) = True := eq_true dq28
 have q6 : (0 < a0.size) = True := eq_true dq28
 clear c3 hz
 by_cases c7 : bt a0 0 = 40
 rotate_left
 ·rw [if_neg c7] at H
  have c7b0 := bN c7
  have c7b1 := bO c7
  clear c7
  obtain ⟨rfl, rfl⟩ := oP H
  go_enter Try.func9, Try.ntmps9
  go_wp2_with (first | ((with_reducible refine gate_dst (N := 7) rfl ?_); refine box_event ?hg (N := 7) ?hd (cs := #[.string a0, .int .i64 0, .bool false, .slice none 0 0]) (t := 54) ?hr ?_; (case hd => rfl); (case hg => rfl); (case hr => exact dq0); intro g hg w1 hbox hb; have HGX := Zq.i hg; have HBX := Zq.i hbox; have HB := Zq.i hb; clear hg hbox hb))
  go_ret2
  exact ⟨_, rfl, Kd.S_nil _ _ _ _ _, HB.out⟩
 rw [if_pos c7] at H
 have c7b0 := bE c7
 have c7b1 := bQ c7
 clear c7
 by_cases c8 : a0.size ≤ 20000
 rotate_left
 ·rw [if_neg c8] at H
  have c8b0 : decide ((a0.size : Int) > 20000) = true := dT dq28
  have c8b1 : (a0.size : Int) > 20000 := by omega
  clear c8
  obtain ⟨rfl, rfl⟩ := oP H
  go_enter Try.func9, Try.ntmps9
  go_wp2_with (first | ((with_reducible refine gate_dst (N := 7) rfl ?_); refine box_event ?hg (N := 7) ?hd (cs := #[.string a0, .int .i64 0, .bool false, .slice none 0 0]) (t := 54) ?hr ?_; (case hd => rfl); (case hg => rfl); (case hr => exact dq0); intro g hg w1 hbox hb; have HGX := Zq.i hg; have HBX := Zq.i hbox; have HB := Zq.i hb; clear hg hbox hb))
  go_ret2
  exact ⟨_, rfl, Kd.S_nil _ _ _ _ _, HB.out⟩
 rw [if_pos c8] at H
 have c8b0 : decide ((a0.size : Int) > 20000) = false := dF dq28
 have c8b1 : ¬ ((a0.size : Int) > 20000) := by omega
 have HSZ := Zq.i c8
 clear c8
 obtain ⟨⟨r3, at', bad', out'⟩, hit, H⟩ := Option.bind_eq_some_iff.1 H
 have HIT := Zq.i hit
 clear hit
 dsimp only at H
 cases bad' with
 | true =>
  rw [if_pos rfl] at H
  obtain ⟨rfl, rfl⟩ := oP H
  go_enter Try.func9, Try.ntmps9
  go_wp2_with (first | ((with_reducible refine gate_dst (N := 7) rfl ?_); refine box_event ?hg (N := 7) ?hd (cs := #[.string a0, .int .i64 0, .bool false, .slice none 0 0]) (t := 54) ?hr ?_; (case hd => rfl); (case hg => rfl); (case hr => exact dq0); intro g hg w1 hbox hb; have HGX := Zq.i hg; have HBX := Zq.i hbox; have HB := Zq.i hb; clear hg hbox hb) | ((with_reducible refine gate_callee (f := 43) rfl ?_); refine goesL_ (some 21) rfl rfl Try.func43 dq24 rfl #[.pointer (some ⟨g, 0, none⟩), .int .i64 1] rfl dq42 ?_; have hir_ : IsR54 w w1 g a0 ((0 : Nat) : Int) false (.slice none 0 0) := ⟨HBX.out, Nat.le_of_eq HGX.out.symm⟩; have hg0_ : (fun q : Nat => if q = g then 0 else 2) g = 0 := if_pos rfl; (with_reducible refine (rd_item.calls k w w1 (fun q => if q = g then 0 else 2) g a0 0 false (.slice none 0 0) [] 1 r3 at' true out' hir_ hg0_ (Kd.S_nil _ _ _ _ _) HB.out HSZ.out HIT.out).mono ?_); rintro e w2 ⟨v', ow', rfl, hI_, hg_, ho_, hs_, hb_⟩; refine ⟨_, rfl, ?_⟩; obtain ⟨Ao, co, eo⟩ := Kd.S_slice ho_; subst eo; have HO := Zq.i (Kd.S_mono ho_ (fun _ _ => trivial)); have HL := Zq.i hb_; have HI := Zq.i hI_; have cg0 : w2.cell? ⟨g, 0, none⟩ = some (.string a0) := (blk_cell hI_.1 0).trans rfl; have cg1 : w2.cell? ⟨g, 1, none⟩ = some (.int .i64 ((at' : Nat) : Int)) := (blk_cell hI_.1 1).trans rfl; have cg2 : w2.cell? ⟨g, 2, none⟩ = some (.bool true) := (blk_cell hI_.1 2).trans rfl; have cg3 : w2.cell? ⟨g, 3, none⟩ = some (.slice Ao out'.length co) := (blk_cell hI_.1 3).trans rfl; clear hg_ ho_ hs_ hb_ hI_ HB HBX HGX hir_ hg0_))
  go_ret2
  exact ⟨_, rfl, Kd.S_nil _ _ _ _ _, HL.out⟩
 | false =>
  rw [if_neg dq25] at H
  by_cases c9 : at' < a0.size
  ·rw [if_pos c9] at H
   have c9b0 : decide (((at' : Nat) : Int) < (a0.size : Int)) = true := dT dq28
   have c9b1 : (((at' : Nat) : Int) < (a0.size : Int)) = True := eq_true dq28
   clear c9
   obtain ⟨rfl, rfl⟩ := oP H
   go_enter Try.func9, Try.ntmps9
   go_wp2_with (first | ((with_reducible refine gate_dst (N := 7) rfl ?_); refine box_event ?hg (N := 7) ?hd (cs := #[.string a0, .int .i64 0, .bool false, .slice none 0 0]) (t := 54) ?hr ?_; (case hd => rfl); (case hg => rfl); (case hr => exact dq0); intro g hg w1 hbox hb; have HGX := Zq.i hg; have HBX := Zq.i hbox; have HB := Zq.i hb; clear hg hbox hb) | ((with_reducible refine gate_callee (f := 43) rfl ?_); refine goesL_ (some 21) rfl rfl Try.func43 dq24 rfl #[.pointer (some ⟨g, 0, none⟩), .int .i64 1] rfl dq42 ?_; have hir_ : IsR54 w w1 g a0 ((0 : Nat) : Int) false (.slice none 0 0) := ⟨HBX.out, Nat.le_of_eq HGX.out.symm⟩; have hg0_ : (fun q : Nat => if q = g then 0 else 2) g = 0 := if_pos rfl; (with_reducible refine (rd_item.calls k w w1 (fun q => if q = g then 0 else 2) g a0 0 false (.slice none 0 0) [] 1 r3 at' false out' hir_ hg0_ (Kd.S_nil _ _ _ _ _) HB.out HSZ.out HIT.out).mono ?_); rintro e w2 ⟨v', ow', rfl, hI_, hg_, ho_, hs_, hb_⟩; refine ⟨_, rfl, ?_⟩; obtain ⟨Ao, co, eo⟩ := Kd.S_slice ho_; subst eo; have HO := Zq.i (Kd.S_mono ho_ (fun _ _ => trivial)); have HL := Zq.i hb_; have HI := Zq.i hI_; have cg0 : w2.cell? ⟨g, 0, none⟩ = some (.string a0) := (blk_cell hI_.1 0).trans rfl; have cg1 : w2.cell? ⟨g, 1, none⟩ = some (.int .i64 ((at' : Nat) : Int)) := (blk_cell hI_.1 1).trans rfl; have cg2 : w2.cell? ⟨g, 2, none⟩ = some (.bool false) := (blk_cell hI_.1 2).trans rfl; have cg3 : w2.cell? ⟨g, 3, none⟩ = some (.slice Ao out'.length co) := (blk_cell hI_.1 3).trans rfl; clear hg_ ho_ hs_ hb_ hI_ HB HBX HGX hir_ hg0_))
   go_ret2
   exact ⟨_, rfl, Kd.S_nil _ _ _ _ _, HL.out⟩
  rw [if_neg c9] at H
  have c9b0 : decide (((at' : Nat) : Int) < (a0.size : Int)) = false := dF dq28
  have c9b1 : (((at' : Nat) : Int) < (a0.size : Int)) = False := eq_false dq28
  clear c9
  obtain ⟨ok, hok, H⟩ := Option.bind_eq_some_iff.1 H
  have HOK := Zq.i hok
  clear hok
  cases ok with
  | true =>
   rw [if_pos rfl] at H
   obtain ⟨rfl, rfl⟩ := oP H
   go_enter Try.func9, Try.ntmps9
   go_wp2_with (first | ((with_reducible refine gate_dst (N := 7) rfl ?_); refine box_event ?hg (N := 7) ?hd (cs := #[.string a0, .int .i64 0, .bool false, .slice none 0 0]) (t := 54) ?hr ?_; (case hd => rfl); (case hg => rfl); (case hr => exact dq0); intro g hg w1 hbox hb; have HGX := Zq.i hg; have HBX := Zq.i hbox; have HB := Zq.i hb; clear hg hbox hb) | ((with_reducible refine gate_callee (f := 43) rfl ?_); refine goesL_ (some 21) rfl rfl Try.func43 dq24 rfl #[.pointer (some ⟨g, 0, none⟩), .int .i64 1] rfl dq42 ?_; have hir_ : IsR54 w w1 g a0 ((0 : Nat) : Int) false (.slice none 0 0) := ⟨HBX.out, Nat.le_of_eq HGX.out.symm⟩; have hg0_ : (fun q : Nat => if q = g then 0 else 2) g = 0 := if_pos rfl; (with_reducible refine (rd_item.calls k w w1 (fun q => if q = g then 0 else 2) g a0 0 false (.slice none 0 0) [] 1 r3 at' false out' hir_ hg0_ (Kd.S_nil _ _ _ _ _) HB.out HSZ.out HIT.out).mono ?_); rintro e w2 ⟨v', ow', rfl, hI_, hg_, ho_, hs_, hb_⟩; refine ⟨_, rfl, ?_⟩; obtain ⟨Ao, co, eo⟩ := Kd.S_slice ho_; subst eo; have HO := Zq.i (Kd.S_mono ho_ (fun _ _ => trivial)); have HL := Zq.i hb_; have HI := Zq.i hI_; have cg0 : w2.cell? ⟨g, 0, none⟩ = some (.string a0) := (blk_cell hI_.1 0).trans rfl; have cg1 : w2.cell? ⟨g, 1, none⟩ = some (.int .i64 ((at' : Nat) : Int)) := (blk_cell hI_.1 1).trans rfl; have cg2 : w2.cell? ⟨g, 2, none⟩ = some (.bool false) := (blk_cell hI_.1 2).trans rfl; have cg3 : w2.cell? ⟨g, 3, none⟩ = some (.slice Ao out'.length co) := (blk_cell hI_.1 3).trans rfl; clear hg_ ho_ hs_ hb_ hI_ HB HBX HGX hir_ hg0_) | (go_at_call 41; (with_reducible refine (spec_ParticleOk.calls k Ao co out' true _ (Kd.S_reads' HO.out).2.2 (Kd.S_reads' HO.out).2.1 HOK.out).mono ?_); rintro e w3 ⟨rfl, hd_⟩; have HO3 := Zq.i (Kd.S_below HO.out hd_); have HL3 := Zq.i (below_step HL.out hd_); have cg3b : w3.cell? ⟨g, 3, none⟩ = some (.slice Ao out'.length co) := (hd_.cell (bC w2 _ cg3)).trans cg3; clear hd_ cg0 cg1 cg2 cg3))
   go_ret2
   exact ⟨_, rfl, HO3.out, HL3.out⟩
  | false =>
   rw [if_neg dq25] at H
   obtain ⟨rfl, rfl⟩ := oP H
   go_enter Try.func9, Try.ntmps9
   go_wp2_with (first | ((with_reducible refine gate_dst (N := 7) rfl ?_); refine box_event ?hg (N := 7) ?hd (cs := #[.string a0, .int .i64 0, .bool false, .slice none 0 0]) (t := 54) ?hr ?_; (case hd => rfl); (case hg => rfl); (case hr => exact dq0); intro g hg w1 hbox hb; have HGX := Zq.i hg; have HBX := Zq.i hbox; have HB := Zq.i hb; clear hg hbox hb) | ((with_reducible refine gate_callee (f := 43) rfl ?_); refine goesL_ (some 21) rfl rfl Try.func43 dq24 rfl #[.pointer (some ⟨g, 0, none⟩), .int .i64 1] rfl dq42 ?_; have hir_ : IsR54 w w1 g a0 ((0 : Nat) : Int) false (.slice none 0 0) := ⟨HBX.out, Nat.le_of_eq HGX.out.symm⟩; have hg0_ : (fun q : Nat => if q = g then 0 else 2) g = 0 := if_pos rfl; (with_reducible refine (rd_item.calls k w w1 (fun q => if q = g then 0 else 2) g a0 0 false (.slice none 0 0) [] 1 r3 at' false out' hir_ hg0_ (Kd.S_nil _ _ _ _ _) HB.out HSZ.out HIT.out).mono ?_); rintro e w2 ⟨v', ow', rfl, hI_, hg_, ho_, hs_, hb_⟩; refine ⟨_, rfl, ?_⟩; obtain ⟨Ao, co, eo⟩ := Kd.S_slice ho_; subst eo; have HO := Zq.i (Kd.S_mono ho_ (fun _ _ => trivial)); have HL := Zq.i hb_; have HI := Zq.i hI_; have cg0 : w2.cell? ⟨g, 0, none⟩ = some (.string a0) := (blk_cell hI_.1 0).trans rfl; have cg1 : w2.cell? ⟨g, 1, none⟩ = some (.int .i64 ((at' : Nat) : Int)) := (blk_cell hI_.1 1).trans rfl; have cg2 : w2.cell? ⟨g, 2, none⟩ = some (.bool false) := (blk_cell hI_.1 2).trans rfl; have cg3 : w2.cell? ⟨g, 3, none⟩ = some (.slice Ao out'.length co) := (blk_cell hI_.1 3).trans rfl; clear hg_ ho_ hs_ hb_ hI_ HB HBX HGX hir_ hg0_) | (go_at_call 41; (with_reducible refine (spec_ParticleOk.calls k Ao co out' false _ (Kd.S_reads' HO.out).2.2 (Kd.S_reads' HO.out).2.1 HOK.out).mono ?_); rintro e w3 ⟨rfl, hd_⟩; have HO3 := Zq.i (Kd.S_below HO.out hd_); have HL3 := Zq.i (below_step HL.out hd_); have cg3b : w3.cell? ⟨g, 3, none⟩ = some (.slice Ao out'.length co) := (hd_.cell (bC w2 _ cg3)).trans cg3; clear hd_ cg0 cg1 cg2 cg3))
   go_ret2
   exact ⟨_, rfl, Kd.S_nil _ _ _ _ _, HL3.out⟩
end Go.Proofs.Ytajdfbgbkgabjaa.L
