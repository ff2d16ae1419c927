/- Words and contracts for the row RowFnCompared: what the Go functions answer that it calls; printed by programs of the kit and of this session, and merged. -/
import Derived.Test.YtilmhfkbpnejeaaDoorQc3
namespace Go.Proofs.YtilmhfkbpnejeaaDoor.L
open Go.RowKit Go.Proofs.YtilmhfkbpnejeaaDoorW.PrintWords Go.Proofs.YtilmhfkbpnejeaaDoorW.PrintLast Go.Proofs.YtilmhfkbpnejeaaDoorW.PrintMore
attribute [local go_sem] max2_int min2_int max_two min_two max_three min_three max_four min_four
attribute [local go_sem] Go.Proofs.YtilmhfkbpnejeaaDoor.H.str_leq Go.Proofs.YtilmhfkbpnejeaaDoor.H.str_gtr Go.Proofs.YtilmhfkbpnejeaaDoor.H.str_geq
set_option linter.unusedVariables false
set_option linter.unusedSimpArgs false

/-! ### impl_minusDigits: function 60 -/
def impl_minusDigits.l0 : Nat → ByteArray → ByteArray → List Int → Int → Int → Option (ByteArray)
  | 0, _, _, _, _, _ => none
  | k + 1, x0, x1, x5, x6, x7 => if x7 ≥ 0 then (if 0 ≤ x7 then (if x7 < (x0.size : Int) then (if x7 < (x1.size : Int) then (if x7 < (x5.length : Int) then (impl_minusDigits.l0 k x0 x1 (x5.set (x7 : Int).toNat (48 + (((((((10 + (bt x0 x7)) % 256) - (bt x1 x7)) % 256) - x6) % 256) % 10))) ((1 - (((((((10 + (bt x0 x7)) % 256) - (bt x1 x7)) % 256) - x6) % 256) / 10)) % 256) (wrap64 (x7 - 1))) else (none)) else (none)) else (none)) else (none)) else (some (strOfNums x5))
def impl_minusDigits.f (k : Nat) (a0 : ByteArray) (a1 : ByteArray) : Option (ByteArray) := if 0 ≤ (a0.size : Int) then (if ((a0.size : Int) : Int).toNat ≤ 281474976710656 then (impl_minusDigits.l0 k a0 a1 (List.replicate ((a0.size : Int) : Int).toNat 0) 0 (wrap64 ((a0.size : Int) - 1))) else (none)) else (none)
def impl_minusDigits.T5 : Bool × List (List Nat × List Nat) := (true, [([], []), ([], []), ([0, 1], [0, 1]), ([2], [2]), ([], []), ([], []), ([4, 5], [4, 5]), ([3, 6], [3, 6]), ([], []), ([7, 8], [7, 8]), ([9, 0, 1, 2, 3, 4, 5, 6, 7, 8, 9], [9])])
def impl_minusDigits.B5 : List Nat := [0, 0, 3, 7, 0, 0, 48, 127, 0, 511, 1023]
theorem impl_minusDigits.tab5 : rtab .any (opsOf Tryd.f60 5) = impl_minusDigits.T5 := by kernel_rfl
theorem impl_minusDigits.bits5 : waitsOk impl_minusDigits.T5.2 impl_minusDigits.B5 = true := by kernel_rfl
set_option maxHeartbeats 8000000 in
set_option maxRecDepth 100000 in
theorem impl_minusDigits.calls (k : Nat) (a0 : ByteArray) (a1 : ByteArray) (r : ByteArray) (w : World) (h : impl_minusDigits.f k a0 a1 = some r) :
    Calls Tryd.prog 60 #[.string a0, .string a1] w fun e w' => e = .returned (.string r) ∧ Below w.heap.size w w' := by
  have HB := Aside0.mk (Below.refl w.heap.size w)
  have H : (if 0 ≤ (a0.size : Int) then (if ((a0.size : Int) : Int).toNat ≤ 281474976710656 then (impl_minusDigits.l0 k a0 a1 (List.replicate ((a0.size : Int) : Int).toNat 0) 0 (wrap64 ((a0.size : Int) - 1))) else (none)) else (none)) = some r := h
  clear h
  by_cases c3 : 0 ≤ (a0.size : Int)
  · rw [if_pos c3] at H
    have c3b0 := eq_true c3
    have c3b1 : decide (0 ≤ (a0.size : Int)) = true := decide_eq_true c3
    clear c3
    by_cases c4 : ((a0.size : Int) : Int).toNat ≤ 281474976710656
    · rw [if_pos c4] at H
      have c4b0 := eq_true c4
      have c4b1 : decide (((a0.size : Int) : Int).toNat ≤ 281474976710656) = true := decide_eq_true c4
      clear c4
      obtain ⟨y307, hy307⟩ : ∃ y_ : List Int, y_ = (List.replicate ((a0.size : Int) : Int).toNat 0) := ⟨_, rfl⟩
      replace H : (impl_minusDigits.l0 k a0 a1 y307 0 (wrap64 ((a0.size : Int) - 1))) = some r := by first | (rw [hy307]; with_reducible exact H) | (have H2_ := (Option.bind_some _ _).symm.trans H; rw [hy307]; with_reducible exact H2_) | (have H2_ := (Option.bind_some _ _).symm.trans H; with_reducible exact H2_) | with_reducible exact H | (rw [hy307]; exact H) | exact H
      have Ny307 := Aside0.mk hy307
      clear hy307
      have H' := Aside0.mk H
      clear H
      go_enter Tryd.func60, Tryd.ntmps60
      go_wp2_with (first | ((with_reducible refine gate_dst (N := 11) rfl ?_); refine Kd.R_make (Kd.int .u8) _ 5 rfl (N := 11) rfl 29 _ _ rfl (a0.size : Int) rfl rfl Tryd.underlying29 (.int .u8 0) 1 info5 rfl (by decide) (by omega) 0 (ok := fun _ => True) (okp := fun _ => True) rfl (fun _ hk => hk) trivial (of_decide_eq_true (by first | (with_reducible assumption) | assumption)) (Nat.le_trans (Nat.mul_le_mul_right _ (of_decide_eq_true (by first | (with_reducible assumption) | assumption) : (a0.size : Int).toNat ≤ 281474976710656)) (by omega)) (Below.refl _ _) (Nat.le_refl _) ?_; intro v308 w5 ho6 hb hg_ hnew_; clear hg_ hnew_; (first | rw [← Ny307.out] at ho6 | (simp only [Int.reduceToNat] at ho6; rw [← Ny307.out] at ho6)); have n0_ := Aside0.mk (Kd.R_lower ho6 (below_size (by repeat (first | (with_reducible first | exact HB.out | apply below_alloc | apply pw_below_drewN | apply below_drew1) | exact HB.out)))); have n1_ := Aside0.mk (below_step (by repeat (first | (with_reducible first | exact HB.out | apply below_alloc | apply pw_below_drewN | apply below_drew1) | exact HB.out)) hb); clear HB; have HO309 := n0_; have HB := n1_; clear n0_ n1_; clear hb ho6))
      go_loopg [6, 7] k (fun kq v6 v7 w' => ∃ (x5_1 : List Int) (x6_1 : Int) (x7_1 : Int), v6 = .int .u8 x6_1 ∧ v7 = .int .i64 x7_1 ∧ Aside0 (impl_minusDigits.l0 kq a0 a1 x5_1 x6_1 x7_1 = some r) ∧ Aside0 (kq ≤ k) ∧ Aside0 (Kd.R (Kd.int .u8) 5 w' w.heap.size (fun _ => True) v308 x5_1) ∧ Aside0 (Below w.heap.size w w'))
      case atStart => exact ⟨(y307), (0), (wrap64 ((a0.size : Int) - 1)), (by first | rfl | (simp; done) | (simp [*]; done)), (by first | rfl | (simp; done) | (simp [*]; done)), H', ⟨Nat.le_refl _⟩, ⟨by (with_reducible repeat (first | apply Kd.R_alloc | apply Kd.R_drewN | apply Kd.R_drew)); exact HO309.out⟩, ⟨by repeat (first | (with_reducible first | exact HB.out | apply below_alloc | apply pw_below_drewN | apply below_drew1) | exact HB.out)⟩⟩
      case round =>
        clear H'
        try clear p2
        try clear c3
        try clear c3b0
        try clear c3b1
        try clear c4
        try clear c4b0
        try clear c4b1
        try clear c6
        try clear p6
        obtain ⟨x5_1, x6_1, x7_1, rfl, rfl, HA, HK1, HO_5, HB⟩ := hrel
        cases gk with
        | zero => exact absurd HA.out (by simp [impl_minusDigits.l0])
        | succ k1 =>
          have H := HA.out
          clear HA
          simp only [impl_minusDigits.l0] at H
          by_cases c7 : x7_1 ≥ 0
          · rw [if_pos c7] at H
            have c7b0 : decide (0 ≤ x7_1) = true := decide_eq_true c7
            clear c7
            by_cases c8 : 0 ≤ x7_1
            · rw [if_pos c8] at H
              have c8b0 : decide (0 ≤ x7_1) = true := decide_eq_true c8
              clear c8
              by_cases c9 : x7_1 < (a0.size : Int)
              · rw [if_pos c9] at H
                have c9b0 : decide (x7_1 < (a0.size : Int)) = true := decide_eq_true c9
                clear c9
                obtain ⟨jn11, hjn11⟩ : ∃ s_ : Int, ((10 + (bt a0 x7_1)) % 256) = s_ := ⟨_, rfl⟩
                have hjn11l : 0 ≤ jn11 := by rw [← hjn11]; exact Int.emod_nonneg _ (by decide)
                have hjn11h : jn11 < 256 := by rw [← hjn11]; exact Int.emod_lt_of_pos _ (by decide)
                replace H : (if x7_1 < (a1.size : Int) then (if x7_1 < (x5_1.length : Int) then (impl_minusDigits.l0 k1 a0 a1 (x5_1.set (x7_1 : Int).toNat (48 + (((((jn11 - (bt a1 x7_1)) % 256) - x6_1) % 256) % 10))) ((1 - (((((jn11 - (bt a1 x7_1)) % 256) - x6_1) % 256) / 10)) % 256) (wrap64 (x7_1 - 1))) else (none)) else (none)) = some r := by first | (rw [hjn11] at H; exact H) | (simp only [hjn11] at H ⊢; exact H) | exact H
                by_cases c12 : x7_1 < (a1.size : Int)
                · rw [if_pos c12] at H
                  have c12b0 : decide (x7_1 < (a1.size : Int)) = true := decide_eq_true c12
                  clear c12
                  obtain ⟨jn14, hjn14⟩ : ∃ s_ : Int, ((jn11 - (bt a1 x7_1)) % 256) = s_ := ⟨_, rfl⟩
                  have hjn14l : 0 ≤ jn14 := by rw [← hjn14]; exact Int.emod_nonneg _ (by decide)
                  have hjn14h : jn14 < 256 := by rw [← hjn14]; exact Int.emod_lt_of_pos _ (by decide)
                  replace H : (if x7_1 < (x5_1.length : Int) then (impl_minusDigits.l0 k1 a0 a1 (x5_1.set (x7_1 : Int).toNat (48 + (((jn14 - x6_1) % 256) % 10))) ((1 - (((jn14 - x6_1) % 256) / 10)) % 256) (wrap64 (x7_1 - 1))) else (none)) = some r := by first | (rw [hjn14] at H; exact H) | (simp only [hjn14] at H ⊢; exact H) | exact H
                  obtain ⟨jn15, hjn15⟩ : ∃ s_ : Int, ((jn14 - x6_1) % 256) = s_ := ⟨_, rfl⟩
                  have hjn15l : 0 ≤ jn15 := by rw [← hjn15]; exact Int.emod_nonneg _ (by decide)
                  have hjn15h : jn15 < 256 := by rw [← hjn15]; exact Int.emod_lt_of_pos _ (by decide)
                  replace H : (if x7_1 < (x5_1.length : Int) then (impl_minusDigits.l0 k1 a0 a1 (x5_1.set (x7_1 : Int).toNat (48 + (jn15 % 10))) ((1 - (jn15 / 10)) % 256) (wrap64 (x7_1 - 1))) else (none)) = some r := by first | (rw [hjn15] at H; exact H) | (simp only [hjn15] at H ⊢; exact H) | exact H
                  obtain ⟨jn16, hjn16⟩ : ∃ s_ : Int, ((1 - (jn15 / 10)) % 256) = s_ := ⟨_, rfl⟩
                  have hjn16l : 0 ≤ jn16 := by rw [← hjn16]; exact Int.emod_nonneg _ (by decide)
                  have hjn16h : jn16 < 256 := by rw [← hjn16]; exact Int.emod_lt_of_pos _ (by decide)
                  replace H : (if x7_1 < (x5_1.length : Int) then (impl_minusDigits.l0 k1 a0 a1 (x5_1.set (x7_1 : Int).toNat (48 + (jn15 % 10))) jn16 (wrap64 (x7_1 - 1))) else (none)) = some r := by first | (rw [hjn16] at H; exact H) | (simp only [hjn16] at H ⊢; exact H) | exact H
                  by_cases c17 : x7_1 < (x5_1.length : Int)
                  · rw [if_pos c17] at H
                    have c17b0 : decide (x7_1 < (x5_1.length : Int)) = true := decide_eq_true c17
                    clear c17
                    obtain ⟨y310, hy310⟩ : ∃ y_ : List Int, y_ = (x5_1.set (x7_1 : Int).toNat (48 + (jn15 % 10))) := ⟨_, rfl⟩
                    replace H : (impl_minusDigits.l0 k1 a0 a1 y310 jn16 (wrap64 (x7_1 - 1))) = some r := by first | (rw [hy310]; with_reducible exact H) | (have H2_ := (Option.bind_some _ _).symm.trans H; rw [hy310]; with_reducible exact H2_) | (have H2_ := (Option.bind_some _ _).symm.trans H; with_reducible exact H2_) | with_reducible exact H | (rw [hy310]; exact H) | exact H
                    have Ny310 := Aside0.mk hy310
                    clear hy310
                    have H' := Aside0.mk H
                    clear H
                    try go_wp2
                    have n0_ := Aside0.mk (Kd.R_drew HO_5.out)
                    have n1_ := Aside0.mk (below_drew1 HB.out)
                    clear HO_5
                    clear HB
                    have HO_5 := n0_
                    have HB := n1_
                    clear n0_ n1_
                    have p10 : 0 ≤ (x7_1 : Int) := of_decide_eq_true (by first | (with_reducible assumption) | assumption)
                    have q10 : x7_1 < (a0.size : Int) := of_decide_eq_true (by first | (with_reducible assumption) | assumption)
                    have hx10 := bt_at a0 x7_1
                    replace p10 := eq_true p10
                    replace q10 := eq_true q10
                    have p13 : 0 ≤ (x7_1 : Int) := of_decide_eq_true (by first | (with_reducible assumption) | assumption)
                    have q13 : x7_1 < (a1.size : Int) := of_decide_eq_true (by first | (with_reducible assumption) | assumption)
                    have hx13 := bt_at a1 x7_1
                    replace p13 := eq_true p13
                    replace q13 := eq_true q13
                    refine start_ (n := 11) (S := fun w' => True) (ds := []) #[false, false, false, false, false, false, false, false, false, false, false] (by kernel_rfl) rfl rfl trivial (fun hHeld => ?_); refine with_tabW impl_minusDigits.tab5 impl_minusDigits.bits5 (fun HT_ HW_ => ?_)
                    generalize wr.drew = w19 at HO_5 HB hHeld ⊢
                    refine pure_ (i := 0) (N := some 19) (v := ?_) (a' := ?_) #[true, false, false, false, false, false, false, false, false, false, false] rfl rfl (any_of HT_.out (by kernel_rfl)) (fun _ _ _ h => h) (Or.inl ⟨by rfl, ?_⟩) ?_ ?_
                    rotate_left
                    · intro w'
                      go_simp
                      with_reducible rfl
                    rotate_left
                    · simp only [Act.put, List.setIfInBounds_toArray, List.set_cons_zero, List.set_cons_succ, i64_w, i32_w]
                      rfl
                    refine pure_ (i := 1) (N := some 20) (v := ?_) (a' := ?_) #[true, true, false, false, false, false, false, false, false, false, false] rfl rfl (any_of HT_.out (by kernel_rfl)) (fun _ _ _ h => h) (Or.inl ⟨by rfl, ?_⟩) ?_ ?_
                    rotate_left
                    · intro w'
                      go_simp
                      with_reducible rfl
                    rotate_left
                    · simp only [Act.put, List.setIfInBounds_toArray, List.set_cons_zero, List.set_cons_succ, i64_w, i32_w]
                      rfl
                    refine pure_ (i := 4) (N := some 23) (v := ?_) (a' := ?_) #[true, true, false, false, true, false, false, false, false, false, false] rfl rfl (any_of HT_.out (by kernel_rfl)) (fun _ _ _ h => h) (Or.inl ⟨by rfl, ?_⟩) ?_ ?_
                    rotate_left
                    · intro w'
                      go_simp
                      with_reducible rfl
                    rotate_left
                    · simp only [Act.put, List.setIfInBounds_toArray, List.set_cons_zero, List.set_cons_succ, i64_w, i32_w]
                      rfl
                    refine pure_ (i := 5) (N := some 24) (v := ?_) (a' := ?_) #[true, true, false, false, true, true, false, false, false, false, false] rfl rfl (any_of HT_.out (by kernel_rfl)) (fun _ _ _ h => h) (Or.inl ⟨by rfl, ?_⟩) ?_ ?_
                    rotate_left
                    · intro w'
                      go_simp
                      with_reducible rfl
                    rotate_left
                    · simp only [Act.put, List.setIfInBounds_toArray, List.set_cons_zero, List.set_cons_succ, i64_w, i32_w]
                      rfl
                    refine pure_ (i := 8) (N := some 27) (v := ?_) (a' := ?_) #[true, true, false, false, true, true, false, false, true, false, false] rfl rfl (any_of HT_.out (by kernel_rfl)) (fun _ _ _ h => h) (Or.inl ⟨by rfl, ?_⟩) ?_ ?_
                    rotate_left
                    · intro w'
                      go_simp
                      with_reducible rfl
                    rotate_left
                    · simp only [Act.put, List.setIfInBounds_toArray, List.set_cons_zero, List.set_cons_succ, i64_w, i32_w]
                      rfl
                    refine take_ (i := 2) (N := some 21) (v := ?_) (a' := ?_) #[true, true, true, false, true, true, false, false, true, false, false] rfl rfl (take_ofW HT_.out HW_.out (by kernel_rfl)) (fun _ _ _ h => h) (Or.inl ⟨by rfl, ?_⟩) hHeld ?_ ?_
                    rotate_left
                    · intro w' _
                      go_simp
                      with_reducible rfl
                    rotate_left
                    · simp only [Act.put, List.setIfInBounds_toArray, List.set_cons_zero, List.set_cons_succ, i64_w, i32_w]
                      rfl
                    refine pure_ (i := 3) (N := some 22) (v := ?_) (a' := ?_) #[true, true, true, true, true, true, false, false, true, false, false] rfl rfl (any_of HT_.out (by kernel_rfl)) (fun _ _ _ h => h) (Or.inl ⟨by rfl, ?_⟩) ?_ ?_
                    rotate_left
                    · intro w'
                      go_simp
                      with_reducible rfl
                    rotate_left
                    · simp only [Act.put, List.setIfInBounds_toArray, List.set_cons_zero, List.set_cons_succ, i64_w, i32_w]
                      rfl
                    refine take_ (i := 6) (N := some 25) (v := ?_) (a' := ?_) #[true, true, true, true, true, true, true, false, true, false, false] rfl rfl (take_ofW HT_.out HW_.out (by kernel_rfl)) (fun _ _ _ h => h) (Or.inl ⟨by rfl, ?_⟩) hHeld ?_ ?_
                    rotate_left
                    · intro w' _
                      go_simp
                      with_reducible rfl
                    rotate_left
                    · simp only [Act.put, List.setIfInBounds_toArray, List.set_cons_zero, List.set_cons_succ, i64_w, i32_w]
                      rfl
                    refine pure_ (i := 7) (N := some 26) (v := ?_) (a' := ?_) #[true, true, true, true, true, true, true, true, true, false, false] rfl rfl (any_of HT_.out (by kernel_rfl)) (fun _ _ _ h => h) (Or.inl ⟨by rfl, ?_⟩) ?_ ?_
                    rotate_left
                    · intro w'
                      go_simp
                      with_reducible rfl
                    rotate_left
                    · simp only [Act.put, List.setIfInBounds_toArray, List.set_cons_zero, List.set_cons_succ, i64_w, i32_w]
                      rfl
                    refine pure_ (i := 9) (N := some 28) (v := ?_) (a' := ?_) #[true, true, true, true, true, true, true, true, true, true, false] rfl rfl (any_of HT_.out (by kernel_rfl)) (fun _ _ _ h => h) (Or.inl ⟨by rfl, ?_⟩) ?_ ?_
                    rotate_left
                    · intro w'
                      go_simp
                      with_reducible rfl
                    rotate_left
                    · simp only [Act.put, List.setIfInBounds_toArray, List.set_cons_zero, List.set_cons_succ, i64_w, i32_w]
                      rfl
                    refine pure_ (i := 10) (N := some 8) (v := ?_) (a' := ?_) #[true, true, true, true, true, true, true, true, true, true, true] rfl rfl (any_of HT_.out (by kernel_rfl)) (fun _ _ _ h => h) (Or.inl ⟨by rfl, ?_⟩) ?_ ?_
                    rotate_left
                    · intro w'
                      go_simp
                      with_reducible rfl
                    rotate_left
                    · simp only [Act.put, List.setIfInBounds_toArray, List.set_cons_zero, List.set_cons_succ, i64_w, i32_w]
                      rfl
                    refine done_ (done_of HT_.out (by kernel_rfl)) ?_
                    have p18 : 0 ≤ (x7_1 : Int) := of_decide_eq_true (by first | (with_reducible assumption) | assumption)
                    have q18 : (x7_1 : Int) < ((x5_1.length : Int) : Int) := of_decide_eq_true (by first | (with_reducible assumption) | assumption)
                    obtain ⟨go18, co18, eo18, gb18, gl18, cl18, HG18⟩ := Kd.R_form HO_5.out (by omega)
                    (first | cases eo18 | (injection eo18 with ea_ en_ ec_; (first | subst ea_ | (injection ea_ with ea_; subst ea_)); subst ec_; clear en_))
                    have GB18 := Aside0.mk gb18
                    have GG18 := Aside0.mk HG18
                    clear gb18 gl18 HG18
                    obtain ⟨hx18_0, hf18_0⟩ := Kd.R_celln 0 HO_5.out (x7_1 : Int) p18 q18
                    replace p18 := eq_true p18
                    replace q18 := eq_true q18
                    obtain ⟨hy20_, hz20_⟩ := Kd.R_celln 0 HO_5.out (x7_1 : Int) (of_decide_eq_true (by first | (with_reducible assumption) | assumption)) (of_decide_eq_true (by first | (with_reducible assumption) | assumption))
                    have HP20 := Kd.R_putg HO_5.out (x7_1 : Int) (48 + (jn15 % 10))
                    try go_wp2_with (first | ((with_reducible refine gate_store (t := 5) (p := 37) rfl ?_); refine store_event (t := 5) (p := 37) (v := ?vo_w21) (w1 := (w19.setCell ⟨go18, (x7_1 : Int).toNat, none⟩ (.int .u8 (48 + (jn15 % 10))))) ?hg ?ho ?hn ?hr ?_; (case ho => rfl); (case hg => rfl); (case hn => rfl); (case hr => first | (go_simp; done) | (go_simp; rfl)); intro w21 hw; have hg : w19.grownBy w21 (some go18) := (by rw [hw]; exact HP20.2); have hp_ : Kd.R (Kd.int .u8) 5 w21 w.heap.size (fun _ => True) (.slice (some ⟨go18, 0, none⟩) x5_1.length co18) y310 := (by rw [hw, Ny310.out]; exact HP20.1); clear HP20; have n0_ := Aside0.mk (hp_); have n1_ := Aside0.mk ((by rw [hw]; exact below_set (HB.out) GB18.out : Below w.heap.size w w21)); clear HO_5; clear HB; have HO_5 := n0_; have HB := n1_; clear n0_ n1_; clear hg hw hp_))
                    go_roundg k1
                    case measure => have := HK1.out; omega
                    case rel => exact ⟨(y310), (jn16), (wrap64 (x7_1 - 1)), (by first | rfl | (simp; done) | (refine congrArg (Value.int _) ?_; (try rw [Int.tdiv_eq_ediv_of_nonneg (by omega)]); omega) | (simp only [← hjn16] <;> (first | rfl | simp)) | (simp [*]; done)), (by first | rfl | (simp; done) | (refine congrArg (Value.int _) ?_; (try rw [Int.tdiv_eq_ediv_of_nonneg (by omega)]); omega) | (simp [*]; done)), H', ⟨by have := HK1.out; omega⟩, ⟨by (with_reducible repeat (first | apply Kd.R_alloc | apply Kd.R_drewN | apply Kd.R_drew)); exact HO_5.out⟩, ⟨by repeat (first | (with_reducible first | exact HB.out | apply below_alloc | apply pw_below_drewN | apply below_drew1) | exact HB.out)⟩⟩
                  · rw [if_neg c17] at H
                    exact absurd H (by simp)
                · rw [if_neg c12] at H
                  exact absurd H (by simp)
              · rw [if_neg c9] at H
                exact absurd H (by simp)
            · rw [if_neg c8] at H
              exact absurd H (by simp)
          · rw [if_neg c7] at H
            have c7b0 : decide (0 ≤ x7_1) = false := decide_eq_false c7
            clear c7
            obtain rfl := Option.some.inj H
            have hcv22 := own_string (P := Tryd.prog) Tryd.underlying29 Tryd.underlying5 Tryd.underlying9 (Kd.own_of_R HO_5.out)
            go_wp2
            go_ret
            exact ⟨by first | rfl | (simp [errW_none, errW_some] <;> rfl) | (simp [*, errW_none, errW_some] <;> rfl), by repeat (first | (with_reducible first | exact HB.out | apply below_alloc | apply pw_below_drewN | apply below_drew1) | exact HB.out)⟩
    · rw [if_neg c4] at H
      exact absurd H (by simp)
  · rw [if_neg c3] at H
    exact absurd H (by simp)

/-! ### impl_AddDec: function 20 -/
def impl_AddDec.j0 : Nat → Bool → Bool → ByteArray → Int → Bool → ByteArray → Int → Option (Bool × ByteArray × Int × Bool)
  | 0, _, _, _, _, _, _, _ => none
  | k + 1, x16, x312000, x312001, x312002, x313000, x313001, x313002 => if x16 = true then (some (false, (⟨#[]⟩ : ByteArray), 0, false)) else ((impl_level.f x312000 x312001 x312002 x313000 x313001 x313002).bind fun bt316 => (if (x312000 == x313000) = true then ((impl_plusDigits.f k bt316.1 bt316.2.1).bind fun t319 => ((impl_made.f k x312000 t319 bt316.2.2).bind fun bt320 => (some (bt320.1, bt320.2.1, bt320.2.2.1, bt320.2.2.2)))) else (if ((Op.bytesLess bt316.1.toList bt316.2.1.toList) = true) then ((impl_minusDigits.f k bt316.2.1 bt316.1).bind fun t324 => ((impl_made.f k x313000 t324 bt316.2.2).bind fun bt325 => (some (bt325.1, bt325.2.1, bt325.2.2.1, bt325.2.2.2)))) else ((impl_minusDigits.f k bt316.1 bt316.2.1).bind fun t329 => ((impl_made.f k x312000 t329 bt316.2.2).bind fun bt330 => (some (bt330.1, bt330.2.1, bt330.2.2.1, bt330.2.2.2)))))))
def impl_AddDec.f (k : Nat) (a0_0 : Bool) (a0_1 : ByteArray) (a0_2 : Int) (a1_0 : Bool) (a1_1 : ByteArray) (a1_2 : Int) : Option (Bool × ByteArray × Int × Bool) := (impl_DecOk.f a0_0 a0_1 a0_2).bind fun t314 => (if t314 = true then ((impl_DecOk.f a1_0 a1_1 a1_2).bind fun t315 => (impl_AddDec.j0 k (!t315) a0_0 a0_1 a0_2 a1_0 a1_1 a1_2)) else (impl_AddDec.j0 k true a0_0 a0_1 a0_2 a1_0 a1_1 a1_2))
def impl_AddDec.T5 : Bool × List (List Nat × List Nat) := (true, [([], []), ([0], [0]), ([], []), ([], []), ([2, 3], [2, 3]), ([], []), ([1, 4, 5, 4], [1, 4, 5]), ([6], [6]), ([6], [6]), ([7, 6, 0, 1, 2, 3, 4, 5, 6, 7, 8], [7]), ([8, 9, 0, 1, 2, 3, 4, 5, 6, 7, 8, 9], [8])])
def impl_AddDec.B5 : List Nat := [0, 1, 0, 0, 12, 0, 63, 127, 127, 511, 1023]
theorem impl_AddDec.tab5 : rtab .any (opsOf Tryd.f20 5) = impl_AddDec.T5 := by kernel_rfl
theorem impl_AddDec.bits5 : waitsOk impl_AddDec.T5.2 impl_AddDec.B5 = true := by kernel_rfl
def impl_AddDec.T7 : Bool × List (List Nat × List Nat) := (true, [([], []), ([0], [0]), ([], []), ([], []), ([2, 3], [2, 3]), ([], []), ([1, 4, 5, 4], [1, 4, 5]), ([6], [6]), ([6], [6]), ([7, 6, 0, 1, 2, 3, 4, 5, 6, 7, 8], [7]), ([8, 9, 0, 1, 2, 3, 4, 5, 6, 7, 8, 9], [8])])
def impl_AddDec.B7 : List Nat := [0, 1, 0, 0, 12, 0, 63, 127, 127, 511, 1023]
theorem impl_AddDec.tab7 : rtab .any (opsOf Tryd.f20 7) = impl_AddDec.T7 := by kernel_rfl
theorem impl_AddDec.bits7 : waitsOk impl_AddDec.T7.2 impl_AddDec.B7 = true := by kernel_rfl
def impl_AddDec.T8 : Bool × List (List Nat × List Nat) := (true, [([], []), ([0], [0]), ([], []), ([], []), ([2, 3], [2, 3]), ([], []), ([1, 4, 5, 4], [1, 4, 5]), ([6], [6]), ([6], [6]), ([7, 6, 0, 1, 2, 3, 4, 5, 6, 7, 8], [7]), ([8, 9, 0, 1, 2, 3, 4, 5, 6, 7, 8, 9], [8])])
def impl_AddDec.B8 : List Nat := [0, 1, 0, 0, 12, 0, 63, 127, 127, 511, 1023]
theorem impl_AddDec.tab8 : rtab .any (opsOf Tryd.f20 8) = impl_AddDec.T8 := by kernel_rfl
theorem impl_AddDec.bits8 : waitsOk impl_AddDec.T8.2 impl_AddDec.B8 = true := by kernel_rfl
set_option maxHeartbeats 8000000 in
set_option maxRecDepth 100000 in
theorem impl_AddDec.calls (k : Nat) (a0_0 : Bool) (a0_1 : ByteArray) (a0_2 : Int) (a1_0 : Bool) (a1_1 : ByteArray) (a1_2 : Int) (r1 : Bool) (r2 : ByteArray) (r3 : Int) (r4 : Bool) (w : World) (h : impl_AddDec.f k a0_0 a0_1 a0_2 a1_0 a1_1 a1_2 = some (r1, r2, r3, r4)) :
    Calls Tryd.prog 20 #[.agg #[.bool a0_0, .string a0_1, .int .i64 a0_2], .agg #[.bool a1_0, .string a1_1, .int .i64 a1_2]] w fun e w' => e = .returned (.tuple #[.agg #[.bool r1, .string r2, .int .i64 r3], .bool r4]) ∧ Below w.heap.size w w' := by
  have hu26 := Tryd.underlying26
  have HB := Aside0.mk (Below.refl w.heap.size w)
  have H : ((impl_DecOk.f a0_0 a0_1 a0_2).bind fun t314 => (if t314 = true then ((impl_DecOk.f a1_0 a1_1 a1_2).bind fun t315 => (impl_AddDec.j0 k (!t315) a0_0 a0_1 a0_2 a1_0 a1_1 a1_2)) else (impl_AddDec.j0 k true a0_0 a0_1 a0_2 a1_0 a1_1 a1_2))) = some (r1, r2, r3, r4) := h
  clear h
  have HC3 := Aside0.mk H
  clear H
  go_enter Tryd.func20, Tryd.ntmps20
  go_upto_region 1 with (first | ((with_reducible refine gate_dst (N := 2) rfl ?_); refine box_event ?hg (N := 2) ?hd (cs := #[.bool a0_0, .string a0_1, .int .i64 a0_2]) (t := 26) ?hr ?_; (case hd => rfl); (case hg => rfl); (case hr => first | (go_simp; done) | (go_simp; rfl)); intro gb311 hg w4 hbox hb; have n0_ := Aside0.mk (below_step (by repeat (first | (with_reducible first | exact HB.out | apply below_alloc | apply pw_below_drewN | apply below_drew1) | exact HB.out)) hb); have n1_ := Aside0.mk (hbox); have n2_ := Aside0.mk ((by rw [hg]; exact (below_size (by repeat (first | (with_reducible first | exact HB.out | apply below_alloc | apply pw_below_drewN | apply below_drew1) | exact HB.out))) : w.heap.size ≤ gb311)); have n3_ := Aside0.mk ((by rw [hg]; exact (below_size (by repeat (first | (with_reducible first | exact HB.out | apply below_alloc | apply pw_below_drewN | apply below_drew1) | exact HB.out))) : w.heap.size ≤ gb311)); clear HB; have HB := n0_; have BK311 := n1_; have GW311 := n2_; have GE311 := n3_; clear n0_ n1_ n2_ n3_; clear hb hbox hg) | ((with_reducible refine gate_dst (N := 3) rfl ?_); refine box_event ?hg (N := 3) ?hd (cs := #[.bool a1_0, .string a1_1, .int .i64 a1_2]) (t := 26) ?hr ?_; (case hd => rfl); (case hg => rfl); (case hr => first | (go_simp; done) | (go_simp; rfl)); intro gb312 hg w5 hbox hb; have n0_ := Aside0.mk (blk_below (g := gb311) (o := .cells #[.bool a0_0, .string a0_1, .int .i64 a0_2] 26 (0, 0)) (by refine blk_up ?_; exact BK311.out) hb); have n1_ := Aside0.mk (below_step (by repeat (first | (with_reducible first | exact HB.out | apply below_alloc | apply pw_below_drewN | apply below_drew1 | refine below_set ?_ GE311.out) | exact HB.out)) hb); have n2_ := Aside0.mk (hbox); have n3_ := Aside0.mk ((by rw [hg]; exact (below_size (by repeat (first | (with_reducible first | exact HB.out | apply below_alloc | apply pw_below_drewN | apply below_drew1 | refine below_set ?_ GE311.out) | exact HB.out))) : w.heap.size ≤ gb312)); have n4_ := Aside0.mk ((by rw [hg]; exact (below_size (by repeat (first | (with_reducible first | exact HB.out | apply below_alloc | apply pw_below_drewN | apply below_drew1 | refine below_set ?_ GE311.out) | exact HB.out))) : w.heap.size ≤ gb312)); have n5_ := Aside0.mk ((by rw [hg]; exact Nat.ne_of_lt (blk_lt (g := gb311) (o := .cells #[.bool a0_0, .string a0_1, .int .i64 a0_2] 26 (0, 0)) (by refine blk_up ?_; exact BK311.out)) : gb311 ≠ gb312)); have n6_ := Aside0.mk ((by rw [hg]; exact Nat.ne_of_gt (blk_lt (g := gb311) (o := .cells #[.bool a0_0, .string a0_1, .int .i64 a0_2] 26 (0, 0)) (by refine blk_up ?_; exact BK311.out)) : gb312 ≠ gb311)); clear BK311; clear HB; have BK311 := n0_; have HB := n1_; have BK312 := n2_; have GW312 := n3_; have GE312 := n4_; have NB311_312 := n5_; have NB312_311 := n6_; clear n0_ n1_ n2_ n3_ n4_ n5_ n6_; clear hb hbox hg) | ((with_reducible refine gate_dst (N := 4) rfl ?_); refine box_event ?hg (N := 4) ?hd (cs := #[.bool false, .string (⟨#[]⟩ : ByteArray), .int .i64 0]) (t := 26) ?hr ?_; (case hd => rfl); (case hg => rfl); (case hr => first | (go_simp; done) | (go_simp; rfl)); intro gb313 hg w6 hbox hb; have n0_ := Aside0.mk (blk_below (g := gb311) (o := .cells #[.bool a0_0, .string a0_1, .int .i64 a0_2] 26 (0, 0)) (by refine blk_up ?_; exact BK311.out) hb); have n1_ := Aside0.mk (blk_below (g := gb312) (o := .cells #[.bool a1_0, .string a1_1, .int .i64 a1_2] 26 (0, 0)) (by refine blk_up ?_; exact BK312.out) hb); have n2_ := Aside0.mk (below_step (by repeat (first | (with_reducible first | exact HB.out | apply below_alloc | apply pw_below_drewN | apply below_drew1 | refine below_set ?_ GE311.out | refine below_set ?_ GE312.out) | exact HB.out)) hb); have n3_ := Aside0.mk (hbox); have n4_ := Aside0.mk ((by rw [hg]; exact (below_size (by repeat (first | (with_reducible first | exact HB.out | apply below_alloc | apply pw_below_drewN | apply below_drew1 | refine below_set ?_ GE311.out | refine below_set ?_ GE312.out) | exact HB.out))) : w.heap.size ≤ gb313)); have n5_ := Aside0.mk ((by rw [hg]; exact (below_size (by repeat (first | (with_reducible first | exact HB.out | apply below_alloc | apply pw_below_drewN | apply below_drew1 | refine below_set ?_ GE311.out | refine below_set ?_ GE312.out) | exact HB.out))) : w.heap.size ≤ gb313)); have n6_ := Aside0.mk ((by rw [hg]; exact Nat.ne_of_lt (blk_lt (g := gb311) (o := .cells #[.bool a0_0, .string a0_1, .int .i64 a0_2] 26 (0, 0)) (by refine blk_up ?_; exact BK311.out)) : gb311 ≠ gb313)); have n7_ := Aside0.mk ((by rw [hg]; exact Nat.ne_of_gt (blk_lt (g := gb311) (o := .cells #[.bool a0_0, .string a0_1, .int .i64 a0_2] 26 (0, 0)) (by refine blk_up ?_; exact BK311.out)) : gb313 ≠ gb311)); have n8_ := Aside0.mk ((by rw [hg]; exact Nat.ne_of_lt (blk_lt (g := gb312) (o := .cells #[.bool a1_0, .string a1_1, .int .i64 a1_2] 26 (0, 0)) (by refine blk_up ?_; exact BK312.out)) : gb312 ≠ gb313)); have n9_ := Aside0.mk ((by rw [hg]; exact Nat.ne_of_gt (blk_lt (g := gb312) (o := .cells #[.bool a1_0, .string a1_1, .int .i64 a1_2] 26 (0, 0)) (by refine blk_up ?_; exact BK312.out)) : gb313 ≠ gb312)); clear BK311; clear BK312; clear HB; have BK311 := n0_; have BK312 := n1_; have HB := n2_; have BK313 := n3_; have GW313 := n4_; have GE313 := n5_; have NB311_313 := n6_; have NB313_311 := n7_; have NB312_313 := n8_; have NB313_312 := n9_; clear n0_ n1_ n2_ n3_ n4_ n5_ n6_ n7_ n8_ n9_; clear hb hbox hg))
  (try simp only [Act.put, List.setIfInBounds_toArray, List.set_cons_zero, List.set_cons_succ])
  go_cut [16] (fun v16 wc => ∃ (kq : Nat) (x16_2 : Bool), v16 = .bool x16_2 ∧ Aside0 (impl_AddDec.j0 kq x16_2 a0_0 a0_1 a0_2 a1_0 a1_1 a1_2 = some (r1, r2, r3, r4)) ∧ Aside0 (kq ≤ k) ∧ Aside0 (wc.heap[gb311]? = some (.cells #[.bool a0_0, .string a0_1, .int .i64 a0_2] 26 (0, 0))) ∧ Aside0 (wc.heap[gb312]? = some (.cells #[.bool a1_0, .string a1_1, .int .i64 a1_2] 26 (0, 0))) ∧ Aside0 (wc.heap[gb313]? = some (.cells #[.bool false, .string (⟨#[]⟩ : ByteArray), .int .i64 0] 26 (0, 0))) ∧ Aside0 (Below w.heap.size w wc))
  case first =>
    have H := HC3.out
    clear HC3
    replace H := Option.bind_eq_some_iff.mp H
    obtain ⟨t314, A70, H⟩ := H
    replace H : (if t314 = true then ((impl_DecOk.f a1_0 a1_1 a1_2).bind fun t315 => (impl_AddDec.j0 k (!t315) a0_0 a0_1 a0_2 a1_0 a1_1 a1_2)) else (impl_AddDec.j0 k true a0_0 a0_1 a0_2 a1_0 a1_1 a1_2)) = some (r1, r2, r3, r4) := H
    have A7 := Aside0.mk A70
    clear A70
    by_cases c8 : t314 = true
    · subst c8
      have H1 : ((impl_DecOk.f a1_0 a1_1 a1_2).bind fun t315 => (impl_AddDec.j0 k (!t315) a0_0 a0_1 a0_2 a1_0 a1_1 a1_2)) = some (r1, r2, r3, r4) := by rw [if_pos rfl] at H; exact H
      clear H
      have H := H1
      clear H1
      replace H := Option.bind_eq_some_iff.mp H
      obtain ⟨t315, A90, H⟩ := H
      replace H : (impl_AddDec.j0 k (!t315) a0_0 a0_1 a0_2 a1_0 a1_1 a1_2) = some (r1, r2, r3, r4) := H
      have A9 := Aside0.mk A90
      clear A90
      have H' := Aside0.mk H
      clear H
      have hnb10 := NB311_312.out
      have hnc10 := NB312_311.out
      have hnb11 := NB311_313.out
      have hnc11 := NB313_311.out
      have hcz12_0 : w6.cell? ⟨gb311, 0, none⟩ = some (.bool a0_0) := (blk_cell BK311.out 0).trans rfl
      have hcz12_1 : w6.cell? ⟨gb311, 1, none⟩ = some (.string a0_1) := (blk_cell BK311.out 1).trans rfl
      have hcz12_2 : w6.cell? ⟨gb311, 2, none⟩ = some (.int .i64 a0_2) := (blk_cell BK311.out 2).trans rfl
      have hfz12_0 := blk_frozen BK311.out 0
      have hfz12_1 := blk_frozen BK311.out 1
      have hfz12_2 := blk_frozen BK311.out 2
      go_wp2_with (first | ((with_reducible refine gate_callee (f := 27) rfl ?_); refine goesL_ (some 10) rfl rfl Tryd.func27 (by kernel_rfl) rfl #[.agg #[.bool a0_0, .string a0_1, .int .i64 a0_2]] rfl (by (try simp only [List.map_toArray, List.map_cons, List.map_nil]); first | done | rfl | (simp only [List.length_drop, List.length_take]; rfl)) ?_; (with_reducible refine (impl_DecOk.calls a0_0 a0_1 a0_2 true _ A7.out).mono ?_); rintro e w13 ⟨rfl, hb⟩; refine ⟨_, rfl, ?_⟩; have n0_ := Aside0.mk (blk_below (g := gb311) (o := .cells #[.bool a0_0, .string a0_1, .int .i64 a0_2] 26 (0, 0)) (by refine blk_up ?_; exact BK311.out) hb); have n1_ := Aside0.mk (blk_below (g := gb312) (o := .cells #[.bool a1_0, .string a1_1, .int .i64 a1_2] 26 (0, 0)) (by refine blk_up ?_; exact BK312.out) hb); have n2_ := Aside0.mk (blk_below (g := gb313) (o := .cells #[.bool false, .string (⟨#[]⟩ : ByteArray), .int .i64 0] 26 (0, 0)) (by refine blk_up ?_; exact BK313.out) hb); have n3_ := Aside0.mk (below_step (by repeat (first | (with_reducible first | exact HB.out | apply below_alloc | apply pw_below_drewN | apply below_drew1 | refine below_set ?_ GE311.out | refine below_set ?_ GE312.out | refine below_set ?_ GE313.out) | exact HB.out)) hb); clear BK311; clear BK312; clear BK313; clear HB; have BK311 := n0_; have BK312 := n1_; have BK313 := n2_; have HB := n3_; clear n0_ n1_ n2_ n3_; (try clear hb); (try clear hb2); (try clear hk); (try clear hi); have hnb14 := NB312_313.out; have hnc14 := NB313_312.out; have hcz15_0 : w13.cell? ⟨gb312, 0, none⟩ = some (.bool a1_0) := (blk_cell BK312.out 0).trans rfl; have hcz15_1 : w13.cell? ⟨gb312, 1, none⟩ = some (.string a1_1) := (blk_cell BK312.out 1).trans rfl; have hcz15_2 : w13.cell? ⟨gb312, 2, none⟩ = some (.int .i64 a1_2) := (blk_cell BK312.out 2).trans rfl; have hfz15_0 := blk_frozen BK312.out 0; have hfz15_1 := blk_frozen BK312.out 1; have hfz15_2 := blk_frozen BK312.out 2) | (go_at_call 27; (with_reducible refine (impl_DecOk.calls a1_0 a1_1 a1_2 t315 _ A9.out).mono ?_); rintro e w16 ⟨rfl, hb⟩; have n0_ := Aside0.mk (blk_below (g := gb311) (o := .cells #[.bool a0_0, .string a0_1, .int .i64 a0_2] 26 (0, 0)) (by refine blk_up ?_; exact BK311.out) hb); have n1_ := Aside0.mk (blk_below (g := gb312) (o := .cells #[.bool a1_0, .string a1_1, .int .i64 a1_2] 26 (0, 0)) (by refine blk_up ?_; exact BK312.out) hb); have n2_ := Aside0.mk (blk_below (g := gb313) (o := .cells #[.bool false, .string (⟨#[]⟩ : ByteArray), .int .i64 0] 26 (0, 0)) (by refine blk_up ?_; exact BK313.out) hb); have n3_ := Aside0.mk (below_step (by repeat (first | (with_reducible first | exact HB.out | apply below_alloc | apply pw_below_drewN | apply below_drew1 | refine below_set ?_ GE311.out | refine below_set ?_ GE312.out | refine below_set ?_ GE313.out) | exact HB.out)) hb); clear BK311; clear BK312; clear BK313; clear HB; have BK311 := n0_; have BK312 := n1_; have BK313 := n2_; have HB := n3_; clear n0_ n1_ n2_ n3_; (try clear hb); (try clear hb2); (try clear hk); (try clear hi)))
      go_meet
      case rel => exact ⟨_, (!t315), (by first | rfl | (simp; done) | (simp [*]; done)), H', ⟨by first | omega | exact Nat.le_refl _⟩, ⟨by refine blk_up ?_; exact BK311.out⟩, ⟨by refine blk_up ?_; exact BK312.out⟩, ⟨by refine blk_up ?_; exact BK313.out⟩, ⟨by repeat (first | (with_reducible first | exact HB.out | apply below_alloc | apply pw_below_drewN | apply below_drew1 | refine below_set ?_ GE311.out | refine below_set ?_ GE312.out | refine below_set ?_ GE313.out) | exact HB.out)⟩⟩
    · replace c8 := Bool.eq_false_iff.mpr c8
      subst c8
      have H1 : (impl_AddDec.j0 k true a0_0 a0_1 a0_2 a1_0 a1_1 a1_2) = some (r1, r2, r3, r4) := by rw [if_neg (show ¬ (false = true) by decide)] at H; exact H
      clear H
      have H := H1
      clear H1
      have H' := Aside0.mk H
      clear H
      have hnb17 := NB311_312.out
      have hnc17 := NB312_311.out
      have hnb18 := NB311_313.out
      have hnc18 := NB313_311.out
      have hcz19_0 : w6.cell? ⟨gb311, 0, none⟩ = some (.bool a0_0) := (blk_cell BK311.out 0).trans rfl
      have hcz19_1 : w6.cell? ⟨gb311, 1, none⟩ = some (.string a0_1) := (blk_cell BK311.out 1).trans rfl
      have hcz19_2 : w6.cell? ⟨gb311, 2, none⟩ = some (.int .i64 a0_2) := (blk_cell BK311.out 2).trans rfl
      have hfz19_0 := blk_frozen BK311.out 0
      have hfz19_1 := blk_frozen BK311.out 1
      have hfz19_2 := blk_frozen BK311.out 2
      go_wp2_with (first | ((with_reducible refine gate_callee (f := 27) rfl ?_); refine goesL_ (some 10) rfl rfl Tryd.func27 (by kernel_rfl) rfl #[.agg #[.bool a0_0, .string a0_1, .int .i64 a0_2]] rfl (by (try simp only [List.map_toArray, List.map_cons, List.map_nil]); first | done | rfl | (simp only [List.length_drop, List.length_take]; rfl)) ?_; (with_reducible refine (impl_DecOk.calls a0_0 a0_1 a0_2 false _ A7.out).mono ?_); rintro e w20 ⟨rfl, hb⟩; refine ⟨_, rfl, ?_⟩; have n0_ := Aside0.mk (blk_below (g := gb311) (o := .cells #[.bool a0_0, .string a0_1, .int .i64 a0_2] 26 (0, 0)) (by refine blk_up ?_; exact BK311.out) hb); have n1_ := Aside0.mk (blk_below (g := gb312) (o := .cells #[.bool a1_0, .string a1_1, .int .i64 a1_2] 26 (0, 0)) (by refine blk_up ?_; exact BK312.out) hb); have n2_ := Aside0.mk (blk_below (g := gb313) (o := .cells #[.bool false, .string (⟨#[]⟩ : ByteArray), .int .i64 0] 26 (0, 0)) (by refine blk_up ?_; exact BK313.out) hb); have n3_ := Aside0.mk (below_step (by repeat (first | (with_reducible first | exact HB.out | apply below_alloc | apply pw_below_drewN | apply below_drew1 | refine below_set ?_ GE311.out | refine below_set ?_ GE312.out | refine below_set ?_ GE313.out) | exact HB.out)) hb); clear BK311; clear BK312; clear BK313; clear HB; have BK311 := n0_; have BK312 := n1_; have BK313 := n2_; have HB := n3_; clear n0_ n1_ n2_ n3_; (try clear hb); (try clear hb2); (try clear hk); (try clear hi)))
      go_meet
      case rel => exact ⟨_, (true), (by first | rfl | (simp; done) | (simp [*]; done)), H', ⟨by first | omega | exact Nat.le_refl _⟩, ⟨by refine blk_up ?_; exact BK311.out⟩, ⟨by refine blk_up ?_; exact BK312.out⟩, ⟨by refine blk_up ?_; exact BK313.out⟩, ⟨by repeat (first | (with_reducible first | exact HB.out | apply below_alloc | apply pw_below_drewN | apply below_drew1 | refine below_set ?_ GE311.out | refine below_set ?_ GE312.out | refine below_set ?_ GE313.out) | exact HB.out)⟩⟩
  case rest =>
    clear HC3
    try clear c1
    try clear c2
    try clear p2
    try clear c8
    try clear c10
    try clear c11
    try clear c14
    try clear c17
    try clear c18
    try clear c20
    try clear hcz12_0
    try clear hcz12_1
    try clear hcz12_2
    try clear hcz15_0
    try clear hcz15_1
    try clear hcz15_2
    try clear hcz19_0
    try clear hcz19_1
    try clear hcz19_2
    try clear hfz12_0
    try clear hfz12_1
    try clear hfz12_2
    try clear hfz15_0
    try clear hfz15_1
    try clear hfz15_2
    try clear hfz19_0
    try clear hfz19_1
    try clear hfz19_2
    obtain ⟨kq, x16_2, rfl, HA, HJ2, BK311, BK312, BK313, HB⟩ := hcut
    cases kq with
    | zero => exact absurd HA.out (by simp [impl_AddDec.j0])
    | succ kj2 =>
      have H := HA.out
      clear HA
      simp only [impl_AddDec.j0] at H
      by_cases c21 : x16_2 = true
      · subst c21
        have H1 : (some (false, (⟨#[]⟩ : ByteArray), 0, false)) = some (r1, r2, r3, r4) := by rw [if_pos rfl] at H; exact H
        clear H
        have H := H1
        clear H1
        simp only [Option.some.injEq, Prod.mk.injEq] at H
        obtain ⟨rfl, rfl, rfl, rfl⟩ := H
        have hnb22 := NB313_311.out
        have hnc22 := NB311_313.out
        have hnb23 := NB313_312.out
        have hnc23 := NB312_313.out
        have hcz24_0 : wc.cell? ⟨gb313, 0, none⟩ = some (.bool false) := (blk_cell BK313.out 0).trans rfl
        have hcz24_1 : wc.cell? ⟨gb313, 1, none⟩ = some (.string (⟨#[]⟩ : ByteArray)) := (blk_cell BK313.out 1).trans rfl
        have hcz24_2 : wc.cell? ⟨gb313, 2, none⟩ = some (.int .i64 0) := (blk_cell BK313.out 2).trans rfl
        have hfz24_0 := blk_frozen BK313.out 0
        have hfz24_1 := blk_frozen BK313.out 1
        have hfz24_2 := blk_frozen BK313.out 2
        go_wp2
        refine bodyPost_ret (results_ct rfl _ _ gb313 26 #[.bool false, .string (⟨#[]⟩ : ByteArray), .int .i64 0] (0, 0) _ rfl (by refine blk_up ?_; refine blk_put (cs := #[.bool false, .string (⟨#[]⟩ : ByteArray), .int .i64 0]) ?_ 2 _ rfl; refine blk_up ?_; refine blk_put (cs := #[.bool false, .string (⟨#[]⟩ : ByteArray), .int .i64 0]) ?_ 1 _ rfl; refine blk_up ?_; refine blk_put (cs := #[.bool false, .string (⟨#[]⟩ : ByteArray), .int .i64 0]) ?_ 0 _ rfl; refine blk_up ?_; exact BK313.out) Tryd.underlying26 rfl (by kernel_rfl)) rfl ?_
        exact ⟨by first | rfl | (simp [errW_none, errW_some] <;> rfl) | (simp [*, errW_none, errW_some] <;> rfl), by repeat (first | (with_reducible first | exact HB.out | apply below_alloc | apply pw_below_drewN | apply below_drew1 | refine below_set ?_ GE311.out | refine below_set ?_ GE312.out | refine below_set ?_ GE313.out) | exact HB.out)⟩
      · replace c21 := Bool.eq_false_iff.mpr c21
        subst c21
        have H1 : ((impl_level.f a0_0 a0_1 a0_2 a1_0 a1_1 a1_2).bind fun bt316 => (if (a0_0 == a1_0) = true then ((impl_plusDigits.f kj2 bt316.1 bt316.2.1).bind fun t319 => ((impl_made.f kj2 a0_0 t319 bt316.2.2).bind fun bt320 => (some (bt320.1, bt320.2.1, bt320.2.2.1, bt320.2.2.2)))) else (if ((Op.bytesLess bt316.1.toList bt316.2.1.toList) = true) then ((impl_minusDigits.f kj2 bt316.2.1 bt316.1).bind fun t324 => ((impl_made.f kj2 a1_0 t324 bt316.2.2).bind fun bt325 => (some (bt325.1, bt325.2.1, bt325.2.2.1, bt325.2.2.2)))) else ((impl_minusDigits.f kj2 bt316.1 bt316.2.1).bind fun t329 => ((impl_made.f kj2 a0_0 t329 bt316.2.2).bind fun bt330 => (some (bt330.1, bt330.2.1, bt330.2.2.1, bt330.2.2.2))))))) = some (r1, r2, r3, r4) := by rw [if_neg (show ¬ (false = true) by decide)] at H; exact H
        clear H
        have H := H1
        clear H1
        replace H := Option.bind_eq_some_iff.mp H
        obtain ⟨⟨t316, t317, t318⟩, A250, H⟩ := H
        replace H : (if (a0_0 == a1_0) = true then ((impl_plusDigits.f kj2 t316 t317).bind fun t319 => ((impl_made.f kj2 a0_0 t319 t318).bind fun bt320 => (some (bt320.1, bt320.2.1, bt320.2.2.1, bt320.2.2.2)))) else (if ((Op.bytesLess t316.toList t317.toList) = true) then ((impl_minusDigits.f kj2 t317 t316).bind fun t324 => ((impl_made.f kj2 a1_0 t324 t318).bind fun bt325 => (some (bt325.1, bt325.2.1, bt325.2.2.1, bt325.2.2.2)))) else ((impl_minusDigits.f kj2 t316 t317).bind fun t329 => ((impl_made.f kj2 a0_0 t329 t318).bind fun bt330 => (some (bt330.1, bt330.2.1, bt330.2.2.1, bt330.2.2.2)))))) = some (r1, r2, r3, r4) := H
        have A25 := Aside0.mk A250
        clear A250
        by_cases c26 : (a0_0 == a1_0) = true
        · rw [if_pos c26] at H
          have c26b0 : (a0_0 == a1_0) = true := c26
          (try (have c26b1 : decide (a0_0 = a1_0) = true := by simpa using c26))
          (try (have c26b2 : (a0_0 == a1_0) = true := by simpa using c26))
          clear c26
          replace H := Option.bind_eq_some_iff.mp H
          obtain ⟨t319, A270, H⟩ := H
          replace H : ((impl_made.f kj2 a0_0 t319 t318).bind fun bt320 => (some (bt320.1, bt320.2.1, bt320.2.2.1, bt320.2.2.2))) = some (r1, r2, r3, r4) := H
          have A27 := Aside0.mk A270
          clear A270
          replace H := Option.bind_eq_some_iff.mp H
          obtain ⟨⟨t320, t321, t322, t323⟩, A280, H⟩ := H
          replace H : (some (t320, t321, t322, t323)) = some (r1, r2, r3, r4) := H
          have A28 := Aside0.mk A280
          clear A280
          simp only [Option.some.injEq, Prod.mk.injEq] at H
          obtain ⟨rfl, rfl, rfl, rfl⟩ := H
          have hnb29 := NB311_312.out
          have hnc29 := NB312_311.out
          have hnb30 := NB311_313.out
          have hnc30 := NB313_311.out
          have hcz31_0 : wc.cell? ⟨gb311, 0, none⟩ = some (.bool a0_0) := (blk_cell BK311.out 0).trans rfl
          have hcz31_1 : wc.cell? ⟨gb311, 1, none⟩ = some (.string a0_1) := (blk_cell BK311.out 1).trans rfl
          have hcz31_2 : wc.cell? ⟨gb311, 2, none⟩ = some (.int .i64 a0_2) := (blk_cell BK311.out 2).trans rfl
          have hfz31_0 := blk_frozen BK311.out 0
          have hfz31_1 := blk_frozen BK311.out 1
          have hfz31_2 := blk_frozen BK311.out 2
          have hnb32 := NB312_313.out
          have hnc32 := NB313_312.out
          have hcz33_0 : wc.cell? ⟨gb312, 0, none⟩ = some (.bool a1_0) := (blk_cell BK312.out 0).trans rfl
          have hcz33_1 : wc.cell? ⟨gb312, 1, none⟩ = some (.string a1_1) := (blk_cell BK312.out 1).trans rfl
          have hcz33_2 : wc.cell? ⟨gb312, 2, none⟩ = some (.int .i64 a1_2) := (blk_cell BK312.out 2).trans rfl
          have hfz33_0 := blk_frozen BK312.out 0
          have hfz33_1 := blk_frozen BK312.out 1
          have hfz33_2 := blk_frozen BK312.out 2
          try go_wp2_with (first | ((with_reducible refine gate_callee (f := 51) rfl ?_); refine goesL_ (some 21) rfl rfl Tryd.func51 (by kernel_rfl) rfl #[.agg #[.bool a0_0, .string a0_1, .int .i64 a0_2], .agg #[.bool a1_0, .string a1_1, .int .i64 a1_2]] rfl (by (try simp only [List.map_toArray, List.map_cons, List.map_nil]); first | done | rfl | (simp only [List.length_drop, List.length_take]; rfl)) ?_; (with_reducible refine (impl_level.calls a0_0 a0_1 a0_2 a1_0 a1_1 a1_2 t316 t317 t318 _ A25.out).mono ?_); rintro e w34 ⟨rfl, hb⟩; refine ⟨_, rfl, ?_⟩; have n0_ := Aside0.mk (blk_below (g := gb311) (o := .cells #[.bool a0_0, .string a0_1, .int .i64 a0_2] 26 (0, 0)) (by refine blk_up ?_; exact BK311.out) hb); have n1_ := Aside0.mk (blk_below (g := gb312) (o := .cells #[.bool a1_0, .string a1_1, .int .i64 a1_2] 26 (0, 0)) (by refine blk_up ?_; exact BK312.out) hb); have n2_ := Aside0.mk (blk_below (g := gb313) (o := .cells #[.bool false, .string (⟨#[]⟩ : ByteArray), .int .i64 0] 26 (0, 0)) (by refine blk_up ?_; exact BK313.out) hb); have n3_ := Aside0.mk (below_step (by repeat (first | (with_reducible first | exact HB.out | apply below_alloc | apply pw_below_drewN | apply below_drew1 | refine below_set ?_ GE311.out | refine below_set ?_ GE312.out | refine below_set ?_ GE313.out) | exact HB.out)) hb); clear BK311; clear BK312; clear BK313; clear HB; have BK311 := n0_; have BK312 := n1_; have BK313 := n2_; have HB := n3_; clear n0_ n1_ n2_ n3_; (try clear hb); (try clear hb2); (try clear hk); (try clear hi); have hcz35_0 : w34.cell? ⟨gb311, 0, none⟩ = some (.bool a0_0) := (blk_cell BK311.out 0).trans rfl; have hcz35_1 : w34.cell? ⟨gb311, 1, none⟩ = some (.string a0_1) := (blk_cell BK311.out 1).trans rfl; have hcz35_2 : w34.cell? ⟨gb311, 2, none⟩ = some (.int .i64 a0_2) := (blk_cell BK311.out 2).trans rfl; have hfz35_0 := blk_frozen BK311.out 0; have hfz35_1 := blk_frozen BK311.out 1; have hfz35_2 := blk_frozen BK311.out 2; have hcz36_0 : w34.cell? ⟨gb312, 0, none⟩ = some (.bool a1_0) := (blk_cell BK312.out 0).trans rfl; have hcz36_1 : w34.cell? ⟨gb312, 1, none⟩ = some (.string a1_1) := (blk_cell BK312.out 1).trans rfl; have hcz36_2 : w34.cell? ⟨gb312, 2, none⟩ = some (.int .i64 a1_2) := (blk_cell BK312.out 2).trans rfl; have hfz36_0 := blk_frozen BK312.out 0; have hfz36_1 := blk_frozen BK312.out 1; have hfz36_2 := blk_frozen BK312.out 2))
          have n0_ := Aside0.mk (blk_drew BK311.out)
          have n1_ := Aside0.mk (blk_drew BK312.out)
          have n2_ := Aside0.mk (blk_drew BK313.out)
          have n3_ := Aside0.mk (below_drew1 HB.out)
          clear BK311
          clear BK312
          clear BK313
          clear HB
          have BK311 := n0_
          have BK312 := n1_
          have BK313 := n2_
          have HB := n3_
          clear n0_ n1_ n2_ n3_
          refine start_ (n := 11) (S := fun w' => w'.cell? ⟨gb311, 0, none⟩ = some (.bool a0_0) ∧ w'.cell? ⟨gb311, 1, none⟩ = some (.string a0_1) ∧ w'.cell? ⟨gb311, 2, none⟩ = some (.int .i64 a0_2)) (ds := []) #[false, false, false, false, false, false, false, false, false, false, false] (by kernel_rfl) rfl rfl ⟨(blk_cell BK311.out 0).trans rfl, (blk_cell BK311.out 1).trans rfl, (blk_cell BK311.out 2).trans rfl⟩ (fun hHeld => ?_); refine with_tabW impl_AddDec.tab5 impl_AddDec.bits5 (fun HT_ HW_ => ?_)
          generalize w34.drew = w37 at BK311 BK312 BK313 HB hHeld ⊢
          refine pure_ (i := 0) (N := some 31) (v := ?_) (a' := ?_) #[true, false, false, false, false, false, false, false, false, false, false] rfl rfl (any_of HT_.out (by kernel_rfl)) (fun _ _ _ h => h) (Or.inl ⟨by rfl, ?_⟩) ?_ ?_
          rotate_left
          · intro w'
            go_simp
            with_reducible rfl
          rotate_left
          · simp only [Act.put, List.setIfInBounds_toArray, List.set_cons_zero, List.set_cons_succ, i64_w, i32_w]
            rfl
          refine pure_ (i := 2) (N := some 33) (v := ?_) (a' := ?_) #[true, false, true, false, false, false, false, false, false, false, false] rfl rfl (any_of HT_.out (by kernel_rfl)) (fun _ _ _ h => h) (Or.inl ⟨by rfl, ?_⟩) ?_ ?_
          rotate_left
          · intro w'
            go_simp
            with_reducible rfl
          rotate_left
          · simp only [Act.put, List.setIfInBounds_toArray, List.set_cons_zero, List.set_cons_succ, i64_w, i32_w]
            rfl
          refine pure_ (i := 3) (N := some 34) (v := ?_) (a' := ?_) #[true, false, true, true, false, false, false, false, false, false, false] rfl rfl (any_of HT_.out (by kernel_rfl)) (fun _ _ _ h => h) (Or.inl ⟨by rfl, ?_⟩) ?_ ?_
          rotate_left
          · intro w'
            go_simp
            with_reducible rfl
          rotate_left
          · simp only [Act.put, List.setIfInBounds_toArray, List.set_cons_zero, List.set_cons_succ, i64_w, i32_w]
            rfl
          refine pure_ (i := 5) (N := some 36) (v := ?_) (a' := ?_) #[true, false, true, true, false, true, false, false, false, false, false] rfl rfl (any_of HT_.out (by kernel_rfl)) (fun _ _ _ h => h) (Or.inl ⟨by rfl, ?_⟩) ?_ ?_
          rotate_left
          · intro w'
            go_simp
            with_reducible rfl
          rotate_left
          · simp only [Act.put, List.setIfInBounds_toArray, List.set_cons_zero, List.set_cons_succ, i64_w, i32_w]
            rfl
          refine take_ (i := 1) (N := some 32) (v := ?_) (a' := ?_) #[true, true, true, true, false, true, false, false, false, false, false] rfl rfl (take_ofW HT_.out HW_.out (by kernel_rfl)) (fun _ _ _ h => h) (Or.inl ⟨by rfl, ?_⟩) hHeld ?_ ?_
          rotate_left
          · rintro w' ⟨s0, s1, s2⟩
            go_simp
            with_reducible rfl
          rotate_left
          · simp only [Act.put, List.setIfInBounds_toArray, List.set_cons_zero, List.set_cons_succ, i64_w, i32_w]
            rfl
          refine one_ (i := 4) (N := some 35) #[true, true, true, true, true, true, false, false, false, false, false] rfl rfl (one_of HT_.out (by kernel_rfl)) (by decide) (fun K hK => ?_)
          refine goes_ Tryd.func59 (by kernel_rfl) rfl #[.string t316, .string t317] (by rfl) rfl rfl (by (try simp only [List.map_toArray, List.map_cons, List.map_nil]); first | done | rfl | (simp only [List.length_drop, List.length_take]; rfl)) ?_
          with_reducible refine (impl_plusDigits.calls kj2 t316 t317 t319 _ A27.out).mono ?_
          rintro e w38 ⟨rfl, hb⟩
          refine ⟨_, rfl, ?_⟩
          have n0_ := Aside0.mk (blk_below (g := gb311) (o := .cells #[.bool a0_0, .string a0_1, .int .i64 a0_2] 26 (0, 0)) (by refine blk_up ?_; exact BK311.out) hb)
          have n1_ := Aside0.mk (blk_below (g := gb312) (o := .cells #[.bool a1_0, .string a1_1, .int .i64 a1_2] 26 (0, 0)) (by refine blk_up ?_; exact BK312.out) hb)
          have n2_ := Aside0.mk (blk_below (g := gb313) (o := .cells #[.bool false, .string (⟨#[]⟩ : ByteArray), .int .i64 0] 26 (0, 0)) (by refine blk_up ?_; exact BK313.out) hb)
          have n3_ := Aside0.mk (below_step (by repeat (first | (with_reducible first | exact HB.out | apply below_alloc | apply pw_below_drewN | apply below_drew1 | refine below_set ?_ GE311.out | refine below_set ?_ GE312.out | refine below_set ?_ GE313.out) | exact HB.out)) hb)
          clear BK311
          clear BK312
          clear BK313
          clear HB
          have BK311 := n0_
          have BK312 := n1_
          have BK313 := n2_
          have HB := n3_
          clear n0_ n1_ n2_ n3_
          (try clear hb)
          (try clear hb2)
          (try clear hk)
          (try clear hi)
          refine hK.out _ _ ⟨(blk_cell BK311.out 0).trans rfl, (blk_cell BK311.out 1).trans rfl, (blk_cell BK311.out 2).trans rfl⟩ (fun hHeld => ?_)
          clear hK K
          refine norm_ (a' := ?_) ?_ ?_
          rotate_left
          · show Act.put _ (some 35) _ = _
            simp only [Act.put, List.setIfInBounds_toArray, List.set_cons_zero, List.set_cons_succ, i64_w, i32_w]
            rfl
          refine one_ (i := 6) (N := some 37) #[true, true, true, true, true, true, true, false, false, false, false] rfl rfl (one_of HT_.out (by kernel_rfl)) (by decide) (fun K hK => ?_)
          refine goes_ Tryd.func54 (by kernel_rfl) rfl #[.bool a0_0, .string t319, .int .i64 t318] (by rfl) rfl rfl (by (try simp only [List.map_toArray, List.map_cons, List.map_nil]); first | done | rfl | (simp only [List.length_drop, List.length_take]; rfl)) ?_
          with_reducible refine (impl_made.calls kj2 a0_0 t319 t318 t320 t321 t322 t323 _ A28.out).mono ?_
          rintro e w39 ⟨rfl, hb⟩
          refine ⟨_, rfl, ?_⟩
          have n0_ := Aside0.mk (blk_below (g := gb311) (o := .cells #[.bool a0_0, .string a0_1, .int .i64 a0_2] 26 (0, 0)) (by refine blk_up ?_; exact BK311.out) hb)
          have n1_ := Aside0.mk (blk_below (g := gb312) (o := .cells #[.bool a1_0, .string a1_1, .int .i64 a1_2] 26 (0, 0)) (by refine blk_up ?_; exact BK312.out) hb)
          have n2_ := Aside0.mk (blk_below (g := gb313) (o := .cells #[.bool false, .string (⟨#[]⟩ : ByteArray), .int .i64 0] 26 (0, 0)) (by refine blk_up ?_; exact BK313.out) hb)
          have n3_ := Aside0.mk (below_step (by repeat (first | (with_reducible first | exact HB.out | apply below_alloc | apply pw_below_drewN | apply below_drew1 | refine below_set ?_ GE311.out | refine below_set ?_ GE312.out | refine below_set ?_ GE313.out) | exact HB.out)) hb)
          clear BK311
          clear BK312
          clear BK313
          clear HB
          have BK311 := n0_
          have BK312 := n1_
          have BK313 := n2_
          have HB := n3_
          clear n0_ n1_ n2_ n3_
          (try clear hb)
          (try clear hb2)
          (try clear hk)
          (try clear hi)
          refine hK.out _ _ ⟨(blk_cell BK311.out 0).trans rfl, (blk_cell BK311.out 1).trans rfl, (blk_cell BK311.out 2).trans rfl⟩ (fun hHeld => ?_)
          clear hK K
          refine norm_ (a' := ?_) ?_ ?_
          rotate_left
          · show Act.put _ (some 37) _ = _
            simp only [Act.put, List.setIfInBounds_toArray, List.set_cons_zero, List.set_cons_succ, i64_w, i32_w]
            rfl
          refine pure_ (i := 7) (N := some 38) (v := ?_) (a' := ?_) #[true, true, true, true, true, true, true, true, false, false, false] rfl rfl (any_of HT_.out (by kernel_rfl)) (fun _ _ _ h => h) (Or.inl ⟨by rfl, ?_⟩) ?_ ?_
          rotate_left
          · intro w'
            go_simp
            with_reducible rfl
          rotate_left
          · simp only [Act.put, List.setIfInBounds_toArray, List.set_cons_zero, List.set_cons_succ, i64_w, i32_w]
            rfl
          refine pure_ (i := 8) (N := some 39) (v := ?_) (a' := ?_) #[true, true, true, true, true, true, true, true, true, false, false] rfl rfl (any_of HT_.out (by kernel_rfl)) (fun _ _ _ h => h) (Or.inl ⟨by rfl, ?_⟩) ?_ ?_
          rotate_left
          · intro w'
            go_simp
            with_reducible rfl
          rotate_left
          · simp only [Act.put, List.setIfInBounds_toArray, List.set_cons_zero, List.set_cons_succ, i64_w, i32_w]
            rfl
          refine one_ (i := 9) (N := none) #[true, true, true, true, true, true, true, true, true, true, false] rfl rfl (one_of HT_.out (by kernel_rfl)) (by decide) (fun K hK => ?_)
          have hs40 : w39.cell? ⟨gb313, 0, none⟩ = some (.bool false) := (blk_cell BK313.out 0).trans rfl
          have hfs40 := blk_frozen BK313.out 0
          have hns40_0 := NB311_313.out
          have hns40_1 := NB312_313.out
          have hms40_0 := NB313_311.out
          have hms40_1 := NB313_312.out
          have hs41 : w39.cell? ⟨gb313, 1, none⟩ = some (.string (⟨#[]⟩ : ByteArray)) := (blk_cell BK313.out 1).trans rfl
          have hfs41 := blk_frozen BK313.out 1
          have hns41_0 := NB311_313.out
          have hns41_1 := NB312_313.out
          have hms41_0 := NB313_311.out
          have hms41_1 := NB313_312.out
          have hs42 : w39.cell? ⟨gb313, 2, none⟩ = some (.int .i64 0) := (blk_cell BK313.out 2).trans rfl
          have hfs42 := blk_frozen BK313.out 2
          have hns42_0 := NB311_313.out
          have hns42_1 := NB312_313.out
          have hms42_0 := NB313_311.out
          have hms42_1 := NB313_312.out
          refine skip_ (w1 := ?_) (by rfl) rfl ?_ ?_
          rotate_left
          · go_simp
            rfl
          refine hK.out _ _ ⟨((cell_far (p := ⟨gb313, _, none⟩) NB311_313.out _).trans (((cell_far (p := ⟨gb313, _, none⟩) NB311_313.out _).trans (((cell_far (p := ⟨gb313, _, none⟩) NB311_313.out _).trans (hHeld.1)))))), ((cell_far (p := ⟨gb313, _, none⟩) NB311_313.out _).trans (((cell_far (p := ⟨gb313, _, none⟩) NB311_313.out _).trans (((cell_far (p := ⟨gb313, _, none⟩) NB311_313.out _).trans (hHeld.2.1)))))), ((cell_far (p := ⟨gb313, _, none⟩) NB311_313.out _).trans (((cell_far (p := ⟨gb313, _, none⟩) NB311_313.out _).trans (((cell_far (p := ⟨gb313, _, none⟩) NB311_313.out _).trans (hHeld.2.2))))))⟩ (fun hHeld => ?_)
          clear hK K
          refine pure_ (i := 10) (N := some 5) (v := ?_) (a' := ?_) #[true, true, true, true, true, true, true, true, true, true, true] rfl rfl (any_of HT_.out (by kernel_rfl)) (fun _ _ _ h => h) (Or.inl ⟨by rfl, ?_⟩) ?_ ?_
          rotate_left
          · intro w'
            go_simp
            with_reducible rfl
          rotate_left
          · simp only [Act.put, List.setIfInBounds_toArray, List.set_cons_zero, List.set_cons_succ, i64_w, i32_w]
            rfl
          refine done_ (done_of HT_.out (by kernel_rfl)) ?_
          try go_wp2
          refine bodyPost_ret (results_ct rfl _ _ gb313 26 #[.bool t320, .string t321, .int .i64 t322] (0, 0) _ rfl (by refine blk_up ?_; refine blk_put (cs := #[.bool t320, .string t321, .int .i64 0]) ?_ 2 _ rfl; refine blk_up ?_; refine blk_put (cs := #[.bool t320, .string (⟨#[]⟩ : ByteArray), .int .i64 0]) ?_ 1 _ rfl; refine blk_up ?_; refine blk_put (cs := #[.bool false, .string (⟨#[]⟩ : ByteArray), .int .i64 0]) ?_ 0 _ rfl; refine blk_up ?_; exact BK313.out) Tryd.underlying26 rfl (by kernel_rfl)) rfl ?_
          exact ⟨by first | rfl | (simp [errW_none, errW_some] <;> rfl) | (simp [*, errW_none, errW_some] <;> rfl), by repeat (first | (with_reducible first | exact HB.out | apply below_alloc | apply pw_below_drewN | apply below_drew1 | refine below_set ?_ GE311.out | refine below_set ?_ GE312.out | refine below_set ?_ GE313.out) | exact HB.out)⟩
        · rw [if_neg c26] at H
          have c26b0 : (a0_0 == a1_0) = false := by simpa using c26
          (try (have c26b1 : decide (a0_0 = a1_0) = false := by simpa using c26))
          (try (have c26b2 : (a0_0 == a1_0) = false := by simpa using c26))
          (try (have c26b3 : ¬ (a0_0 = a1_0) := by simpa using c26))
          clear c26
          by_cases c43 : ((Op.bytesLess t316.toList t317.toList) = true)
          · rw [if_pos c43] at H
            have c43b0 : (Op.bytesLess t316.toList t317.toList) = true := c43
            clear c43
            replace H := Option.bind_eq_some_iff.mp H
            obtain ⟨t324, A440, H⟩ := H
            replace H : ((impl_made.f kj2 a1_0 t324 t318).bind fun bt325 => (some (bt325.1, bt325.2.1, bt325.2.2.1, bt325.2.2.2))) = some (r1, r2, r3, r4) := H
            have A44 := Aside0.mk A440
            clear A440
            replace H := Option.bind_eq_some_iff.mp H
            obtain ⟨⟨t325, t326, t327, t328⟩, A450, H⟩ := H
            replace H : (some (t325, t326, t327, t328)) = some (r1, r2, r3, r4) := H
            have A45 := Aside0.mk A450
            clear A450
            simp only [Option.some.injEq, Prod.mk.injEq] at H
            obtain ⟨rfl, rfl, rfl, rfl⟩ := H
            have hnb46 := NB311_312.out
            have hnc46 := NB312_311.out
            have hnb47 := NB311_313.out
            have hnc47 := NB313_311.out
            have hcz48_0 : wc.cell? ⟨gb311, 0, none⟩ = some (.bool a0_0) := (blk_cell BK311.out 0).trans rfl
            have hcz48_1 : wc.cell? ⟨gb311, 1, none⟩ = some (.string a0_1) := (blk_cell BK311.out 1).trans rfl
            have hcz48_2 : wc.cell? ⟨gb311, 2, none⟩ = some (.int .i64 a0_2) := (blk_cell BK311.out 2).trans rfl
            have hfz48_0 := blk_frozen BK311.out 0
            have hfz48_1 := blk_frozen BK311.out 1
            have hfz48_2 := blk_frozen BK311.out 2
            have hnb49 := NB312_313.out
            have hnc49 := NB313_312.out
            have hcz50_0 : wc.cell? ⟨gb312, 0, none⟩ = some (.bool a1_0) := (blk_cell BK312.out 0).trans rfl
            have hcz50_1 : wc.cell? ⟨gb312, 1, none⟩ = some (.string a1_1) := (blk_cell BK312.out 1).trans rfl
            have hcz50_2 : wc.cell? ⟨gb312, 2, none⟩ = some (.int .i64 a1_2) := (blk_cell BK312.out 2).trans rfl
            have hfz50_0 := blk_frozen BK312.out 0
            have hfz50_1 := blk_frozen BK312.out 1
            have hfz50_2 := blk_frozen BK312.out 2
            try go_wp2_with (first | ((with_reducible refine gate_callee (f := 51) rfl ?_); refine goesL_ (some 21) rfl rfl Tryd.func51 (by kernel_rfl) rfl #[.agg #[.bool a0_0, .string a0_1, .int .i64 a0_2], .agg #[.bool a1_0, .string a1_1, .int .i64 a1_2]] rfl (by (try simp only [List.map_toArray, List.map_cons, List.map_nil]); first | done | rfl | (simp only [List.length_drop, List.length_take]; rfl)) ?_; (with_reducible refine (impl_level.calls a0_0 a0_1 a0_2 a1_0 a1_1 a1_2 t316 t317 t318 _ A25.out).mono ?_); rintro e w51 ⟨rfl, hb⟩; refine ⟨_, rfl, ?_⟩; have n0_ := Aside0.mk (blk_below (g := gb311) (o := .cells #[.bool a0_0, .string a0_1, .int .i64 a0_2] 26 (0, 0)) (by refine blk_up ?_; exact BK311.out) hb); have n1_ := Aside0.mk (blk_below (g := gb312) (o := .cells #[.bool a1_0, .string a1_1, .int .i64 a1_2] 26 (0, 0)) (by refine blk_up ?_; exact BK312.out) hb); have n2_ := Aside0.mk (blk_below (g := gb313) (o := .cells #[.bool false, .string (⟨#[]⟩ : ByteArray), .int .i64 0] 26 (0, 0)) (by refine blk_up ?_; exact BK313.out) hb); have n3_ := Aside0.mk (below_step (by repeat (first | (with_reducible first | exact HB.out | apply below_alloc | apply pw_below_drewN | apply below_drew1 | refine below_set ?_ GE311.out | refine below_set ?_ GE312.out | refine below_set ?_ GE313.out) | exact HB.out)) hb); clear BK311; clear BK312; clear BK313; clear HB; have BK311 := n0_; have BK312 := n1_; have BK313 := n2_; have HB := n3_; clear n0_ n1_ n2_ n3_; (try clear hb); (try clear hb2); (try clear hk); (try clear hi); have hcz52_0 : w51.cell? ⟨gb311, 0, none⟩ = some (.bool a0_0) := (blk_cell BK311.out 0).trans rfl; have hcz52_1 : w51.cell? ⟨gb311, 1, none⟩ = some (.string a0_1) := (blk_cell BK311.out 1).trans rfl; have hcz52_2 : w51.cell? ⟨gb311, 2, none⟩ = some (.int .i64 a0_2) := (blk_cell BK311.out 2).trans rfl; have hfz52_0 := blk_frozen BK311.out 0; have hfz52_1 := blk_frozen BK311.out 1; have hfz52_2 := blk_frozen BK311.out 2; have hcz53_0 : w51.cell? ⟨gb312, 0, none⟩ = some (.bool a1_0) := (blk_cell BK312.out 0).trans rfl; have hcz53_1 : w51.cell? ⟨gb312, 1, none⟩ = some (.string a1_1) := (blk_cell BK312.out 1).trans rfl; have hcz53_2 : w51.cell? ⟨gb312, 2, none⟩ = some (.int .i64 a1_2) := (blk_cell BK312.out 2).trans rfl; have hfz53_0 := blk_frozen BK312.out 0; have hfz53_1 := blk_frozen BK312.out 1; have hfz53_2 := blk_frozen BK312.out 2))
            have n0_ := Aside0.mk (blk_drew BK311.out)
            have n1_ := Aside0.mk (blk_drew BK312.out)
            have n2_ := Aside0.mk (blk_drew BK313.out)
            have n3_ := Aside0.mk (below_drew1 HB.out)
            clear BK311
            clear BK312
            clear BK313
            clear HB
            have BK311 := n0_
            have BK312 := n1_
            have BK313 := n2_
            have HB := n3_
            clear n0_ n1_ n2_ n3_
            refine start_ (n := 11) (S := fun w' => w'.cell? ⟨gb312, 0, none⟩ = some (.bool a1_0) ∧ w'.cell? ⟨gb312, 1, none⟩ = some (.string a1_1) ∧ w'.cell? ⟨gb312, 2, none⟩ = some (.int .i64 a1_2)) (ds := []) #[false, false, false, false, false, false, false, false, false, false, false] (by kernel_rfl) rfl rfl ⟨(blk_cell BK312.out 0).trans rfl, (blk_cell BK312.out 1).trans rfl, (blk_cell BK312.out 2).trans rfl⟩ (fun hHeld => ?_); refine with_tabW impl_AddDec.tab8 impl_AddDec.bits8 (fun HT_ HW_ => ?_)
            generalize w51.drew = w54 at BK311 BK312 BK313 HB hHeld ⊢
            refine pure_ (i := 0) (N := some 53) (v := ?_) (a' := ?_) #[true, false, false, false, false, false, false, false, false, false, false] rfl rfl (any_of HT_.out (by kernel_rfl)) (fun _ _ _ h => h) (Or.inl ⟨by rfl, ?_⟩) ?_ ?_
            rotate_left
            · intro w'
              go_simp
              with_reducible rfl
            rotate_left
            · simp only [Act.put, List.setIfInBounds_toArray, List.set_cons_zero, List.set_cons_succ, i64_w, i32_w]
              rfl
            refine pure_ (i := 2) (N := some 55) (v := ?_) (a' := ?_) #[true, false, true, false, false, false, false, false, false, false, false] rfl rfl (any_of HT_.out (by kernel_rfl)) (fun _ _ _ h => h) (Or.inl ⟨by rfl, ?_⟩) ?_ ?_
            rotate_left
            · intro w'
              go_simp
              with_reducible rfl
            rotate_left
            · simp only [Act.put, List.setIfInBounds_toArray, List.set_cons_zero, List.set_cons_succ, i64_w, i32_w]
              rfl
            refine pure_ (i := 3) (N := some 56) (v := ?_) (a' := ?_) #[true, false, true, true, false, false, false, false, false, false, false] rfl rfl (any_of HT_.out (by kernel_rfl)) (fun _ _ _ h => h) (Or.inl ⟨by rfl, ?_⟩) ?_ ?_
            rotate_left
            · intro w'
              go_simp
              with_reducible rfl
            rotate_left
            · simp only [Act.put, List.setIfInBounds_toArray, List.set_cons_zero, List.set_cons_succ, i64_w, i32_w]
              rfl
            refine pure_ (i := 5) (N := some 58) (v := ?_) (a' := ?_) #[true, false, true, true, false, true, false, false, false, false, false] rfl rfl (any_of HT_.out (by kernel_rfl)) (fun _ _ _ h => h) (Or.inl ⟨by rfl, ?_⟩) ?_ ?_
            rotate_left
            · intro w'
              go_simp
              with_reducible rfl
            rotate_left
            · simp only [Act.put, List.setIfInBounds_toArray, List.set_cons_zero, List.set_cons_succ, i64_w, i32_w]
              rfl
            refine take_ (i := 1) (N := some 54) (v := ?_) (a' := ?_) #[true, true, true, true, false, true, false, false, false, false, false] rfl rfl (take_ofW HT_.out HW_.out (by kernel_rfl)) (fun _ _ _ h => h) (Or.inl ⟨by rfl, ?_⟩) hHeld ?_ ?_
            rotate_left
            · rintro w' ⟨s0, s1, s2⟩
              go_simp
              with_reducible rfl
            rotate_left
            · simp only [Act.put, List.setIfInBounds_toArray, List.set_cons_zero, List.set_cons_succ, i64_w, i32_w]
              rfl
            refine one_ (i := 4) (N := some 57) #[true, true, true, true, true, true, false, false, false, false, false] rfl rfl (one_of HT_.out (by kernel_rfl)) (by decide) (fun K hK => ?_)
            refine goes_ Tryd.func60 (by kernel_rfl) rfl #[.string t317, .string t316] (by rfl) rfl rfl (by (try simp only [List.map_toArray, List.map_cons, List.map_nil]); first | done | rfl | (simp only [List.length_drop, List.length_take]; rfl)) ?_
            with_reducible refine (impl_minusDigits.calls kj2 t317 t316 t324 _ A44.out).mono ?_
            rintro e w55 ⟨rfl, hb⟩
            refine ⟨_, rfl, ?_⟩
            have n0_ := Aside0.mk (blk_below (g := gb311) (o := .cells #[.bool a0_0, .string a0_1, .int .i64 a0_2] 26 (0, 0)) (by refine blk_up ?_; exact BK311.out) hb)
            have n1_ := Aside0.mk (blk_below (g := gb312) (o := .cells #[.bool a1_0, .string a1_1, .int .i64 a1_2] 26 (0, 0)) (by refine blk_up ?_; exact BK312.out) hb)
            have n2_ := Aside0.mk (blk_below (g := gb313) (o := .cells #[.bool false, .string (⟨#[]⟩ : ByteArray), .int .i64 0] 26 (0, 0)) (by refine blk_up ?_; exact BK313.out) hb)
            have n3_ := Aside0.mk (below_step (by repeat (first | (with_reducible first | exact HB.out | apply below_alloc | apply pw_below_drewN | apply below_drew1 | refine below_set ?_ GE311.out | refine below_set ?_ GE312.out | refine below_set ?_ GE313.out) | exact HB.out)) hb)
            clear BK311
            clear BK312
            clear BK313
            clear HB
            have BK311 := n0_
            have BK312 := n1_
            have BK313 := n2_
            have HB := n3_
            clear n0_ n1_ n2_ n3_
            (try clear hb)
            (try clear hb2)
            (try clear hk)
            (try clear hi)
            refine hK.out _ _ ⟨(blk_cell BK312.out 0).trans rfl, (blk_cell BK312.out 1).trans rfl, (blk_cell BK312.out 2).trans rfl⟩ (fun hHeld => ?_)
            clear hK K
            refine norm_ (a' := ?_) ?_ ?_
            rotate_left
            · show Act.put _ (some 57) _ = _
              simp only [Act.put, List.setIfInBounds_toArray, List.set_cons_zero, List.set_cons_succ, i64_w, i32_w]
              rfl
            refine one_ (i := 6) (N := some 59) #[true, true, true, true, true, true, true, false, false, false, false] rfl rfl (one_of HT_.out (by kernel_rfl)) (by decide) (fun K hK => ?_)
            refine goes_ Tryd.func54 (by kernel_rfl) rfl #[.bool a1_0, .string t324, .int .i64 t318] (by rfl) rfl rfl (by (try simp only [List.map_toArray, List.map_cons, List.map_nil]); first | done | rfl | (simp only [List.length_drop, List.length_take]; rfl)) ?_
            with_reducible refine (impl_made.calls kj2 a1_0 t324 t318 t325 t326 t327 t328 _ A45.out).mono ?_
            rintro e w56 ⟨rfl, hb⟩
            refine ⟨_, rfl, ?_⟩
            have n0_ := Aside0.mk (blk_below (g := gb311) (o := .cells #[.bool a0_0, .string a0_1, .int .i64 a0_2] 26 (0, 0)) (by refine blk_up ?_; exact BK311.out) hb)
            have n1_ := Aside0.mk (blk_below (g := gb312) (o := .cells #[.bool a1_0, .string a1_1, .int .i64 a1_2] 26 (0, 0)) (by refine blk_up ?_; exact BK312.out) hb)
            have n2_ := Aside0.mk (blk_below (g := gb313) (o := .cells #[.bool false, .string (⟨#[]⟩ : ByteArray), .int .i64 0] 26 (0, 0)) (by refine blk_up ?_; exact BK313.out) hb)
            have n3_ := Aside0.mk (below_step (by repeat (first | (with_reducible first | exact HB.out | apply below_alloc | apply pw_below_drewN | apply below_drew1 | refine below_set ?_ GE311.out | refine below_set ?_ GE312.out | refine below_set ?_ GE313.out) | exact HB.out)) hb)
            clear BK311
            clear BK312
            clear BK313
            clear HB
            have BK311 := n0_
            have BK312 := n1_
            have BK313 := n2_
            have HB := n3_
            clear n0_ n1_ n2_ n3_
            (try clear hb)
            (try clear hb2)
            (try clear hk)
            (try clear hi)
            refine hK.out _ _ ⟨(blk_cell BK312.out 0).trans rfl, (blk_cell BK312.out 1).trans rfl, (blk_cell BK312.out 2).trans rfl⟩ (fun hHeld => ?_)
            clear hK K
            refine norm_ (a' := ?_) ?_ ?_
            rotate_left
            · show Act.put _ (some 59) _ = _
              simp only [Act.put, List.setIfInBounds_toArray, List.set_cons_zero, List.set_cons_succ, i64_w, i32_w]
              rfl
            refine pure_ (i := 7) (N := some 60) (v := ?_) (a' := ?_) #[true, true, true, true, true, true, true, true, false, false, false] rfl rfl (any_of HT_.out (by kernel_rfl)) (fun _ _ _ h => h) (Or.inl ⟨by rfl, ?_⟩) ?_ ?_
            rotate_left
            · intro w'
              go_simp
              with_reducible rfl
            rotate_left
            · simp only [Act.put, List.setIfInBounds_toArray, List.set_cons_zero, List.set_cons_succ, i64_w, i32_w]
              rfl
            refine pure_ (i := 8) (N := some 61) (v := ?_) (a' := ?_) #[true, true, true, true, true, true, true, true, true, false, false] rfl rfl (any_of HT_.out (by kernel_rfl)) (fun _ _ _ h => h) (Or.inl ⟨by rfl, ?_⟩) ?_ ?_
            rotate_left
            · intro w'
              go_simp
              with_reducible rfl
            rotate_left
            · simp only [Act.put, List.setIfInBounds_toArray, List.set_cons_zero, List.set_cons_succ, i64_w, i32_w]
              rfl
            refine one_ (i := 9) (N := none) #[true, true, true, true, true, true, true, true, true, true, false] rfl rfl (one_of HT_.out (by kernel_rfl)) (by decide) (fun K hK => ?_)
            have hs57 : w56.cell? ⟨gb313, 0, none⟩ = some (.bool false) := (blk_cell BK313.out 0).trans rfl
            have hfs57 := blk_frozen BK313.out 0
            have hns57_0 := NB311_313.out
            have hns57_1 := NB312_313.out
            have hms57_0 := NB313_311.out
            have hms57_1 := NB313_312.out
            have hs58 : w56.cell? ⟨gb313, 1, none⟩ = some (.string (⟨#[]⟩ : ByteArray)) := (blk_cell BK313.out 1).trans rfl
            have hfs58 := blk_frozen BK313.out 1
            have hns58_0 := NB311_313.out
            have hns58_1 := NB312_313.out
            have hms58_0 := NB313_311.out
            have hms58_1 := NB313_312.out
            have hs59 : w56.cell? ⟨gb313, 2, none⟩ = some (.int .i64 0) := (blk_cell BK313.out 2).trans rfl
            have hfs59 := blk_frozen BK313.out 2
            have hns59_0 := NB311_313.out
            have hns59_1 := NB312_313.out
            have hms59_0 := NB313_311.out
            have hms59_1 := NB313_312.out
            refine skip_ (w1 := ?_) (by rfl) rfl ?_ ?_
            rotate_left
            · go_simp
              rfl
            refine hK.out _ _ ⟨((cell_far (p := ⟨gb313, _, none⟩) NB312_313.out _).trans (((cell_far (p := ⟨gb313, _, none⟩) NB312_313.out _).trans (((cell_far (p := ⟨gb313, _, none⟩) NB312_313.out _).trans (hHeld.1)))))), ((cell_far (p := ⟨gb313, _, none⟩) NB312_313.out _).trans (((cell_far (p := ⟨gb313, _, none⟩) NB312_313.out _).trans (((cell_far (p := ⟨gb313, _, none⟩) NB312_313.out _).trans (hHeld.2.1)))))), ((cell_far (p := ⟨gb313, _, none⟩) NB312_313.out _).trans (((cell_far (p := ⟨gb313, _, none⟩) NB312_313.out _).trans (((cell_far (p := ⟨gb313, _, none⟩) NB312_313.out _).trans (hHeld.2.2))))))⟩ (fun hHeld => ?_)
            clear hK K
            refine pure_ (i := 10) (N := some 5) (v := ?_) (a' := ?_) #[true, true, true, true, true, true, true, true, true, true, true] rfl rfl (any_of HT_.out (by kernel_rfl)) (fun _ _ _ h => h) (Or.inl ⟨by rfl, ?_⟩) ?_ ?_
            rotate_left
            · intro w'
              go_simp
              with_reducible rfl
            rotate_left
            · simp only [Act.put, List.setIfInBounds_toArray, List.set_cons_zero, List.set_cons_succ, i64_w, i32_w]
              rfl
            refine done_ (done_of HT_.out (by kernel_rfl)) ?_
            try go_wp2
            refine bodyPost_ret (results_ct rfl _ _ gb313 26 #[.bool t325, .string t326, .int .i64 t327] (0, 0) _ rfl (by refine blk_up ?_; refine blk_put (cs := #[.bool t325, .string t326, .int .i64 0]) ?_ 2 _ rfl; refine blk_up ?_; refine blk_put (cs := #[.bool t325, .string (⟨#[]⟩ : ByteArray), .int .i64 0]) ?_ 1 _ rfl; refine blk_up ?_; refine blk_put (cs := #[.bool false, .string (⟨#[]⟩ : ByteArray), .int .i64 0]) ?_ 0 _ rfl; refine blk_up ?_; exact BK313.out) Tryd.underlying26 rfl (by kernel_rfl)) rfl ?_
            exact ⟨by first | rfl | (simp [errW_none, errW_some] <;> rfl) | (simp [*, errW_none, errW_some] <;> rfl), by repeat (first | (with_reducible first | exact HB.out | apply below_alloc | apply pw_below_drewN | apply below_drew1 | refine below_set ?_ GE311.out | refine below_set ?_ GE312.out | refine below_set ?_ GE313.out) | exact HB.out)⟩
          · rw [if_neg c43] at H
            have c43b0 : (Op.bytesLess t316.toList t317.toList) = false := by simpa using c43
            clear c43
            replace H := Option.bind_eq_some_iff.mp H
            obtain ⟨t329, A600, H⟩ := H
            replace H : ((impl_made.f kj2 a0_0 t329 t318).bind fun bt330 => (some (bt330.1, bt330.2.1, bt330.2.2.1, bt330.2.2.2))) = some (r1, r2, r3, r4) := H
            have A60 := Aside0.mk A600
            clear A600
            replace H := Option.bind_eq_some_iff.mp H
            obtain ⟨⟨t330, t331, t332, t333⟩, A610, H⟩ := H
            replace H : (some (t330, t331, t332, t333)) = some (r1, r2, r3, r4) := H
            have A61 := Aside0.mk A610
            clear A610
            simp only [Option.some.injEq, Prod.mk.injEq] at H
            obtain ⟨rfl, rfl, rfl, rfl⟩ := H
            have hnb62 := NB311_312.out
            have hnc62 := NB312_311.out
            have hnb63 := NB311_313.out
            have hnc63 := NB313_311.out
            have hcz64_0 : wc.cell? ⟨gb311, 0, none⟩ = some (.bool a0_0) := (blk_cell BK311.out 0).trans rfl
            have hcz64_1 : wc.cell? ⟨gb311, 1, none⟩ = some (.string a0_1) := (blk_cell BK311.out 1).trans rfl
            have hcz64_2 : wc.cell? ⟨gb311, 2, none⟩ = some (.int .i64 a0_2) := (blk_cell BK311.out 2).trans rfl
            have hfz64_0 := blk_frozen BK311.out 0
            have hfz64_1 := blk_frozen BK311.out 1
            have hfz64_2 := blk_frozen BK311.out 2
            have hnb65 := NB312_313.out
            have hnc65 := NB313_312.out
            have hcz66_0 : wc.cell? ⟨gb312, 0, none⟩ = some (.bool a1_0) := (blk_cell BK312.out 0).trans rfl
            have hcz66_1 : wc.cell? ⟨gb312, 1, none⟩ = some (.string a1_1) := (blk_cell BK312.out 1).trans rfl
            have hcz66_2 : wc.cell? ⟨gb312, 2, none⟩ = some (.int .i64 a1_2) := (blk_cell BK312.out 2).trans rfl
            have hfz66_0 := blk_frozen BK312.out 0
            have hfz66_1 := blk_frozen BK312.out 1
            have hfz66_2 := blk_frozen BK312.out 2
            try go_wp2_with (first | ((with_reducible refine gate_callee (f := 51) rfl ?_); refine goesL_ (some 21) rfl rfl Tryd.func51 (by kernel_rfl) rfl #[.agg #[.bool a0_0, .string a0_1, .int .i64 a0_2], .agg #[.bool a1_0, .string a1_1, .int .i64 a1_2]] rfl (by (try simp only [List.map_toArray, List.map_cons, List.map_nil]); first | done | rfl | (simp only [List.length_drop, List.length_take]; rfl)) ?_; (with_reducible refine (impl_level.calls a0_0 a0_1 a0_2 a1_0 a1_1 a1_2 t316 t317 t318 _ A25.out).mono ?_); rintro e w67 ⟨rfl, hb⟩; refine ⟨_, rfl, ?_⟩; have n0_ := Aside0.mk (blk_below (g := gb311) (o := .cells #[.bool a0_0, .string a0_1, .int .i64 a0_2] 26 (0, 0)) (by refine blk_up ?_; exact BK311.out) hb); have n1_ := Aside0.mk (blk_below (g := gb312) (o := .cells #[.bool a1_0, .string a1_1, .int .i64 a1_2] 26 (0, 0)) (by refine blk_up ?_; exact BK312.out) hb); have n2_ := Aside0.mk (blk_below (g := gb313) (o := .cells #[.bool false, .string (⟨#[]⟩ : ByteArray), .int .i64 0] 26 (0, 0)) (by refine blk_up ?_; exact BK313.out) hb); have n3_ := Aside0.mk (below_step (by repeat (first | (with_reducible first | exact HB.out | apply below_alloc | apply pw_below_drewN | apply below_drew1 | refine below_set ?_ GE311.out | refine below_set ?_ GE312.out | refine below_set ?_ GE313.out) | exact HB.out)) hb); clear BK311; clear BK312; clear BK313; clear HB; have BK311 := n0_; have BK312 := n1_; have BK313 := n2_; have HB := n3_; clear n0_ n1_ n2_ n3_; (try clear hb); (try clear hb2); (try clear hk); (try clear hi); have hcz68_0 : w67.cell? ⟨gb311, 0, none⟩ = some (.bool a0_0) := (blk_cell BK311.out 0).trans rfl; have hcz68_1 : w67.cell? ⟨gb311, 1, none⟩ = some (.string a0_1) := (blk_cell BK311.out 1).trans rfl; have hcz68_2 : w67.cell? ⟨gb311, 2, none⟩ = some (.int .i64 a0_2) := (blk_cell BK311.out 2).trans rfl; have hfz68_0 := blk_frozen BK311.out 0; have hfz68_1 := blk_frozen BK311.out 1; have hfz68_2 := blk_frozen BK311.out 2; have hcz69_0 : w67.cell? ⟨gb312, 0, none⟩ = some (.bool a1_0) := (blk_cell BK312.out 0).trans rfl; have hcz69_1 : w67.cell? ⟨gb312, 1, none⟩ = some (.string a1_1) := (blk_cell BK312.out 1).trans rfl; have hcz69_2 : w67.cell? ⟨gb312, 2, none⟩ = some (.int .i64 a1_2) := (blk_cell BK312.out 2).trans rfl; have hfz69_0 := blk_frozen BK312.out 0; have hfz69_1 := blk_frozen BK312.out 1; have hfz69_2 := blk_frozen BK312.out 2))
            have n0_ := Aside0.mk (blk_drew BK311.out)
            have n1_ := Aside0.mk (blk_drew BK312.out)
            have n2_ := Aside0.mk (blk_drew BK313.out)
            have n3_ := Aside0.mk (below_drew1 HB.out)
            clear BK311
            clear BK312
            clear BK313
            clear HB
            have BK311 := n0_
            have BK312 := n1_
            have BK313 := n2_
            have HB := n3_
            clear n0_ n1_ n2_ n3_
            refine start_ (n := 11) (S := fun w' => w'.cell? ⟨gb311, 0, none⟩ = some (.bool a0_0) ∧ w'.cell? ⟨gb311, 1, none⟩ = some (.string a0_1) ∧ w'.cell? ⟨gb311, 2, none⟩ = some (.int .i64 a0_2)) (ds := []) #[false, false, false, false, false, false, false, false, false, false, false] (by kernel_rfl) rfl rfl ⟨(blk_cell BK311.out 0).trans rfl, (blk_cell BK311.out 1).trans rfl, (blk_cell BK311.out 2).trans rfl⟩ (fun hHeld => ?_); refine with_tabW impl_AddDec.tab7 impl_AddDec.bits7 (fun HT_ HW_ => ?_)
            generalize w67.drew = w70 at BK311 BK312 BK313 HB hHeld ⊢
            refine pure_ (i := 0) (N := some 44) (v := ?_) (a' := ?_) #[true, false, false, false, false, false, false, false, false, false, false] rfl rfl (any_of HT_.out (by kernel_rfl)) (fun _ _ _ h => h) (Or.inl ⟨by rfl, ?_⟩) ?_ ?_
            rotate_left
            · intro w'
              go_simp
              with_reducible rfl
            rotate_left
            · simp only [Act.put, List.setIfInBounds_toArray, List.set_cons_zero, List.set_cons_succ, i64_w, i32_w]
              rfl
            refine pure_ (i := 2) (N := some 46) (v := ?_) (a' := ?_) #[true, false, true, false, false, false, false, false, false, false, false] rfl rfl (any_of HT_.out (by kernel_rfl)) (fun _ _ _ h => h) (Or.inl ⟨by rfl, ?_⟩) ?_ ?_
            rotate_left
            · intro w'
              go_simp
              with_reducible rfl
            rotate_left
            · simp only [Act.put, List.setIfInBounds_toArray, List.set_cons_zero, List.set_cons_succ, i64_w, i32_w]
              rfl
            refine pure_ (i := 3) (N := some 47) (v := ?_) (a' := ?_) #[true, false, true, true, false, false, false, false, false, false, false] rfl rfl (any_of HT_.out (by kernel_rfl)) (fun _ _ _ h => h) (Or.inl ⟨by rfl, ?_⟩) ?_ ?_
            rotate_left
            · intro w'
              go_simp
              with_reducible rfl
            rotate_left
            · simp only [Act.put, List.setIfInBounds_toArray, List.set_cons_zero, List.set_cons_succ, i64_w, i32_w]
              rfl
            refine pure_ (i := 5) (N := some 49) (v := ?_) (a' := ?_) #[true, false, true, true, false, true, false, false, false, false, false] rfl rfl (any_of HT_.out (by kernel_rfl)) (fun _ _ _ h => h) (Or.inl ⟨by rfl, ?_⟩) ?_ ?_
            rotate_left
            · intro w'
              go_simp
              with_reducible rfl
            rotate_left
            · simp only [Act.put, List.setIfInBounds_toArray, List.set_cons_zero, List.set_cons_succ, i64_w, i32_w]
              rfl
            refine take_ (i := 1) (N := some 45) (v := ?_) (a' := ?_) #[true, true, true, true, false, true, false, false, false, false, false] rfl rfl (take_ofW HT_.out HW_.out (by kernel_rfl)) (fun _ _ _ h => h) (Or.inl ⟨by rfl, ?_⟩) hHeld ?_ ?_
            rotate_left
            · rintro w' ⟨s0, s1, s2⟩
              go_simp
              with_reducible rfl
            rotate_left
            · simp only [Act.put, List.setIfInBounds_toArray, List.set_cons_zero, List.set_cons_succ, i64_w, i32_w]
              rfl
            refine one_ (i := 4) (N := some 48) #[true, true, true, true, true, true, false, false, false, false, false] rfl rfl (one_of HT_.out (by kernel_rfl)) (by decide) (fun K hK => ?_)
            refine goes_ Tryd.func60 (by kernel_rfl) rfl #[.string t316, .string t317] (by rfl) rfl rfl (by (try simp only [List.map_toArray, List.map_cons, List.map_nil]); first | done | rfl | (simp only [List.length_drop, List.length_take]; rfl)) ?_
            with_reducible refine (impl_minusDigits.calls kj2 t316 t317 t329 _ A60.out).mono ?_
            rintro e w71 ⟨rfl, hb⟩
            refine ⟨_, rfl, ?_⟩
            have n0_ := Aside0.mk (blk_below (g := gb311) (o := .cells #[.bool a0_0, .string a0_1, .int .i64 a0_2] 26 (0, 0)) (by refine blk_up ?_; exact BK311.out) hb)
            have n1_ := Aside0.mk (blk_below (g := gb312) (o := .cells #[.bool a1_0, .string a1_1, .int .i64 a1_2] 26 (0, 0)) (by refine blk_up ?_; exact BK312.out) hb)
            have n2_ := Aside0.mk (blk_below (g := gb313) (o := .cells #[.bool false, .string (⟨#[]⟩ : ByteArray), .int .i64 0] 26 (0, 0)) (by refine blk_up ?_; exact BK313.out) hb)
            have n3_ := Aside0.mk (below_step (by repeat (first | (with_reducible first | exact HB.out | apply below_alloc | apply pw_below_drewN | apply below_drew1 | refine below_set ?_ GE311.out | refine below_set ?_ GE312.out | refine below_set ?_ GE313.out) | exact HB.out)) hb)
            clear BK311
            clear BK312
            clear BK313
            clear HB
            have BK311 := n0_
            have BK312 := n1_
            have BK313 := n2_
            have HB := n3_
            clear n0_ n1_ n2_ n3_
            (try clear hb)
            (try clear hb2)
            (try clear hk)
            (try clear hi)
            refine hK.out _ _ ⟨(blk_cell BK311.out 0).trans rfl, (blk_cell BK311.out 1).trans rfl, (blk_cell BK311.out 2).trans rfl⟩ (fun hHeld => ?_)
            clear hK K
            refine norm_ (a' := ?_) ?_ ?_
            rotate_left
            · show Act.put _ (some 48) _ = _
              simp only [Act.put, List.setIfInBounds_toArray, List.set_cons_zero, List.set_cons_succ, i64_w, i32_w]
              rfl
            refine one_ (i := 6) (N := some 50) #[true, true, true, true, true, true, true, false, false, false, false] rfl rfl (one_of HT_.out (by kernel_rfl)) (by decide) (fun K hK => ?_)
            refine goes_ Tryd.func54 (by kernel_rfl) rfl #[.bool a0_0, .string t329, .int .i64 t318] (by rfl) rfl rfl (by (try simp only [List.map_toArray, List.map_cons, List.map_nil]); first | done | rfl | (simp only [List.length_drop, List.length_take]; rfl)) ?_
            with_reducible refine (impl_made.calls kj2 a0_0 t329 t318 t330 t331 t332 t333 _ A61.out).mono ?_
            rintro e w72 ⟨rfl, hb⟩
            refine ⟨_, rfl, ?_⟩
            have n0_ := Aside0.mk (blk_below (g := gb311) (o := .cells #[.bool a0_0, .string a0_1, .int .i64 a0_2] 26 (0, 0)) (by refine blk_up ?_; exact BK311.out) hb)
            have n1_ := Aside0.mk (blk_below (g := gb312) (o := .cells #[.bool a1_0, .string a1_1, .int .i64 a1_2] 26 (0, 0)) (by refine blk_up ?_; exact BK312.out) hb)
            have n2_ := Aside0.mk (blk_below (g := gb313) (o := .cells #[.bool false, .string (⟨#[]⟩ : ByteArray), .int .i64 0] 26 (0, 0)) (by refine blk_up ?_; exact BK313.out) hb)
            have n3_ := Aside0.mk (below_step (by repeat (first | (with_reducible first | exact HB.out | apply below_alloc | apply pw_below_drewN | apply below_drew1 | refine below_set ?_ GE311.out | refine below_set ?_ GE312.out | refine below_set ?_ GE313.out) | exact HB.out)) hb)
            clear BK311
            clear BK312
            clear BK313
            clear HB
            have BK311 := n0_
            have BK312 := n1_
            have BK313 := n2_
            have HB := n3_
            clear n0_ n1_ n2_ n3_
            (try clear hb)
            (try clear hb2)
            (try clear hk)
            (try clear hi)
            refine hK.out _ _ ⟨(blk_cell BK311.out 0).trans rfl, (blk_cell BK311.out 1).trans rfl, (blk_cell BK311.out 2).trans rfl⟩ (fun hHeld => ?_)
            clear hK K
            refine norm_ (a' := ?_) ?_ ?_
            rotate_left
            · show Act.put _ (some 50) _ = _
              simp only [Act.put, List.setIfInBounds_toArray, List.set_cons_zero, List.set_cons_succ, i64_w, i32_w]
              rfl
            refine pure_ (i := 7) (N := some 51) (v := ?_) (a' := ?_) #[true, true, true, true, true, true, true, true, false, false, false] rfl rfl (any_of HT_.out (by kernel_rfl)) (fun _ _ _ h => h) (Or.inl ⟨by rfl, ?_⟩) ?_ ?_
            rotate_left
            · intro w'
              go_simp
              with_reducible rfl
            rotate_left
            · simp only [Act.put, List.setIfInBounds_toArray, List.set_cons_zero, List.set_cons_succ, i64_w, i32_w]
              rfl
            refine pure_ (i := 8) (N := some 52) (v := ?_) (a' := ?_) #[true, true, true, true, true, true, true, true, true, false, false] rfl rfl (any_of HT_.out (by kernel_rfl)) (fun _ _ _ h => h) (Or.inl ⟨by rfl, ?_⟩) ?_ ?_
            rotate_left
            · intro w'
              go_simp
              with_reducible rfl
            rotate_left
            · simp only [Act.put, List.setIfInBounds_toArray, List.set_cons_zero, List.set_cons_succ, i64_w, i32_w]
              rfl
            refine one_ (i := 9) (N := none) #[true, true, true, true, true, true, true, true, true, true, false] rfl rfl (one_of HT_.out (by kernel_rfl)) (by decide) (fun K hK => ?_)
            have hs73 : w72.cell? ⟨gb313, 0, none⟩ = some (.bool false) := (blk_cell BK313.out 0).trans rfl
            have hfs73 := blk_frozen BK313.out 0
            have hns73_0 := NB311_313.out
            have hns73_1 := NB312_313.out
            have hms73_0 := NB313_311.out
            have hms73_1 := NB313_312.out
            have hs74 : w72.cell? ⟨gb313, 1, none⟩ = some (.string (⟨#[]⟩ : ByteArray)) := (blk_cell BK313.out 1).trans rfl
            have hfs74 := blk_frozen BK313.out 1
            have hns74_0 := NB311_313.out
            have hns74_1 := NB312_313.out
            have hms74_0 := NB313_311.out
            have hms74_1 := NB313_312.out
            have hs75 : w72.cell? ⟨gb313, 2, none⟩ = some (.int .i64 0) := (blk_cell BK313.out 2).trans rfl
            have hfs75 := blk_frozen BK313.out 2
            have hns75_0 := NB311_313.out
            have hns75_1 := NB312_313.out
            have hms75_0 := NB313_311.out
            have hms75_1 := NB313_312.out
            refine skip_ (w1 := ?_) (by rfl) rfl ?_ ?_
            rotate_left
            · go_simp
              rfl
            refine hK.out _ _ ⟨((cell_far (p := ⟨gb313, _, none⟩) NB311_313.out _).trans (((cell_far (p := ⟨gb313, _, none⟩) NB311_313.out _).trans (((cell_far (p := ⟨gb313, _, none⟩) NB311_313.out _).trans (hHeld.1)))))), ((cell_far (p := ⟨gb313, _, none⟩) NB311_313.out _).trans (((cell_far (p := ⟨gb313, _, none⟩) NB311_313.out _).trans (((cell_far (p := ⟨gb313, _, none⟩) NB311_313.out _).trans (hHeld.2.1)))))), ((cell_far (p := ⟨gb313, _, none⟩) NB311_313.out _).trans (((cell_far (p := ⟨gb313, _, none⟩) NB311_313.out _).trans (((cell_far (p := ⟨gb313, _, none⟩) NB311_313.out _).trans (hHeld.2.2))))))⟩ (fun hHeld => ?_)
            clear hK K
            refine pure_ (i := 10) (N := some 5) (v := ?_) (a' := ?_) #[true, true, true, true, true, true, true, true, true, true, true] rfl rfl (any_of HT_.out (by kernel_rfl)) (fun _ _ _ h => h) (Or.inl ⟨by rfl, ?_⟩) ?_ ?_
            rotate_left
            · intro w'
              go_simp
              with_reducible rfl
            rotate_left
            · simp only [Act.put, List.setIfInBounds_toArray, List.set_cons_zero, List.set_cons_succ, i64_w, i32_w]
              rfl
            refine done_ (done_of HT_.out (by kernel_rfl)) ?_
            try go_wp2
            refine bodyPost_ret (results_ct rfl _ _ gb313 26 #[.bool t330, .string t331, .int .i64 t332] (0, 0) _ rfl (by refine blk_up ?_; refine blk_put (cs := #[.bool t330, .string t331, .int .i64 0]) ?_ 2 _ rfl; refine blk_up ?_; refine blk_put (cs := #[.bool t330, .string (⟨#[]⟩ : ByteArray), .int .i64 0]) ?_ 1 _ rfl; refine blk_up ?_; refine blk_put (cs := #[.bool false, .string (⟨#[]⟩ : ByteArray), .int .i64 0]) ?_ 0 _ rfl; refine blk_up ?_; exact BK313.out) Tryd.underlying26 rfl (by kernel_rfl)) rfl ?_
            exact ⟨by first | rfl | (simp [errW_none, errW_some] <;> rfl) | (simp [*, errW_none, errW_some] <;> rfl), by repeat (first | (with_reducible first | exact HB.out | apply below_alloc | apply pw_below_drewN | apply below_drew1 | refine below_set ?_ GE311.out | refine below_set ?_ GE312.out | refine below_set ?_ GE313.out) | exact HB.out)⟩

end Go.Proofs.YtilmhfkbpnejeaaDoor.L

namespace Go.Proofs.YtilmhfkbpnejeaaDoor.L
open Go.RowKit Go.Proofs.YtilmhfkbpnejeaaDoorW.PrintWords Go.Proofs.YtilmhfkbpnejeaaDoorW.PrintLast Go.Proofs.YtilmhfkbpnejeaaDoorW.PrintMore
attribute [local go_sem] max2_int min2_int max_two min_two max_three min_three max_four min_four
attribute [local go_sem] Go.Proofs.YtilmhfkbpnejeaaDoor.H.str_leq Go.Proofs.YtilmhfkbpnejeaaDoor.H.str_gtr Go.Proofs.YtilmhfkbpnejeaaDoor.H.str_geq
set_option linter.unusedVariables false
set_option linter.unusedSimpArgs false

attribute [local go_sem high] eqA26
/-! ### laws_FnCompared: function 5 -/
def laws_FnCompared.j0 : Nat → Int → Bool → Bool → ByteArray → Int → Bool → ByteArray → Int → Option (Bool)
  | 0, _, _, _, _, _, _, _, _ => none
  | k + 1, x5, x26, x390000, x390001, x390002, x391000, x391001, x391002 => if x26 = true then ((spec_CompareDec.f k x390000 x390001 x390002 x391000 x391001 x391002).bind fun t393 => (some (x5 == t393))) else (if x391001.toList = ([] : List UInt8) then ((impl_AddDec.f k x390000 x390001 x390002 false x391001 x391002).bind fun bt394 => (if bt394.2.2.2 = true then (if ((decide (x5 < 0)) != bt394.1) = true then (some false) else ((impl_CompareDec.f k x391000 x391001 x391002 x390000 x390001 x390002).bind fun t399 => (if t399 = (wrap64 (-x5)) then (if ((x5 == 0) == (x390000 == x391000 && (x390001.toList == x391001.toList && (x390002 == x391002)))) = true then (some ((x5 == 0) == (bt394.2.1.toList == ([] : List UInt8)))) else (some false)) else (some false)))) else ((impl_CompareDec.f k x391000 x391001 x391002 x390000 x390001 x390002).bind fun t400 => (if t400 = (wrap64 (-x5)) then (if ((x5 == 0) == (x390000 == x391000 && (x390001.toList == x391001.toList && (x390002 == x391002)))) = true then (some true) else (some false)) else (some false))))) else ((impl_AddDec.f k x390000 x390001 x390002 (!x391000) x391001 x391002).bind fun bt401 => (if bt401.2.2.2 = true then (if ((decide (x5 < 0)) != bt401.1) = true then (some false) else ((impl_CompareDec.f k x391000 x391001 x391002 x390000 x390001 x390002).bind fun t406 => (if t406 = (wrap64 (-x5)) then (if ((x5 == 0) == (x390000 == x391000 && (x390001.toList == x391001.toList && (x390002 == x391002)))) = true then (some ((x5 == 0) == (bt401.2.1.toList == ([] : List UInt8)))) else (some false)) else (some false)))) else ((impl_CompareDec.f k x391000 x391001 x391002 x390000 x390001 x390002).bind fun t407 => (if t407 = (wrap64 (-x5)) then (if ((x5 == 0) == (x390000 == x391000 && (x390001.toList == x391001.toList && (x390002 == x391002)))) = true then (some true) else (some false)) else (some false))))))
def laws_FnCompared.f (k : Nat) (l0 : List Int) : Option (Bool) := (laws_big.f l0).bind fun t382 => (if t382 = true then (some true) else ((spec_DrawCompareDec.f k l0).bind fun bt383 => ((impl_CompareDec.f k bt383.1 bt383.2.1 bt383.2.2.1 bt383.2.2.2.1 bt383.2.2.2.2.1 bt383.2.2.2.2.2).bind fun t391 => ((spec_CompareDec.f k bt383.1 bt383.2.1 bt383.2.2.1 bt383.2.2.2.1 bt383.2.2.2.2.1 bt383.2.2.2.2.2).bind fun t392 => (if t391 = t392 then (laws_FnCompared.j0 k t391 (t391 == 2) bt383.1 bt383.2.1 bt383.2.2.1 bt383.2.2.2.1 bt383.2.2.2.2.1 bt383.2.2.2.2.2) else (laws_FnCompared.j0 k t391 true bt383.1 bt383.2.1 bt383.2.2.1 bt383.2.2.2.1 bt383.2.2.2.2.1 bt383.2.2.2.2.2))))))
set_option maxHeartbeats 8000000 in
set_option maxRecDepth 100000 in
theorem laws_FnCompared.calls (k : Nat) (A0 : Option Addr) (c0 : Nat) (l0 : List Int) (r : Bool) (w : World) (hr0 : Kd.C (Kd.int .u8) w A0 l0.length l0) (hc0 : l0.length ≤ c0) (h : laws_FnCompared.f k l0 = some r) :
    Calls Tryd.prog 5 #[.slice A0 l0.length c0] w fun e w' => e = .returned (.bool r) ∧ Below w.heap.size w w' := by
  have hu26 := Tryd.underlying26
  have HR0 := Aside0.mk hr0
  have HC0 := Aside0.mk hc0
  clear hr0 hc0
  have HB := Aside0.mk (Below.refl w.heap.size w)
  have H : ((laws_big.f l0).bind fun t382 => (if t382 = true then (some true) else ((spec_DrawCompareDec.f k l0).bind fun bt383 => ((impl_CompareDec.f k bt383.1 bt383.2.1 bt383.2.2.1 bt383.2.2.2.1 bt383.2.2.2.2.1 bt383.2.2.2.2.2).bind fun t391 => ((spec_CompareDec.f k bt383.1 bt383.2.1 bt383.2.2.1 bt383.2.2.2.1 bt383.2.2.2.2.1 bt383.2.2.2.2.2).bind fun t392 => (if t391 = t392 then (laws_FnCompared.j0 k t391 (t391 == 2) bt383.1 bt383.2.1 bt383.2.2.1 bt383.2.2.2.1 bt383.2.2.2.2.1 bt383.2.2.2.2.2) else (laws_FnCompared.j0 k t391 true bt383.1 bt383.2.1 bt383.2.2.1 bt383.2.2.2.1 bt383.2.2.2.2.1 bt383.2.2.2.2.2))))))) = some r := h
  clear h
  replace H := Option.bind_eq_some_iff.mp H
  obtain ⟨t382, A20, H⟩ := H
  replace H : (if t382 = true then (some true) else ((spec_DrawCompareDec.f k l0).bind fun bt383 => ((impl_CompareDec.f k bt383.1 bt383.2.1 bt383.2.2.1 bt383.2.2.2.1 bt383.2.2.2.2.1 bt383.2.2.2.2.2).bind fun t391 => ((spec_CompareDec.f k bt383.1 bt383.2.1 bt383.2.2.1 bt383.2.2.2.1 bt383.2.2.2.2.1 bt383.2.2.2.2.2).bind fun t392 => (if t391 = t392 then (laws_FnCompared.j0 k t391 (t391 == 2) bt383.1 bt383.2.1 bt383.2.2.1 bt383.2.2.2.1 bt383.2.2.2.2.1 bt383.2.2.2.2.2) else (laws_FnCompared.j0 k t391 true bt383.1 bt383.2.1 bt383.2.2.1 bt383.2.2.2.1 bt383.2.2.2.2.1 bt383.2.2.2.2.2)))))) = some r := H
  have A2 := Aside0.mk A20
  clear A20
  by_cases c3 : t382 = true
  · subst c3
    have H1 : (some true) = some r := by rw [if_pos rfl] at H; exact H
    clear H
    have H := H1
    clear H1
    obtain rfl := Option.some.inj H
    go_enter Tryd.func5, Tryd.ntmps5
    go_wp2_with (first | ((with_reducible refine gate_callee (f := 15) rfl ?_); refine goesL_ (some 9) rfl rfl Tryd.func15 (by kernel_rfl) rfl #[.slice A0 l0.length c0] rfl (by (try simp only [List.map_toArray, List.map_cons, List.map_nil]); first | done | rfl | (simp only [List.length_drop, List.length_take]; rfl)) ?_; (with_reducible refine (laws_big.calls _ _ l0 true _ ?side1 ?side2 A2.out).mono ?_); (case side1 => repeat (first | exact HR0.out | (with_reducible refine Kd.C_alloc ?_ _) | (with_reducible refine Kd.C_drewN ?_ _) | (with_reducible refine Kd.C_drew ?_))); (case side2 => exact HC0.out); rintro e w' ⟨rfl, ⟨nd, rfl⟩⟩; refine ⟨_, rfl, ?_⟩))
    go_ret
    exact ⟨by first | rfl | (simp [errW_none, errW_some] <;> rfl) | (simp [*, errW_none, errW_some] <;> rfl), by repeat (first | (with_reducible first | exact HB.out | apply below_alloc | apply pw_below_drewN | apply below_drew1) | exact HB.out)⟩
  · replace c3 := Bool.eq_false_iff.mpr c3
    subst c3
    have H1 : ((spec_DrawCompareDec.f k l0).bind fun bt383 => ((impl_CompareDec.f k bt383.1 bt383.2.1 bt383.2.2.1 bt383.2.2.2.1 bt383.2.2.2.2.1 bt383.2.2.2.2.2).bind fun t391 => ((spec_CompareDec.f k bt383.1 bt383.2.1 bt383.2.2.1 bt383.2.2.2.1 bt383.2.2.2.2.1 bt383.2.2.2.2.2).bind fun t392 => (if t391 = t392 then (laws_FnCompared.j0 k t391 (t391 == 2) bt383.1 bt383.2.1 bt383.2.2.1 bt383.2.2.2.1 bt383.2.2.2.2.1 bt383.2.2.2.2.2) else (laws_FnCompared.j0 k t391 true bt383.1 bt383.2.1 bt383.2.2.1 bt383.2.2.2.1 bt383.2.2.2.2.1 bt383.2.2.2.2.2))))) = some r := by rw [if_neg (show ¬ (false = true) by decide)] at H; exact H
    clear H
    have H := H1
    clear H1
    replace H := Option.bind_eq_some_iff.mp H
    obtain ⟨⟨t383, t384, t385, t386, t387, t388⟩, A40, H⟩ := H
    replace H : ((impl_CompareDec.f k t383 t384 t385 t386 t387 t388).bind fun t391 => ((spec_CompareDec.f k t383 t384 t385 t386 t387 t388).bind fun t392 => (if t391 = t392 then (laws_FnCompared.j0 k t391 (t391 == 2) t383 t384 t385 t386 t387 t388) else (laws_FnCompared.j0 k t391 true t383 t384 t385 t386 t387 t388)))) = some r := H
    have A4 := Aside0.mk A40
    clear A40
    replace H := Option.bind_eq_some_iff.mp H
    obtain ⟨t391, A50, H⟩ := H
    replace H : ((spec_CompareDec.f k t383 t384 t385 t386 t387 t388).bind fun t392 => (if t391 = t392 then (laws_FnCompared.j0 k t391 (t391 == 2) t383 t384 t385 t386 t387 t388) else (laws_FnCompared.j0 k t391 true t383 t384 t385 t386 t387 t388))) = some r := H
    have A5 := Aside0.mk A50
    clear A50
    have HC6 := Aside0.mk H
    clear H
    go_enter Tryd.func5, Tryd.ntmps5
    go_upto_region 5 with (first | ((with_reducible refine gate_callee (f := 15) rfl ?_); refine goesL_ (some 9) rfl rfl Tryd.func15 (by kernel_rfl) rfl #[.slice A0 l0.length c0] rfl (by (try simp only [List.map_toArray, List.map_cons, List.map_nil]); first | done | rfl | (simp only [List.length_drop, List.length_take]; rfl)) ?_; (with_reducible refine (laws_big.calls _ _ l0 false _ ?side1 ?side2 A2.out).mono ?_); (case side1 => repeat (first | exact HR0.out | (with_reducible refine Kd.C_alloc ?_ _) | (with_reducible refine Kd.C_drewN ?_ _) | (with_reducible refine Kd.C_drew ?_))); (case side2 => exact HC0.out); rintro e w' ⟨rfl, ⟨nd, rfl⟩⟩; refine ⟨_, rfl, ?_⟩) | ((with_reducible refine gate_callee (f := 21) rfl ?_); refine goesL_ (some 12) rfl rfl Tryd.func21 (by kernel_rfl) rfl #[.slice A0 l0.length c0] rfl (by (try simp only [List.map_toArray, List.map_cons, List.map_nil]); first | done | rfl | (simp only [List.length_drop, List.length_take]; rfl)) ?_; (with_reducible refine (spec_DrawCompareDec.calls k _ _ l0 t383 t384 t385 t386 t387 t388 _ ?side1 ?side2 A4.out).mono ?_); (case side1 => repeat (first | exact HR0.out | (with_reducible refine Kd.C_alloc ?_ _) | (with_reducible refine Kd.C_drewN ?_ _) | (with_reducible refine Kd.C_drew ?_))); (case side2 => exact HC0.out); rintro e w7 ⟨rfl, hb⟩; refine ⟨_, rfl, ?_⟩; have n0_ := Aside0.mk (below_step (by repeat (first | (with_reducible first | exact HB.out | apply below_alloc | apply pw_below_drewN | apply below_drew1) | exact HB.out)) hb); clear HB; have HB := n0_; clear n0_; (try clear hb); (try clear hb2); (try clear hk); (try clear hi)) | ((with_reducible refine gate_dst (N := 3) rfl ?_); refine box_event ?hg (N := 3) ?hd (cs := #[.bool false, .string (⟨#[]⟩ : ByteArray), .int .i64 0]) (t := 26) ?hr ?_; (case hd => rfl); (case hg => rfl); (case hr => first | (go_simp; done) | (go_simp; rfl)); intro gb389 hg w8 hbox hb; have n0_ := Aside0.mk (below_step (by repeat (first | (with_reducible first | exact HB.out | apply below_alloc | apply pw_below_drewN | apply below_drew1) | exact HB.out)) hb); have n1_ := Aside0.mk (hbox); have n2_ := Aside0.mk ((by rw [hg]; exact (below_size (by repeat (first | (with_reducible first | exact HB.out | apply below_alloc | apply pw_below_drewN | apply below_drew1) | exact HB.out))) : w.heap.size ≤ gb389)); have n3_ := Aside0.mk ((by rw [hg]; exact (below_size (by repeat (first | (with_reducible first | exact HB.out | apply below_alloc | apply pw_below_drewN | apply below_drew1) | exact HB.out))) : w.heap.size ≤ gb389)); clear HB; have HB := n0_; have BK389 := n1_; have GW389 := n2_; have GE389 := n3_; clear n0_ n1_ n2_ n3_; clear hb hbox hg) | ((with_reducible refine gate_dst (N := 4) rfl ?_); refine box_event ?hg (N := 4) ?hd (cs := #[.bool false, .string (⟨#[]⟩ : ByteArray), .int .i64 0]) (t := 26) ?hr ?_; (case hd => rfl); (case hg => rfl); (case hr => first | (go_simp; done) | (go_simp; rfl)); intro gb390 hg w9 hbox hb; have n0_ := Aside0.mk (blk_below (g := gb389) (o := .cells #[.bool false, .string (⟨#[]⟩ : ByteArray), .int .i64 0] 26 (0, 0)) (by refine blk_up ?_; exact BK389.out) hb); have n1_ := Aside0.mk (below_step (by repeat (first | (with_reducible first | exact HB.out | apply below_alloc | apply pw_below_drewN | apply below_drew1 | refine below_set ?_ GE389.out) | exact HB.out)) hb); have n2_ := Aside0.mk (hbox); have n3_ := Aside0.mk ((by rw [hg]; exact (below_size (by repeat (first | (with_reducible first | exact HB.out | apply below_alloc | apply pw_below_drewN | apply below_drew1 | refine below_set ?_ GE389.out) | exact HB.out))) : w.heap.size ≤ gb390)); have n4_ := Aside0.mk ((by rw [hg]; exact (below_size (by repeat (first | (with_reducible first | exact HB.out | apply below_alloc | apply pw_below_drewN | apply below_drew1 | refine below_set ?_ GE389.out) | exact HB.out))) : w.heap.size ≤ gb390)); have n5_ := Aside0.mk ((by rw [hg]; exact Nat.ne_of_lt (blk_lt (g := gb389) (o := .cells #[.bool false, .string (⟨#[]⟩ : ByteArray), .int .i64 0] 26 (0, 0)) (by refine blk_up ?_; exact BK389.out)) : gb389 ≠ gb390)); have n6_ := Aside0.mk ((by rw [hg]; exact Nat.ne_of_gt (blk_lt (g := gb389) (o := .cells #[.bool false, .string (⟨#[]⟩ : ByteArray), .int .i64 0] 26 (0, 0)) (by refine blk_up ?_; exact BK389.out)) : gb390 ≠ gb389)); clear BK389; clear HB; have BK389 := n0_; have HB := n1_; have BK390 := n2_; have GW390 := n3_; have GE390 := n4_; have NB389_390 := n5_; have NB390_389 := n6_; clear n0_ n1_ n2_ n3_ n4_ n5_ n6_; clear hb hbox hg; have hnb10 := NB389_390.out; have hnc10 := NB390_389.out; have hcz11_0 : w9.cell? ⟨gb389, 0, none⟩ = some (.bool false) := (blk_cell BK389.out 0).trans rfl; have hcz11_1 : w9.cell? ⟨gb389, 1, none⟩ = some (.string (⟨#[]⟩ : ByteArray)) := (blk_cell BK389.out 1).trans rfl; have hcz11_2 : w9.cell? ⟨gb389, 2, none⟩ = some (.int .i64 0) := (blk_cell BK389.out 2).trans rfl; have hfz11_0 := blk_frozen BK389.out 0; have hfz11_1 := blk_frozen BK389.out 1; have hfz11_2 := blk_frozen BK389.out 2; have hcz12_0 : w9.cell? ⟨gb390, 0, none⟩ = some (.bool false) := (blk_cell BK390.out 0).trans rfl; have hcz12_1 : w9.cell? ⟨gb390, 1, none⟩ = some (.string (⟨#[]⟩ : ByteArray)) := (blk_cell BK390.out 1).trans rfl; have hcz12_2 : w9.cell? ⟨gb390, 2, none⟩ = some (.int .i64 0) := (blk_cell BK390.out 2).trans rfl; have hfz12_0 := blk_frozen BK390.out 0; have hfz12_1 := blk_frozen BK390.out 1; have hfz12_2 := blk_frozen BK390.out 2) | ((with_reducible refine gate_callee (f := 14) rfl ?_); refine goesL_ (some 17) rfl rfl Tryd.func14 (by kernel_rfl) rfl #[.agg #[.bool t383, .string t384, .int .i64 t385], .agg #[.bool t386, .string t387, .int .i64 t388]] rfl (by (try simp only [List.map_toArray, List.map_cons, List.map_nil]); first | done | rfl | (simp only [List.length_drop, List.length_take]; rfl)) ?_; (with_reducible refine (impl_CompareDec.calls k t383 t384 t385 t386 t387 t388 t391 _ A5.out).mono ?_); rintro e w13 ⟨rfl, hb⟩; refine ⟨_, rfl, ?_⟩; have n0_ := Aside0.mk (blk_below (g := gb389) (o := .cells #[.bool t383, .string t384, .int .i64 t385] 26 (0, 0)) (by refine blk_up ?_; refine blk_far ?_ NB389_390.out _; refine blk_up ?_; refine blk_far ?_ NB389_390.out _; refine blk_up ?_; refine blk_far ?_ NB389_390.out _; refine blk_up ?_; refine blk_put (cs := #[.bool t383, .string t384, .int .i64 0]) ?_ 2 _ rfl; refine blk_up ?_; refine blk_put (cs := #[.bool t383, .string (⟨#[]⟩ : ByteArray), .int .i64 0]) ?_ 1 _ rfl; refine blk_up ?_; refine blk_put (cs := #[.bool false, .string (⟨#[]⟩ : ByteArray), .int .i64 0]) ?_ 0 _ rfl; refine blk_up ?_; exact BK389.out) hb); have n1_ := Aside0.mk (blk_below (g := gb390) (o := .cells #[.bool t386, .string t387, .int .i64 t388] 26 (0, 0)) (by refine blk_up ?_; refine blk_put (cs := #[.bool t386, .string t387, .int .i64 0]) ?_ 2 _ rfl; refine blk_up ?_; refine blk_put (cs := #[.bool t386, .string (⟨#[]⟩ : ByteArray), .int .i64 0]) ?_ 1 _ rfl; refine blk_up ?_; refine blk_put (cs := #[.bool false, .string (⟨#[]⟩ : ByteArray), .int .i64 0]) ?_ 0 _ rfl; refine blk_up ?_; refine blk_far ?_ NB390_389.out _; refine blk_up ?_; refine blk_far ?_ NB390_389.out _; refine blk_up ?_; refine blk_far ?_ NB390_389.out _; refine blk_up ?_; exact BK390.out) hb); have n2_ := Aside0.mk (below_step (by repeat (first | (with_reducible first | exact HB.out | apply below_alloc | apply pw_below_drewN | apply below_drew1 | refine below_set ?_ GE389.out | refine below_set ?_ GE390.out) | exact HB.out)) hb); clear BK389; clear BK390; clear HB; have BK389 := n0_; have BK390 := n1_; have HB := n2_; clear n0_ n1_ n2_; (try clear hb); (try clear hb2); (try clear hk); (try clear hi)))
    (try simp only [Act.put, List.setIfInBounds_toArray, List.set_cons_zero, List.set_cons_succ])
    go_cut [26] (fun v26 wc => ∃ (kq : Nat) (x26_5 : Bool), v26 = .bool x26_5 ∧ Aside0 (laws_FnCompared.j0 kq t391 x26_5 t383 t384 t385 t386 t387 t388 = some r) ∧ Aside0 (kq ≤ k) ∧ Aside0 (wc.heap[gb389]? = some (.cells #[.bool t383, .string t384, .int .i64 t385] 26 (0, 0))) ∧ Aside0 (wc.heap[gb390]? = some (.cells #[.bool t386, .string t387, .int .i64 t388] 26 (0, 0))) ∧ Aside0 (Below w.heap.size w wc))
    case first =>
      have H := HC6.out
      clear HC6
      replace H := Option.bind_eq_some_iff.mp H
      obtain ⟨t392, A140, H⟩ := H
      replace H : (if t391 = t392 then (laws_FnCompared.j0 k t391 (t391 == 2) t383 t384 t385 t386 t387 t388) else (laws_FnCompared.j0 k t391 true t383 t384 t385 t386 t387 t388)) = some r := H
      have A14 := Aside0.mk A140
      clear A140
      by_cases c15 : t391 = t392
      · rw [if_pos c15] at H
        have c15b0 : (t391 == t392) = true := beq_iff_eq.mpr c15
        have c15b1 : (t391 != t392) = false := bne_eq_false_iff_eq.mpr c15
        clear c15
        (first | rw [c15b0] | (simp only [i64_w, i32_w]; rw [c15b0]) | skip)
        have H' := Aside0.mk H
        clear H
        have hnb16 := NB389_390.out
        have hnc16 := NB390_389.out
        have hcz17_0 : w13.cell? ⟨gb389, 0, none⟩ = some (.bool t383) := (blk_cell BK389.out 0).trans rfl
        have hcz17_1 : w13.cell? ⟨gb389, 1, none⟩ = some (.string t384) := (blk_cell BK389.out 1).trans rfl
        have hcz17_2 : w13.cell? ⟨gb389, 2, none⟩ = some (.int .i64 t385) := (blk_cell BK389.out 2).trans rfl
        have hfz17_0 := blk_frozen BK389.out 0
        have hfz17_1 := blk_frozen BK389.out 1
        have hfz17_2 := blk_frozen BK389.out 2
        have hcz18_0 : w13.cell? ⟨gb390, 0, none⟩ = some (.bool t386) := (blk_cell BK390.out 0).trans rfl
        have hcz18_1 : w13.cell? ⟨gb390, 1, none⟩ = some (.string t387) := (blk_cell BK390.out 1).trans rfl
        have hcz18_2 : w13.cell? ⟨gb390, 2, none⟩ = some (.int .i64 t388) := (blk_cell BK390.out 2).trans rfl
        have hfz18_0 := blk_frozen BK390.out 0
        have hfz18_1 := blk_frozen BK390.out 1
        have hfz18_2 := blk_frozen BK390.out 2
        go_wp2_with (first | ((with_reducible refine gate_callee (f := 12) rfl ?_); refine goesL_ (some 21) rfl rfl Tryd.func12 (by kernel_rfl) rfl #[.agg #[.bool t383, .string t384, .int .i64 t385], .agg #[.bool t386, .string t387, .int .i64 t388]] rfl (by (try simp only [List.map_toArray, List.map_cons, List.map_nil]); first | done | rfl | (simp only [List.length_drop, List.length_take]; rfl)) ?_; (with_reducible refine (spec_CompareDec.calls k t383 t384 t385 t386 t387 t388 t392 _ A14.out).mono ?_); rintro e w19 ⟨rfl, hb⟩; refine ⟨_, rfl, ?_⟩; have n0_ := Aside0.mk (blk_below (g := gb389) (o := .cells #[.bool t383, .string t384, .int .i64 t385] 26 (0, 0)) (by refine blk_up ?_; exact BK389.out) hb); have n1_ := Aside0.mk (blk_below (g := gb390) (o := .cells #[.bool t386, .string t387, .int .i64 t388] 26 (0, 0)) (by refine blk_up ?_; exact BK390.out) hb); have n2_ := Aside0.mk (below_step (by repeat (first | (with_reducible first | exact HB.out | apply below_alloc | apply pw_below_drewN | apply below_drew1 | refine below_set ?_ GE389.out | refine below_set ?_ GE390.out) | exact HB.out)) hb); clear BK389; clear BK390; clear HB; have BK389 := n0_; have BK390 := n1_; have HB := n2_; clear n0_ n1_ n2_; (try clear hb); (try clear hb2); (try clear hk); (try clear hi)))
        go_meet
        case rel => exact ⟨_, ((t391 == 2)), (by first | rfl | (simp; done) | (simp [*]; done)), H', ⟨by first | omega | exact Nat.le_refl _⟩, ⟨by refine blk_up ?_; exact BK389.out⟩, ⟨by refine blk_up ?_; exact BK390.out⟩, ⟨by repeat (first | (with_reducible first | exact HB.out | apply below_alloc | apply pw_below_drewN | apply below_drew1 | refine below_set ?_ GE389.out | refine below_set ?_ GE390.out) | exact HB.out)⟩⟩
      · rw [if_neg c15] at H
        have c15b0 : (t391 == t392) = false := beq_eq_false_iff_ne.mpr c15
        have c15b1 : (t391 != t392) = true := bne_iff_ne.mpr c15
        (first | rw [c15b0] | (simp only [i64_w, i32_w]; rw [c15b0]) | skip)
        have H' := Aside0.mk H
        clear H
        have hnb20 := NB389_390.out
        have hnc20 := NB390_389.out
        have hcz21_0 : w13.cell? ⟨gb389, 0, none⟩ = some (.bool t383) := (blk_cell BK389.out 0).trans rfl
        have hcz21_1 : w13.cell? ⟨gb389, 1, none⟩ = some (.string t384) := (blk_cell BK389.out 1).trans rfl
        have hcz21_2 : w13.cell? ⟨gb389, 2, none⟩ = some (.int .i64 t385) := (blk_cell BK389.out 2).trans rfl
        have hfz21_0 := blk_frozen BK389.out 0
        have hfz21_1 := blk_frozen BK389.out 1
        have hfz21_2 := blk_frozen BK389.out 2
        have hcz22_0 : w13.cell? ⟨gb390, 0, none⟩ = some (.bool t386) := (blk_cell BK390.out 0).trans rfl
        have hcz22_1 : w13.cell? ⟨gb390, 1, none⟩ = some (.string t387) := (blk_cell BK390.out 1).trans rfl
        have hcz22_2 : w13.cell? ⟨gb390, 2, none⟩ = some (.int .i64 t388) := (blk_cell BK390.out 2).trans rfl
        have hfz22_0 := blk_frozen BK390.out 0
        have hfz22_1 := blk_frozen BK390.out 1
        have hfz22_2 := blk_frozen BK390.out 2
        go_wp2_with (first | ((with_reducible refine gate_callee (f := 12) rfl ?_); refine goesL_ (some 21) rfl rfl Tryd.func12 (by kernel_rfl) rfl #[.agg #[.bool t383, .string t384, .int .i64 t385], .agg #[.bool t386, .string t387, .int .i64 t388]] rfl (by (try simp only [List.map_toArray, List.map_cons, List.map_nil]); first | done | rfl | (simp only [List.length_drop, List.length_take]; rfl)) ?_; (with_reducible refine (spec_CompareDec.calls k t383 t384 t385 t386 t387 t388 t392 _ A14.out).mono ?_); rintro e w23 ⟨rfl, hb⟩; refine ⟨_, rfl, ?_⟩; have n0_ := Aside0.mk (blk_below (g := gb389) (o := .cells #[.bool t383, .string t384, .int .i64 t385] 26 (0, 0)) (by refine blk_up ?_; exact BK389.out) hb); have n1_ := Aside0.mk (blk_below (g := gb390) (o := .cells #[.bool t386, .string t387, .int .i64 t388] 26 (0, 0)) (by refine blk_up ?_; exact BK390.out) hb); have n2_ := Aside0.mk (below_step (by repeat (first | (with_reducible first | exact HB.out | apply below_alloc | apply pw_below_drewN | apply below_drew1 | refine below_set ?_ GE389.out | refine below_set ?_ GE390.out) | exact HB.out)) hb); clear BK389; clear BK390; clear HB; have BK389 := n0_; have BK390 := n1_; have HB := n2_; clear n0_ n1_ n2_; (try clear hb); (try clear hb2); (try clear hk); (try clear hi)))
        go_meet
        case rel => exact ⟨_, (true), (by first | rfl | (simp; done) | (simp [*]; done)), H', ⟨by first | omega | exact Nat.le_refl _⟩, ⟨by refine blk_up ?_; exact BK389.out⟩, ⟨by refine blk_up ?_; exact BK390.out⟩, ⟨by repeat (first | (with_reducible first | exact HB.out | apply below_alloc | apply pw_below_drewN | apply below_drew1 | refine below_set ?_ GE389.out | refine below_set ?_ GE390.out) | exact HB.out)⟩⟩
    case rest =>
      clear HC6
      try clear c1
      try clear c2
      try clear p2
      try clear c3
      try clear c5
      try clear c10
      try clear c12
      try clear c14
      try clear c15
      try clear c15b0
      try clear c15b1
      try clear c16
      try clear c20
      try clear c21
      try clear hcz11_0
      try clear hcz11_1
      try clear hcz11_2
      try clear hcz12_0
      try clear hcz12_1
      try clear hcz12_2
      try clear hcz17_0
      try clear hcz17_1
      try clear hcz17_2
      try clear hcz18_0
      try clear hcz18_1
      try clear hcz18_2
      try clear hcz21_0
      try clear hcz21_1
      try clear hcz21_2
      try clear hcz22_0
      try clear hcz22_1
      try clear hcz22_2
      try clear hfz11_0
      try clear hfz11_1
      try clear hfz11_2
      try clear hfz12_0
      try clear hfz12_1
      try clear hfz12_2
      try clear hfz17_0
      try clear hfz17_1
      try clear hfz17_2
      try clear hfz18_0
      try clear hfz18_1
      try clear hfz18_2
      try clear hfz21_0
      try clear hfz21_1
      try clear hfz21_2
      try clear hfz22_0
      try clear hfz22_1
      try clear hfz22_2
      obtain ⟨kq, x26_5, rfl, HA, HJ5, BK389, BK390, HB⟩ := hcut
      cases kq with
      | zero => exact absurd HA.out (by simp [laws_FnCompared.j0])
      | succ kj5 =>
        have H := HA.out
        clear HA
        simp only [laws_FnCompared.j0] at H
        by_cases c24 : x26_5 = true
        · subst c24
          have H1 : ((spec_CompareDec.f kj5 t383 t384 t385 t386 t387 t388).bind fun t393 => (some (t391 == t393))) = some r := by rw [if_pos rfl] at H; exact H
          clear H
          have H := H1
          clear H1
          replace H := Option.bind_eq_some_iff.mp H
          obtain ⟨t393, A250, H⟩ := H
          replace H : (some (t391 == t393)) = some r := H
          have A25 := Aside0.mk A250
          clear A250
          obtain rfl := Option.some.inj H
          have hnb26 := NB389_390.out
          have hnc26 := NB390_389.out
          have hcz27_0 : wc.cell? ⟨gb389, 0, none⟩ = some (.bool t383) := (blk_cell BK389.out 0).trans rfl
          have hcz27_1 : wc.cell? ⟨gb389, 1, none⟩ = some (.string t384) := (blk_cell BK389.out 1).trans rfl
          have hcz27_2 : wc.cell? ⟨gb389, 2, none⟩ = some (.int .i64 t385) := (blk_cell BK389.out 2).trans rfl
          have hfz27_0 := blk_frozen BK389.out 0
          have hfz27_1 := blk_frozen BK389.out 1
          have hfz27_2 := blk_frozen BK389.out 2
          have hcz28_0 : wc.cell? ⟨gb390, 0, none⟩ = some (.bool t386) := (blk_cell BK390.out 0).trans rfl
          have hcz28_1 : wc.cell? ⟨gb390, 1, none⟩ = some (.string t387) := (blk_cell BK390.out 1).trans rfl
          have hcz28_2 : wc.cell? ⟨gb390, 2, none⟩ = some (.int .i64 t388) := (blk_cell BK390.out 2).trans rfl
          have hfz28_0 := blk_frozen BK390.out 0
          have hfz28_1 := blk_frozen BK390.out 1
          have hfz28_2 := blk_frozen BK390.out 2
          go_wp2_with (first | ((with_reducible refine gate_callee (f := 12) rfl ?_); refine goesL_ (some 30) rfl rfl Tryd.func12 (by kernel_rfl) rfl #[.agg #[.bool t383, .string t384, .int .i64 t385], .agg #[.bool t386, .string t387, .int .i64 t388]] rfl (by (try simp only [List.map_toArray, List.map_cons, List.map_nil]); first | done | rfl | (simp only [List.length_drop, List.length_take]; rfl)) ?_; (with_reducible refine (spec_CompareDec.calls kj5 t383 t384 t385 t386 t387 t388 t393 _ A25.out).mono ?_); rintro e w29 ⟨rfl, hb⟩; refine ⟨_, rfl, ?_⟩; have n0_ := Aside0.mk (blk_below (g := gb389) (o := .cells #[.bool t383, .string t384, .int .i64 t385] 26 (0, 0)) (by refine blk_up ?_; exact BK389.out) hb); have n1_ := Aside0.mk (blk_below (g := gb390) (o := .cells #[.bool t386, .string t387, .int .i64 t388] 26 (0, 0)) (by refine blk_up ?_; exact BK390.out) hb); have n2_ := Aside0.mk (below_step (by repeat (first | (with_reducible first | exact HB.out | apply below_alloc | apply pw_below_drewN | apply below_drew1 | refine below_set ?_ GE389.out | refine below_set ?_ GE390.out) | exact HB.out)) hb); clear BK389; clear BK390; clear HB; have BK389 := n0_; have BK390 := n1_; have HB := n2_; clear n0_ n1_ n2_; (try clear hb); (try clear hb2); (try clear hk); (try clear hi)))
          go_ret
          exact ⟨by first | rfl | (simp [errW_none, errW_some] <;> rfl) | (simp [*, errW_none, errW_some] <;> rfl), by repeat (first | (with_reducible first | exact HB.out | apply below_alloc | apply pw_below_drewN | apply below_drew1 | refine below_set ?_ GE389.out | refine below_set ?_ GE390.out) | exact HB.out)⟩
        · replace c24 := Bool.eq_false_iff.mpr c24
          subst c24
          have H1 : (if t387.toList = ([] : List UInt8) then ((impl_AddDec.f kj5 t383 t384 t385 false t387 t388).bind fun bt394 => (if bt394.2.2.2 = true then (if ((decide (t391 < 0)) != bt394.1) = true then (some false) else ((impl_CompareDec.f kj5 t386 t387 t388 t383 t384 t385).bind fun t399 => (if t399 = (wrap64 (-t391)) then (if ((t391 == 0) == (t383 == t386 && (t384.toList == t387.toList && (t385 == t388)))) = true then (some ((t391 == 0) == (bt394.2.1.toList == ([] : List UInt8)))) else (some false)) else (some false)))) else ((impl_CompareDec.f kj5 t386 t387 t388 t383 t384 t385).bind fun t400 => (if t400 = (wrap64 (-t391)) then (if ((t391 == 0) == (t383 == t386 && (t384.toList == t387.toList && (t385 == t388)))) = true then (some true) else (some false)) else (some false))))) else ((impl_AddDec.f kj5 t383 t384 t385 (!t386) t387 t388).bind fun bt401 => (if bt401.2.2.2 = true then (if ((decide (t391 < 0)) != bt401.1) = true then (some false) else ((impl_CompareDec.f kj5 t386 t387 t388 t383 t384 t385).bind fun t406 => (if t406 = (wrap64 (-t391)) then (if ((t391 == 0) == (t383 == t386 && (t384.toList == t387.toList && (t385 == t388)))) = true then (some ((t391 == 0) == (bt401.2.1.toList == ([] : List UInt8)))) else (some false)) else (some false)))) else ((impl_CompareDec.f kj5 t386 t387 t388 t383 t384 t385).bind fun t407 => (if t407 = (wrap64 (-t391)) then (if ((t391 == 0) == (t383 == t386 && (t384.toList == t387.toList && (t385 == t388)))) = true then (some true) else (some false)) else (some false)))))) = some r := by rw [if_neg (show ¬ (false = true) by decide)] at H; exact H
          clear H
          have H := H1
          clear H1
          by_cases c30 : t387.toList = ([] : List UInt8)
          · rw [if_pos c30] at H
            have c30b0 : (t387.toList == ([] : List UInt8)) = true := beq_iff_eq.mpr c30
            have c30b1 : (t387.toList != ([] : List UInt8)) = false := bne_eq_false_iff_eq.mpr c30
            clear c30
            replace H := Option.bind_eq_some_iff.mp H
            obtain ⟨⟨t394, t395, t396, t397⟩, A310, H⟩ := H
            replace H : (if t397 = true then (if ((decide (t391 < 0)) != t394) = true then (some false) else ((impl_CompareDec.f kj5 t386 t387 t388 t383 t384 t385).bind fun t399 => (if t399 = (wrap64 (-t391)) then (if ((t391 == 0) == (t383 == t386 && (t384.toList == t387.toList && (t385 == t388)))) = true then (some ((t391 == 0) == (t395.toList == ([] : List UInt8)))) else (some false)) else (some false)))) else ((impl_CompareDec.f kj5 t386 t387 t388 t383 t384 t385).bind fun t400 => (if t400 = (wrap64 (-t391)) then (if ((t391 == 0) == (t383 == t386 && (t384.toList == t387.toList && (t385 == t388)))) = true then (some true) else (some false)) else (some false)))) = some r := H
            have A31 := Aside0.mk A310
            clear A310
            by_cases c32 : t397 = true
            · subst c32
              have H1 : (if ((decide (t391 < 0)) != t394) = true then (some false) else ((impl_CompareDec.f kj5 t386 t387 t388 t383 t384 t385).bind fun t399 => (if t399 = (wrap64 (-t391)) then (if ((t391 == 0) == (t383 == t386 && (t384.toList == t387.toList && (t385 == t388)))) = true then (some ((t391 == 0) == (t395.toList == ([] : List UInt8)))) else (some false)) else (some false)))) = some r := by rw [if_pos rfl] at H; exact H
              clear H
              have H := H1
              clear H1
              by_cases c33 : ((decide (t391 < 0)) != t394) = true
              · rw [if_pos c33] at H
                have c33b0 : ((decide (t391 < 0)) != t394) = true := c33
                (try (have c33b1 : decide ((decide (t391 < 0)) = t394) = false := by simpa using c33))
                (try (have c33b2 : ((decide (t391 < 0)) == t394) = false := by simpa using c33))
                (try (have c33b3 : ¬ ((decide (t391 < 0)) = t394) := by simpa using c33))
                clear c33
                obtain rfl := Option.some.inj H
                have hnb34 := NB389_390.out
                have hnc34 := NB390_389.out
                have hcz35_0 : wc.cell? ⟨gb389, 0, none⟩ = some (.bool t383) := (blk_cell BK389.out 0).trans rfl
                have hcz35_1 : wc.cell? ⟨gb389, 1, none⟩ = some (.string t384) := (blk_cell BK389.out 1).trans rfl
                have hcz35_2 : wc.cell? ⟨gb389, 2, none⟩ = some (.int .i64 t385) := (blk_cell BK389.out 2).trans rfl
                have hfz35_0 := blk_frozen BK389.out 0
                have hfz35_1 := blk_frozen BK389.out 1
                have hfz35_2 := blk_frozen BK389.out 2
                have hcz36_0 : wc.cell? ⟨gb390, 0, none⟩ = some (.bool t386) := (blk_cell BK390.out 0).trans rfl
                have hcz36_1 : wc.cell? ⟨gb390, 1, none⟩ = some (.string t387) := (blk_cell BK390.out 1).trans rfl
                have hcz36_2 : wc.cell? ⟨gb390, 2, none⟩ = some (.int .i64 t388) := (blk_cell BK390.out 2).trans rfl
                have hfz36_0 := blk_frozen BK390.out 0
                have hfz36_1 := blk_frozen BK390.out 1
                have hfz36_2 := blk_frozen BK390.out 2
                go_wp2_with (first | ((with_reducible refine gate_callee (f := 20) rfl ?_); refine goesL_ (some 47) rfl rfl Tryd.func20 (by kernel_rfl) rfl #[.agg #[.bool t383, .string t384, .int .i64 t385], .agg #[.bool false, .string t387, .int .i64 t388]] rfl (by (try simp only [List.map_toArray, List.map_cons, List.map_nil]); first | done | rfl | (simp only [List.length_drop, List.length_take]; rfl)) ?_; (with_reducible refine (impl_AddDec.calls kj5 t383 t384 t385 false t387 t388 t394 t395 t396 true _ A31.out).mono ?_); rintro e w37 ⟨rfl, hb⟩; refine ⟨_, rfl, ?_⟩; have n0_ := Aside0.mk (blk_below (g := gb389) (o := .cells #[.bool t383, .string t384, .int .i64 t385] 26 (0, 0)) (by refine blk_up ?_; exact BK389.out) hb); have n1_ := Aside0.mk (blk_below (g := gb390) (o := .cells #[.bool t386, .string t387, .int .i64 t388] 26 (0, 0)) (by refine blk_up ?_; exact BK390.out) hb); have n2_ := Aside0.mk (below_step (by repeat (first | (with_reducible first | exact HB.out | apply below_alloc | apply pw_below_drewN | apply below_drew1 | refine below_set ?_ GE389.out | refine below_set ?_ GE390.out) | exact HB.out)) hb); clear BK389; clear BK390; clear HB; have BK389 := n0_; have BK390 := n1_; have HB := n2_; clear n0_ n1_ n2_; (try clear hb); (try clear hb2); (try clear hk); (try clear hi)) | ((with_reducible refine gate_dst (N := 6) rfl ?_); refine box_event ?hg (N := 6) ?hd (cs := #[.bool false, .string (⟨#[]⟩ : ByteArray), .int .i64 0]) (t := 26) ?hr ?_; (case hd => rfl); (case hg => rfl); (case hr => first | (go_simp; done) | (go_simp; rfl)); intro gb398 hg w38 hbox hb; have n0_ := Aside0.mk (blk_below (g := gb389) (o := .cells #[.bool t383, .string t384, .int .i64 t385] 26 (0, 0)) (by refine blk_up ?_; exact BK389.out) hb); have n1_ := Aside0.mk (blk_below (g := gb390) (o := .cells #[.bool t386, .string t387, .int .i64 t388] 26 (0, 0)) (by refine blk_up ?_; exact BK390.out) hb); have n2_ := Aside0.mk (below_step (by repeat (first | (with_reducible first | exact HB.out | apply below_alloc | apply pw_below_drewN | apply below_drew1 | refine below_set ?_ GE389.out | refine below_set ?_ GE390.out) | exact HB.out)) hb); have n3_ := Aside0.mk (hbox); have n4_ := Aside0.mk ((by rw [hg]; exact (below_size (by repeat (first | (with_reducible first | exact HB.out | apply below_alloc | apply pw_below_drewN | apply below_drew1 | refine below_set ?_ GE389.out | refine below_set ?_ GE390.out) | exact HB.out))) : w.heap.size ≤ gb398)); have n5_ := Aside0.mk ((by rw [hg]; exact (below_size (by repeat (first | (with_reducible first | exact HB.out | apply below_alloc | apply pw_below_drewN | apply below_drew1 | refine below_set ?_ GE389.out | refine below_set ?_ GE390.out) | exact HB.out))) : w.heap.size ≤ gb398)); have n6_ := Aside0.mk ((by rw [hg]; exact Nat.ne_of_lt (blk_lt (g := gb389) (o := .cells #[.bool t383, .string t384, .int .i64 t385] 26 (0, 0)) (by refine blk_up ?_; exact BK389.out)) : gb389 ≠ gb398)); have n7_ := Aside0.mk ((by rw [hg]; exact Nat.ne_of_gt (blk_lt (g := gb389) (o := .cells #[.bool t383, .string t384, .int .i64 t385] 26 (0, 0)) (by refine blk_up ?_; exact BK389.out)) : gb398 ≠ gb389)); have n8_ := Aside0.mk ((by rw [hg]; exact Nat.ne_of_lt (blk_lt (g := gb390) (o := .cells #[.bool t386, .string t387, .int .i64 t388] 26 (0, 0)) (by refine blk_up ?_; exact BK390.out)) : gb390 ≠ gb398)); have n9_ := Aside0.mk ((by rw [hg]; exact Nat.ne_of_gt (blk_lt (g := gb390) (o := .cells #[.bool t386, .string t387, .int .i64 t388] 26 (0, 0)) (by refine blk_up ?_; exact BK390.out)) : gb398 ≠ gb390)); clear BK389; clear BK390; clear HB; have BK389 := n0_; have BK390 := n1_; have HB := n2_; have BK398 := n3_; have GW398 := n4_; have GE398 := n5_; have NB389_398 := n6_; have NB398_389 := n7_; have NB390_398 := n8_; have NB398_390 := n9_; clear n0_ n1_ n2_ n3_ n4_ n5_ n6_ n7_ n8_ n9_; clear hb hbox hg; have hnb39 := NB398_389.out; have hnc39 := NB389_398.out; have hnb40 := NB398_390.out; have hnc40 := NB390_398.out; have hcz41_0 : w38.cell? ⟨gb398, 0, none⟩ = some (.bool false) := (blk_cell BK398.out 0).trans rfl; have hcz41_1 : w38.cell? ⟨gb398, 1, none⟩ = some (.string (⟨#[]⟩ : ByteArray)) := (blk_cell BK398.out 1).trans rfl; have hcz41_2 : w38.cell? ⟨gb398, 2, none⟩ = some (.int .i64 0) := (blk_cell BK398.out 2).trans rfl; have hfz41_0 := blk_frozen BK398.out 0; have hfz41_1 := blk_frozen BK398.out 1; have hfz41_2 := blk_frozen BK398.out 2))
                go_ret
                exact ⟨by first | rfl | (simp [errW_none, errW_some] <;> rfl) | (simp [*, errW_none, errW_some] <;> rfl), by repeat (first | (with_reducible first | exact HB.out | apply below_alloc | apply pw_below_drewN | apply below_drew1 | refine below_set ?_ GE389.out | refine below_set ?_ GE390.out | refine below_set ?_ GE398.out) | exact HB.out)⟩
              · rw [if_neg c33] at H
                have c33b0 : ((decide (t391 < 0)) != t394) = false := by simpa using c33
                (try (have c33b1 : decide ((decide (t391 < 0)) = t394) = true := by simpa using c33))
                (try (have c33b2 : ((decide (t391 < 0)) == t394) = true := by simpa using c33))
                clear c33
                replace H := Option.bind_eq_some_iff.mp H
                obtain ⟨t399, A420, H⟩ := H
                replace H : (if t399 = (wrap64 (-t391)) then (if ((t391 == 0) == (t383 == t386 && (t384.toList == t387.toList && (t385 == t388)))) = true then (some ((t391 == 0) == (t395.toList == ([] : List UInt8)))) else (some false)) else (some false)) = some r := H
                have A42 := Aside0.mk A420
                clear A420
                by_cases c43 : t399 = (wrap64 (-t391))
                · rw [if_pos c43] at H
                  have c43b0 : (t399 == (wrap64 (-t391))) = true := beq_iff_eq.mpr c43
                  have c43b1 : (t399 != (wrap64 (-t391))) = false := bne_eq_false_iff_eq.mpr c43
                  clear c43
                  by_cases c44 : ((t391 == 0) == (t383 == t386 && (t384.toList == t387.toList && (t385 == t388)))) = true
                  · rw [if_pos c44] at H
                    have c44b0 : ((t391 == 0) == (t383 == t386 && (t384.toList == t387.toList && (t385 == t388)))) = true := c44
                    (try (have c44b1 : decide ((t391 == 0) = (t383 == t386 && (t384.toList == t387.toList && (t385 == t388)))) = true := by simpa using c44))
                    (try (have c44b2 : ((t391 == 0) == (t383 == t386 && (t384.toList == t387.toList && (t385 == t388)))) = true := by simpa using c44))
                    clear c44
                    obtain rfl := Option.some.inj H
                    have hnb45 := NB389_390.out
                    have hnc45 := NB390_389.out
                    have hcz46_0 : wc.cell? ⟨gb389, 0, none⟩ = some (.bool t383) := (blk_cell BK389.out 0).trans rfl
                    have hcz46_1 : wc.cell? ⟨gb389, 1, none⟩ = some (.string t384) := (blk_cell BK389.out 1).trans rfl
                    have hcz46_2 : wc.cell? ⟨gb389, 2, none⟩ = some (.int .i64 t385) := (blk_cell BK389.out 2).trans rfl
                    have hfz46_0 := blk_frozen BK389.out 0
                    have hfz46_1 := blk_frozen BK389.out 1
                    have hfz46_2 := blk_frozen BK389.out 2
                    have hcz47_0 : wc.cell? ⟨gb390, 0, none⟩ = some (.bool t386) := (blk_cell BK390.out 0).trans rfl
                    have hcz47_1 : wc.cell? ⟨gb390, 1, none⟩ = some (.string t387) := (blk_cell BK390.out 1).trans rfl
                    have hcz47_2 : wc.cell? ⟨gb390, 2, none⟩ = some (.int .i64 t388) := (blk_cell BK390.out 2).trans rfl
                    have hfz47_0 := blk_frozen BK390.out 0
                    have hfz47_1 := blk_frozen BK390.out 1
                    have hfz47_2 := blk_frozen BK390.out 2
                    go_wp2_with (first | ((with_reducible refine gate_callee (f := 20) rfl ?_); refine goesL_ (some 47) rfl rfl Tryd.func20 (by kernel_rfl) rfl #[.agg #[.bool t383, .string t384, .int .i64 t385], .agg #[.bool false, .string t387, .int .i64 t388]] rfl (by (try simp only [List.map_toArray, List.map_cons, List.map_nil]); first | done | rfl | (simp only [List.length_drop, List.length_take]; rfl)) ?_; (with_reducible refine (impl_AddDec.calls kj5 t383 t384 t385 false t387 t388 t394 t395 t396 true _ A31.out).mono ?_); rintro e w48 ⟨rfl, hb⟩; refine ⟨_, rfl, ?_⟩; have n0_ := Aside0.mk (blk_below (g := gb389) (o := .cells #[.bool t383, .string t384, .int .i64 t385] 26 (0, 0)) (by refine blk_up ?_; exact BK389.out) hb); have n1_ := Aside0.mk (blk_below (g := gb390) (o := .cells #[.bool t386, .string t387, .int .i64 t388] 26 (0, 0)) (by refine blk_up ?_; exact BK390.out) hb); have n2_ := Aside0.mk (below_step (by repeat (first | (with_reducible first | exact HB.out | apply below_alloc | apply pw_below_drewN | apply below_drew1 | refine below_set ?_ GE389.out | refine below_set ?_ GE390.out) | exact HB.out)) hb); clear BK389; clear BK390; clear HB; have BK389 := n0_; have BK390 := n1_; have HB := n2_; clear n0_ n1_ n2_; (try clear hb); (try clear hb2); (try clear hk); (try clear hi)) | ((with_reducible refine gate_dst (N := 6) rfl ?_); refine box_event ?hg (N := 6) ?hd (cs := #[.bool false, .string (⟨#[]⟩ : ByteArray), .int .i64 0]) (t := 26) ?hr ?_; (case hd => rfl); (case hg => rfl); (case hr => first | (go_simp; done) | (go_simp; rfl)); intro gb398 hg w49 hbox hb; have n0_ := Aside0.mk (blk_below (g := gb389) (o := .cells #[.bool t383, .string t384, .int .i64 t385] 26 (0, 0)) (by refine blk_up ?_; exact BK389.out) hb); have n1_ := Aside0.mk (blk_below (g := gb390) (o := .cells #[.bool t386, .string t387, .int .i64 t388] 26 (0, 0)) (by refine blk_up ?_; exact BK390.out) hb); have n2_ := Aside0.mk (below_step (by repeat (first | (with_reducible first | exact HB.out | apply below_alloc | apply pw_below_drewN | apply below_drew1 | refine below_set ?_ GE389.out | refine below_set ?_ GE390.out) | exact HB.out)) hb); have n3_ := Aside0.mk (hbox); have n4_ := Aside0.mk ((by rw [hg]; exact (below_size (by repeat (first | (with_reducible first | exact HB.out | apply below_alloc | apply pw_below_drewN | apply below_drew1 | refine below_set ?_ GE389.out | refine below_set ?_ GE390.out) | exact HB.out))) : w.heap.size ≤ gb398)); have n5_ := Aside0.mk ((by rw [hg]; exact (below_size (by repeat (first | (with_reducible first | exact HB.out | apply below_alloc | apply pw_below_drewN | apply below_drew1 | refine below_set ?_ GE389.out | refine below_set ?_ GE390.out) | exact HB.out))) : w.heap.size ≤ gb398)); have n6_ := Aside0.mk ((by rw [hg]; exact Nat.ne_of_lt (blk_lt (g := gb389) (o := .cells #[.bool t383, .string t384, .int .i64 t385] 26 (0, 0)) (by refine blk_up ?_; exact BK389.out)) : gb389 ≠ gb398)); have n7_ := Aside0.mk ((by rw [hg]; exact Nat.ne_of_gt (blk_lt (g := gb389) (o := .cells #[.bool t383, .string t384, .int .i64 t385] 26 (0, 0)) (by refine blk_up ?_; exact BK389.out)) : gb398 ≠ gb389)); have n8_ := Aside0.mk ((by rw [hg]; exact Nat.ne_of_lt (blk_lt (g := gb390) (o := .cells #[.bool t386, .string t387, .int .i64 t388] 26 (0, 0)) (by refine blk_up ?_; exact BK390.out)) : gb390 ≠ gb398)); have n9_ := Aside0.mk ((by rw [hg]; exact Nat.ne_of_gt (blk_lt (g := gb390) (o := .cells #[.bool t386, .string t387, .int .i64 t388] 26 (0, 0)) (by refine blk_up ?_; exact BK390.out)) : gb398 ≠ gb390)); clear BK389; clear BK390; clear HB; have BK389 := n0_; have BK390 := n1_; have HB := n2_; have BK398 := n3_; have GW398 := n4_; have GE398 := n5_; have NB389_398 := n6_; have NB398_389 := n7_; have NB390_398 := n8_; have NB398_390 := n9_; clear n0_ n1_ n2_ n3_ n4_ n5_ n6_ n7_ n8_ n9_; clear hb hbox hg; have hnb50 := NB398_389.out; have hnc50 := NB389_398.out; have hnb51 := NB398_390.out; have hnc51 := NB390_398.out; have hcz52_0 : w49.cell? ⟨gb398, 0, none⟩ = some (.bool false) := (blk_cell BK398.out 0).trans rfl; have hcz52_1 : w49.cell? ⟨gb398, 1, none⟩ = some (.string (⟨#[]⟩ : ByteArray)) := (blk_cell BK398.out 1).trans rfl; have hcz52_2 : w49.cell? ⟨gb398, 2, none⟩ = some (.int .i64 0) := (blk_cell BK398.out 2).trans rfl; have hfz52_0 := blk_frozen BK398.out 0; have hfz52_1 := blk_frozen BK398.out 1; have hfz52_2 := blk_frozen BK398.out 2; have hcz53_0 : w49.cell? ⟨gb390, 0, none⟩ = some (.bool t386) := (blk_cell BK390.out 0).trans rfl; have hcz53_1 : w49.cell? ⟨gb390, 1, none⟩ = some (.string t387) := (blk_cell BK390.out 1).trans rfl; have hcz53_2 : w49.cell? ⟨gb390, 2, none⟩ = some (.int .i64 t388) := (blk_cell BK390.out 2).trans rfl; have hfz53_0 := blk_frozen BK390.out 0; have hfz53_1 := blk_frozen BK390.out 1; have hfz53_2 := blk_frozen BK390.out 2; have hcz54_0 : w49.cell? ⟨gb389, 0, none⟩ = some (.bool t383) := (blk_cell BK389.out 0).trans rfl; have hcz54_1 : w49.cell? ⟨gb389, 1, none⟩ = some (.string t384) := (blk_cell BK389.out 1).trans rfl; have hcz54_2 : w49.cell? ⟨gb389, 2, none⟩ = some (.int .i64 t385) := (blk_cell BK389.out 2).trans rfl; have hfz54_0 := blk_frozen BK389.out 0; have hfz54_1 := blk_frozen BK389.out 1; have hfz54_2 := blk_frozen BK389.out 2) | ((with_reducible refine gate_callee (f := 14) rfl ?_); refine goesL_ (some 60) rfl rfl Tryd.func14 (by kernel_rfl) rfl #[.agg #[.bool t386, .string t387, .int .i64 t388], .agg #[.bool t383, .string t384, .int .i64 t385]] rfl (by (try simp only [List.map_toArray, List.map_cons, List.map_nil]); first | done | rfl | (simp only [List.length_drop, List.length_take]; rfl)) ?_; (with_reducible refine (impl_CompareDec.calls kj5 t386 t387 t388 t383 t384 t385 t399 _ A42.out).mono ?_); rintro e w55 ⟨rfl, hb⟩; refine ⟨_, rfl, ?_⟩; have n0_ := Aside0.mk (blk_below (g := gb389) (o := .cells #[.bool t383, .string t384, .int .i64 t385] 26 (0, 0)) (by refine blk_up ?_; refine blk_far ?_ NB389_398.out _; refine blk_up ?_; refine blk_far ?_ NB389_398.out _; refine blk_up ?_; refine blk_far ?_ NB389_398.out _; refine blk_up ?_; exact BK389.out) hb); have n1_ := Aside0.mk (blk_below (g := gb390) (o := .cells #[.bool t386, .string t387, .int .i64 t388] 26 (0, 0)) (by refine blk_up ?_; refine blk_far ?_ NB390_398.out _; refine blk_up ?_; refine blk_far ?_ NB390_398.out _; refine blk_up ?_; refine blk_far ?_ NB390_398.out _; refine blk_up ?_; exact BK390.out) hb); have n2_ := Aside0.mk (blk_below (g := gb398) (o := .cells #[.bool t394, .string t395, .int .i64 t396] 26 (0, 0)) (by refine blk_up ?_; refine blk_put (cs := #[.bool t394, .string t395, .int .i64 0]) ?_ 2 _ rfl; refine blk_up ?_; refine blk_put (cs := #[.bool t394, .string (⟨#[]⟩ : ByteArray), .int .i64 0]) ?_ 1 _ rfl; refine blk_up ?_; refine blk_put (cs := #[.bool false, .string (⟨#[]⟩ : ByteArray), .int .i64 0]) ?_ 0 _ rfl; refine blk_up ?_; exact BK398.out) hb); have n3_ := Aside0.mk (below_step (by repeat (first | (with_reducible first | exact HB.out | apply below_alloc | apply pw_below_drewN | apply below_drew1 | refine below_set ?_ GE389.out | refine below_set ?_ GE390.out | refine below_set ?_ GE398.out) | exact HB.out)) hb); clear BK389; clear BK390; clear BK398; clear HB; have BK389 := n0_; have BK390 := n1_; have BK398 := n2_; have HB := n3_; clear n0_ n1_ n2_ n3_; (try clear hb); (try clear hb2); (try clear hk); (try clear hi); have hcz56_0 : w55.cell? ⟨gb389, 0, none⟩ = some (.bool t383) := (blk_cell BK389.out 0).trans rfl; have hcz56_1 : w55.cell? ⟨gb389, 1, none⟩ = some (.string t384) := (blk_cell BK389.out 1).trans rfl; have hcz56_2 : w55.cell? ⟨gb389, 2, none⟩ = some (.int .i64 t385) := (blk_cell BK389.out 2).trans rfl; have hfz56_0 := blk_frozen BK389.out 0; have hfz56_1 := blk_frozen BK389.out 1; have hfz56_2 := blk_frozen BK389.out 2; have hcz57_0 : w55.cell? ⟨gb390, 0, none⟩ = some (.bool t386) := (blk_cell BK390.out 0).trans rfl; have hcz57_1 : w55.cell? ⟨gb390, 1, none⟩ = some (.string t387) := (blk_cell BK390.out 1).trans rfl; have hcz57_2 : w55.cell? ⟨gb390, 2, none⟩ = some (.int .i64 t388) := (blk_cell BK390.out 2).trans rfl; have hfz57_0 := blk_frozen BK390.out 0; have hfz57_1 := blk_frozen BK390.out 1; have hfz57_2 := blk_frozen BK390.out 2; have hcz58_0 : w55.cell? ⟨gb398, 0, none⟩ = some (.bool t394) := (blk_cell BK398.out 0).trans rfl; have hcz58_1 : w55.cell? ⟨gb398, 1, none⟩ = some (.string t395) := (blk_cell BK398.out 1).trans rfl; have hcz58_2 : w55.cell? ⟨gb398, 2, none⟩ = some (.int .i64 t396) := (blk_cell BK398.out 2).trans rfl; have hfz58_0 := blk_frozen BK398.out 0; have hfz58_1 := blk_frozen BK398.out 1; have hfz58_2 := blk_frozen BK398.out 2))
                    go_ret
                    exact ⟨by first | rfl | (simp [errW_none, errW_some] <;> rfl) | (simp [*, errW_none, errW_some] <;> rfl), by repeat (first | (with_reducible first | exact HB.out | apply below_alloc | apply pw_below_drewN | apply below_drew1 | refine below_set ?_ GE389.out | refine below_set ?_ GE390.out | refine below_set ?_ GE398.out) | exact HB.out)⟩
                  · rw [if_neg c44] at H
                    have c44b0 : ((t391 == 0) == (t383 == t386 && (t384.toList == t387.toList && (t385 == t388)))) = false := by simpa using c44
                    (try (have c44b1 : decide ((t391 == 0) = (t383 == t386 && (t384.toList == t387.toList && (t385 == t388)))) = false := by simpa using c44))
                    (try (have c44b2 : ((t391 == 0) == (t383 == t386 && (t384.toList == t387.toList && (t385 == t388)))) = false := by simpa using c44))
                    (try (have c44b3 : ¬ ((t391 == 0) = (t383 == t386 && (t384.toList == t387.toList && (t385 == t388)))) := by simpa using c44))
                    clear c44
                    obtain rfl := Option.some.inj H
                    have hnb59 := NB389_390.out
                    have hnc59 := NB390_389.out
                    have hcz60_0 : wc.cell? ⟨gb389, 0, none⟩ = some (.bool t383) := (blk_cell BK389.out 0).trans rfl
                    have hcz60_1 : wc.cell? ⟨gb389, 1, none⟩ = some (.string t384) := (blk_cell BK389.out 1).trans rfl
                    have hcz60_2 : wc.cell? ⟨gb389, 2, none⟩ = some (.int .i64 t385) := (blk_cell BK389.out 2).trans rfl
                    have hfz60_0 := blk_frozen BK389.out 0
                    have hfz60_1 := blk_frozen BK389.out 1
                    have hfz60_2 := blk_frozen BK389.out 2
                    have hcz61_0 : wc.cell? ⟨gb390, 0, none⟩ = some (.bool t386) := (blk_cell BK390.out 0).trans rfl
                    have hcz61_1 : wc.cell? ⟨gb390, 1, none⟩ = some (.string t387) := (blk_cell BK390.out 1).trans rfl
                    have hcz61_2 : wc.cell? ⟨gb390, 2, none⟩ = some (.int .i64 t388) := (blk_cell BK390.out 2).trans rfl
                    have hfz61_0 := blk_frozen BK390.out 0
                    have hfz61_1 := blk_frozen BK390.out 1
                    have hfz61_2 := blk_frozen BK390.out 2
                    go_wp2_with (first | ((with_reducible refine gate_callee (f := 20) rfl ?_); refine goesL_ (some 47) rfl rfl Tryd.func20 (by kernel_rfl) rfl #[.agg #[.bool t383, .string t384, .int .i64 t385], .agg #[.bool false, .string t387, .int .i64 t388]] rfl (by (try simp only [List.map_toArray, List.map_cons, List.map_nil]); first | done | rfl | (simp only [List.length_drop, List.length_take]; rfl)) ?_; (with_reducible refine (impl_AddDec.calls kj5 t383 t384 t385 false t387 t388 t394 t395 t396 true _ A31.out).mono ?_); rintro e w62 ⟨rfl, hb⟩; refine ⟨_, rfl, ?_⟩; have n0_ := Aside0.mk (blk_below (g := gb389) (o := .cells #[.bool t383, .string t384, .int .i64 t385] 26 (0, 0)) (by refine blk_up ?_; exact BK389.out) hb); have n1_ := Aside0.mk (blk_below (g := gb390) (o := .cells #[.bool t386, .string t387, .int .i64 t388] 26 (0, 0)) (by refine blk_up ?_; exact BK390.out) hb); have n2_ := Aside0.mk (below_step (by repeat (first | (with_reducible first | exact HB.out | apply below_alloc | apply pw_below_drewN | apply below_drew1 | refine below_set ?_ GE389.out | refine below_set ?_ GE390.out) | exact HB.out)) hb); clear BK389; clear BK390; clear HB; have BK389 := n0_; have BK390 := n1_; have HB := n2_; clear n0_ n1_ n2_; (try clear hb); (try clear hb2); (try clear hk); (try clear hi)) | ((with_reducible refine gate_dst (N := 6) rfl ?_); refine box_event ?hg (N := 6) ?hd (cs := #[.bool false, .string (⟨#[]⟩ : ByteArray), .int .i64 0]) (t := 26) ?hr ?_; (case hd => rfl); (case hg => rfl); (case hr => first | (go_simp; done) | (go_simp; rfl)); intro gb398 hg w63 hbox hb; have n0_ := Aside0.mk (blk_below (g := gb389) (o := .cells #[.bool t383, .string t384, .int .i64 t385] 26 (0, 0)) (by refine blk_up ?_; exact BK389.out) hb); have n1_ := Aside0.mk (blk_below (g := gb390) (o := .cells #[.bool t386, .string t387, .int .i64 t388] 26 (0, 0)) (by refine blk_up ?_; exact BK390.out) hb); have n2_ := Aside0.mk (below_step (by repeat (first | (with_reducible first | exact HB.out | apply below_alloc | apply pw_below_drewN | apply below_drew1 | refine below_set ?_ GE389.out | refine below_set ?_ GE390.out) | exact HB.out)) hb); have n3_ := Aside0.mk (hbox); have n4_ := Aside0.mk ((by rw [hg]; exact (below_size (by repeat (first | (with_reducible first | exact HB.out | apply below_alloc | apply pw_below_drewN | apply below_drew1 | refine below_set ?_ GE389.out | refine below_set ?_ GE390.out) | exact HB.out))) : w.heap.size ≤ gb398)); have n5_ := Aside0.mk ((by rw [hg]; exact (below_size (by repeat (first | (with_reducible first | exact HB.out | apply below_alloc | apply pw_below_drewN | apply below_drew1 | refine below_set ?_ GE389.out | refine below_set ?_ GE390.out) | exact HB.out))) : w.heap.size ≤ gb398)); have n6_ := Aside0.mk ((by rw [hg]; exact Nat.ne_of_lt (blk_lt (g := gb389) (o := .cells #[.bool t383, .string t384, .int .i64 t385] 26 (0, 0)) (by refine blk_up ?_; exact BK389.out)) : gb389 ≠ gb398)); have n7_ := Aside0.mk ((by rw [hg]; exact Nat.ne_of_gt (blk_lt (g := gb389) (o := .cells #[.bool t383, .string t384, .int .i64 t385] 26 (0, 0)) (by refine blk_up ?_; exact BK389.out)) : gb398 ≠ gb389)); have n8_ := Aside0.mk ((by rw [hg]; exact Nat.ne_of_lt (blk_lt (g := gb390) (o := .cells #[.bool t386, .string t387, .int .i64 t388] 26 (0, 0)) (by refine blk_up ?_; exact BK390.out)) : gb390 ≠ gb398)); have n9_ := Aside0.mk ((by rw [hg]; exact Nat.ne_of_gt (blk_lt (g := gb390) (o := .cells #[.bool t386, .string t387, .int .i64 t388] 26 (0, 0)) (by refine blk_up ?_; exact BK390.out)) : gb398 ≠ gb390)); clear BK389; clear BK390; clear HB; have BK389 := n0_; have BK390 := n1_; have HB := n2_; have BK398 := n3_; have GW398 := n4_; have GE398 := n5_; have NB389_398 := n6_; have NB398_389 := n7_; have NB390_398 := n8_; have NB398_390 := n9_; clear n0_ n1_ n2_ n3_ n4_ n5_ n6_ n7_ n8_ n9_; clear hb hbox hg; have hnb64 := NB398_389.out; have hnc64 := NB389_398.out; have hnb65 := NB398_390.out; have hnc65 := NB390_398.out; have hcz66_0 : w63.cell? ⟨gb398, 0, none⟩ = some (.bool false) := (blk_cell BK398.out 0).trans rfl; have hcz66_1 : w63.cell? ⟨gb398, 1, none⟩ = some (.string (⟨#[]⟩ : ByteArray)) := (blk_cell BK398.out 1).trans rfl; have hcz66_2 : w63.cell? ⟨gb398, 2, none⟩ = some (.int .i64 0) := (blk_cell BK398.out 2).trans rfl; have hfz66_0 := blk_frozen BK398.out 0; have hfz66_1 := blk_frozen BK398.out 1; have hfz66_2 := blk_frozen BK398.out 2; have hcz67_0 : w63.cell? ⟨gb390, 0, none⟩ = some (.bool t386) := (blk_cell BK390.out 0).trans rfl; have hcz67_1 : w63.cell? ⟨gb390, 1, none⟩ = some (.string t387) := (blk_cell BK390.out 1).trans rfl; have hcz67_2 : w63.cell? ⟨gb390, 2, none⟩ = some (.int .i64 t388) := (blk_cell BK390.out 2).trans rfl; have hfz67_0 := blk_frozen BK390.out 0; have hfz67_1 := blk_frozen BK390.out 1; have hfz67_2 := blk_frozen BK390.out 2; have hcz68_0 : w63.cell? ⟨gb389, 0, none⟩ = some (.bool t383) := (blk_cell BK389.out 0).trans rfl; have hcz68_1 : w63.cell? ⟨gb389, 1, none⟩ = some (.string t384) := (blk_cell BK389.out 1).trans rfl; have hcz68_2 : w63.cell? ⟨gb389, 2, none⟩ = some (.int .i64 t385) := (blk_cell BK389.out 2).trans rfl; have hfz68_0 := blk_frozen BK389.out 0; have hfz68_1 := blk_frozen BK389.out 1; have hfz68_2 := blk_frozen BK389.out 2) | ((with_reducible refine gate_callee (f := 14) rfl ?_); refine goesL_ (some 60) rfl rfl Tryd.func14 (by kernel_rfl) rfl #[.agg #[.bool t386, .string t387, .int .i64 t388], .agg #[.bool t383, .string t384, .int .i64 t385]] rfl (by (try simp only [List.map_toArray, List.map_cons, List.map_nil]); first | done | rfl | (simp only [List.length_drop, List.length_take]; rfl)) ?_; (with_reducible refine (impl_CompareDec.calls kj5 t386 t387 t388 t383 t384 t385 t399 _ A42.out).mono ?_); rintro e w69 ⟨rfl, hb⟩; refine ⟨_, rfl, ?_⟩; have n0_ := Aside0.mk (blk_below (g := gb389) (o := .cells #[.bool t383, .string t384, .int .i64 t385] 26 (0, 0)) (by refine blk_up ?_; refine blk_far ?_ NB389_398.out _; refine blk_up ?_; refine blk_far ?_ NB389_398.out _; refine blk_up ?_; refine blk_far ?_ NB389_398.out _; refine blk_up ?_; exact BK389.out) hb); have n1_ := Aside0.mk (blk_below (g := gb390) (o := .cells #[.bool t386, .string t387, .int .i64 t388] 26 (0, 0)) (by refine blk_up ?_; refine blk_far ?_ NB390_398.out _; refine blk_up ?_; refine blk_far ?_ NB390_398.out _; refine blk_up ?_; refine blk_far ?_ NB390_398.out _; refine blk_up ?_; exact BK390.out) hb); have n2_ := Aside0.mk (blk_below (g := gb398) (o := .cells #[.bool t394, .string t395, .int .i64 t396] 26 (0, 0)) (by refine blk_up ?_; refine blk_put (cs := #[.bool t394, .string t395, .int .i64 0]) ?_ 2 _ rfl; refine blk_up ?_; refine blk_put (cs := #[.bool t394, .string (⟨#[]⟩ : ByteArray), .int .i64 0]) ?_ 1 _ rfl; refine blk_up ?_; refine blk_put (cs := #[.bool false, .string (⟨#[]⟩ : ByteArray), .int .i64 0]) ?_ 0 _ rfl; refine blk_up ?_; exact BK398.out) hb); have n3_ := Aside0.mk (below_step (by repeat (first | (with_reducible first | exact HB.out | apply below_alloc | apply pw_below_drewN | apply below_drew1 | refine below_set ?_ GE389.out | refine below_set ?_ GE390.out | refine below_set ?_ GE398.out) | exact HB.out)) hb); clear BK389; clear BK390; clear BK398; clear HB; have BK389 := n0_; have BK390 := n1_; have BK398 := n2_; have HB := n3_; clear n0_ n1_ n2_ n3_; (try clear hb); (try clear hb2); (try clear hk); (try clear hi); have hcz70_0 : w69.cell? ⟨gb389, 0, none⟩ = some (.bool t383) := (blk_cell BK389.out 0).trans rfl; have hcz70_1 : w69.cell? ⟨gb389, 1, none⟩ = some (.string t384) := (blk_cell BK389.out 1).trans rfl; have hcz70_2 : w69.cell? ⟨gb389, 2, none⟩ = some (.int .i64 t385) := (blk_cell BK389.out 2).trans rfl; have hfz70_0 := blk_frozen BK389.out 0; have hfz70_1 := blk_frozen BK389.out 1; have hfz70_2 := blk_frozen BK389.out 2; have hcz71_0 : w69.cell? ⟨gb390, 0, none⟩ = some (.bool t386) := (blk_cell BK390.out 0).trans rfl; have hcz71_1 : w69.cell? ⟨gb390, 1, none⟩ = some (.string t387) := (blk_cell BK390.out 1).trans rfl; have hcz71_2 : w69.cell? ⟨gb390, 2, none⟩ = some (.int .i64 t388) := (blk_cell BK390.out 2).trans rfl; have hfz71_0 := blk_frozen BK390.out 0; have hfz71_1 := blk_frozen BK390.out 1; have hfz71_2 := blk_frozen BK390.out 2))
                    go_ret
                    exact ⟨by first | rfl | (simp [errW_none, errW_some] <;> rfl) | (simp [*, errW_none, errW_some] <;> rfl), by repeat (first | (with_reducible first | exact HB.out | apply below_alloc | apply pw_below_drewN | apply below_drew1 | refine below_set ?_ GE389.out | refine below_set ?_ GE390.out | refine below_set ?_ GE398.out) | exact HB.out)⟩
                · rw [if_neg c43] at H
                  have c43b0 : (t399 == (wrap64 (-t391))) = false := beq_eq_false_iff_ne.mpr c43
                  have c43b1 : (t399 != (wrap64 (-t391))) = true := bne_iff_ne.mpr c43
                  obtain rfl := Option.some.inj H
                  have hnb72 := NB389_390.out
                  have hnc72 := NB390_389.out
                  have hcz73_0 : wc.cell? ⟨gb389, 0, none⟩ = some (.bool t383) := (blk_cell BK389.out 0).trans rfl
                  have hcz73_1 : wc.cell? ⟨gb389, 1, none⟩ = some (.string t384) := (blk_cell BK389.out 1).trans rfl
                  have hcz73_2 : wc.cell? ⟨gb389, 2, none⟩ = some (.int .i64 t385) := (blk_cell BK389.out 2).trans rfl
                  have hfz73_0 := blk_frozen BK389.out 0
                  have hfz73_1 := blk_frozen BK389.out 1
                  have hfz73_2 := blk_frozen BK389.out 2
                  have hcz74_0 : wc.cell? ⟨gb390, 0, none⟩ = some (.bool t386) := (blk_cell BK390.out 0).trans rfl
                  have hcz74_1 : wc.cell? ⟨gb390, 1, none⟩ = some (.string t387) := (blk_cell BK390.out 1).trans rfl
                  have hcz74_2 : wc.cell? ⟨gb390, 2, none⟩ = some (.int .i64 t388) := (blk_cell BK390.out 2).trans rfl
                  have hfz74_0 := blk_frozen BK390.out 0
                  have hfz74_1 := blk_frozen BK390.out 1
                  have hfz74_2 := blk_frozen BK390.out 2
                  go_wp2_with (first | ((with_reducible refine gate_callee (f := 20) rfl ?_); refine goesL_ (some 47) rfl rfl Tryd.func20 (by kernel_rfl) rfl #[.agg #[.bool t383, .string t384, .int .i64 t385], .agg #[.bool false, .string t387, .int .i64 t388]] rfl (by (try simp only [List.map_toArray, List.map_cons, List.map_nil]); first | done | rfl | (simp only [List.length_drop, List.length_take]; rfl)) ?_; (with_reducible refine (impl_AddDec.calls kj5 t383 t384 t385 false t387 t388 t394 t395 t396 true _ A31.out).mono ?_); rintro e w75 ⟨rfl, hb⟩; refine ⟨_, rfl, ?_⟩; have n0_ := Aside0.mk (blk_below (g := gb389) (o := .cells #[.bool t383, .string t384, .int .i64 t385] 26 (0, 0)) (by refine blk_up ?_; exact BK389.out) hb); have n1_ := Aside0.mk (blk_below (g := gb390) (o := .cells #[.bool t386, .string t387, .int .i64 t388] 26 (0, 0)) (by refine blk_up ?_; exact BK390.out) hb); have n2_ := Aside0.mk (below_step (by repeat (first | (with_reducible first | exact HB.out | apply below_alloc | apply pw_below_drewN | apply below_drew1 | refine below_set ?_ GE389.out | refine below_set ?_ GE390.out) | exact HB.out)) hb); clear BK389; clear BK390; clear HB; have BK389 := n0_; have BK390 := n1_; have HB := n2_; clear n0_ n1_ n2_; (try clear hb); (try clear hb2); (try clear hk); (try clear hi)) | ((with_reducible refine gate_dst (N := 6) rfl ?_); refine box_event ?hg (N := 6) ?hd (cs := #[.bool false, .string (⟨#[]⟩ : ByteArray), .int .i64 0]) (t := 26) ?hr ?_; (case hd => rfl); (case hg => rfl); (case hr => first | (go_simp; done) | (go_simp; rfl)); intro gb398 hg w76 hbox hb; have n0_ := Aside0.mk (blk_below (g := gb389) (o := .cells #[.bool t383, .string t384, .int .i64 t385] 26 (0, 0)) (by refine blk_up ?_; exact BK389.out) hb); have n1_ := Aside0.mk (blk_below (g := gb390) (o := .cells #[.bool t386, .string t387, .int .i64 t388] 26 (0, 0)) (by refine blk_up ?_; exact BK390.out) hb); have n2_ := Aside0.mk (below_step (by repeat (first | (with_reducible first | exact HB.out | apply below_alloc | apply pw_below_drewN | apply below_drew1 | refine below_set ?_ GE389.out | refine below_set ?_ GE390.out) | exact HB.out)) hb); have n3_ := Aside0.mk (hbox); have n4_ := Aside0.mk ((by rw [hg]; exact (below_size (by repeat (first | (with_reducible first | exact HB.out | apply below_alloc | apply pw_below_drewN | apply below_drew1 | refine below_set ?_ GE389.out | refine below_set ?_ GE390.out) | exact HB.out))) : w.heap.size ≤ gb398)); have n5_ := Aside0.mk ((by rw [hg]; exact (below_size (by repeat (first | (with_reducible first | exact HB.out | apply below_alloc | apply pw_below_drewN | apply below_drew1 | refine below_set ?_ GE389.out | refine below_set ?_ GE390.out) | exact HB.out))) : w.heap.size ≤ gb398)); have n6_ := Aside0.mk ((by rw [hg]; exact Nat.ne_of_lt (blk_lt (g := gb389) (o := .cells #[.bool t383, .string t384, .int .i64 t385] 26 (0, 0)) (by refine blk_up ?_; exact BK389.out)) : gb389 ≠ gb398)); have n7_ := Aside0.mk ((by rw [hg]; exact Nat.ne_of_gt (blk_lt (g := gb389) (o := .cells #[.bool t383, .string t384, .int .i64 t385] 26 (0, 0)) (by refine blk_up ?_; exact BK389.out)) : gb398 ≠ gb389)); have n8_ := Aside0.mk ((by rw [hg]; exact Nat.ne_of_lt (blk_lt (g := gb390) (o := .cells #[.bool t386, .string t387, .int .i64 t388] 26 (0, 0)) (by refine blk_up ?_; exact BK390.out)) : gb390 ≠ gb398)); have n9_ := Aside0.mk ((by rw [hg]; exact Nat.ne_of_gt (blk_lt (g := gb390) (o := .cells #[.bool t386, .string t387, .int .i64 t388] 26 (0, 0)) (by refine blk_up ?_; exact BK390.out)) : gb398 ≠ gb390)); clear BK389; clear BK390; clear HB; have BK389 := n0_; have BK390 := n1_; have HB := n2_; have BK398 := n3_; have GW398 := n4_; have GE398 := n5_; have NB389_398 := n6_; have NB398_389 := n7_; have NB390_398 := n8_; have NB398_390 := n9_; clear n0_ n1_ n2_ n3_ n4_ n5_ n6_ n7_ n8_ n9_; clear hb hbox hg; have hnb77 := NB398_389.out; have hnc77 := NB389_398.out; have hnb78 := NB398_390.out; have hnc78 := NB390_398.out; have hcz79_0 : w76.cell? ⟨gb398, 0, none⟩ = some (.bool false) := (blk_cell BK398.out 0).trans rfl; have hcz79_1 : w76.cell? ⟨gb398, 1, none⟩ = some (.string (⟨#[]⟩ : ByteArray)) := (blk_cell BK398.out 1).trans rfl; have hcz79_2 : w76.cell? ⟨gb398, 2, none⟩ = some (.int .i64 0) := (blk_cell BK398.out 2).trans rfl; have hfz79_0 := blk_frozen BK398.out 0; have hfz79_1 := blk_frozen BK398.out 1; have hfz79_2 := blk_frozen BK398.out 2; have hcz80_0 : w76.cell? ⟨gb390, 0, none⟩ = some (.bool t386) := (blk_cell BK390.out 0).trans rfl; have hcz80_1 : w76.cell? ⟨gb390, 1, none⟩ = some (.string t387) := (blk_cell BK390.out 1).trans rfl; have hcz80_2 : w76.cell? ⟨gb390, 2, none⟩ = some (.int .i64 t388) := (blk_cell BK390.out 2).trans rfl; have hfz80_0 := blk_frozen BK390.out 0; have hfz80_1 := blk_frozen BK390.out 1; have hfz80_2 := blk_frozen BK390.out 2; have hcz81_0 : w76.cell? ⟨gb389, 0, none⟩ = some (.bool t383) := (blk_cell BK389.out 0).trans rfl; have hcz81_1 : w76.cell? ⟨gb389, 1, none⟩ = some (.string t384) := (blk_cell BK389.out 1).trans rfl; have hcz81_2 : w76.cell? ⟨gb389, 2, none⟩ = some (.int .i64 t385) := (blk_cell BK389.out 2).trans rfl; have hfz81_0 := blk_frozen BK389.out 0; have hfz81_1 := blk_frozen BK389.out 1; have hfz81_2 := blk_frozen BK389.out 2) | ((with_reducible refine gate_callee (f := 14) rfl ?_); refine goesL_ (some 60) rfl rfl Tryd.func14 (by kernel_rfl) rfl #[.agg #[.bool t386, .string t387, .int .i64 t388], .agg #[.bool t383, .string t384, .int .i64 t385]] rfl (by (try simp only [List.map_toArray, List.map_cons, List.map_nil]); first | done | rfl | (simp only [List.length_drop, List.length_take]; rfl)) ?_; (with_reducible refine (impl_CompareDec.calls kj5 t386 t387 t388 t383 t384 t385 t399 _ A42.out).mono ?_); rintro e w82 ⟨rfl, hb⟩; refine ⟨_, rfl, ?_⟩; have n0_ := Aside0.mk (blk_below (g := gb389) (o := .cells #[.bool t383, .string t384, .int .i64 t385] 26 (0, 0)) (by refine blk_up ?_; refine blk_far ?_ NB389_398.out _; refine blk_up ?_; refine blk_far ?_ NB389_398.out _; refine blk_up ?_; refine blk_far ?_ NB389_398.out _; refine blk_up ?_; exact BK389.out) hb); have n1_ := Aside0.mk (blk_below (g := gb390) (o := .cells #[.bool t386, .string t387, .int .i64 t388] 26 (0, 0)) (by refine blk_up ?_; refine blk_far ?_ NB390_398.out _; refine blk_up ?_; refine blk_far ?_ NB390_398.out _; refine blk_up ?_; refine blk_far ?_ NB390_398.out _; refine blk_up ?_; exact BK390.out) hb); have n2_ := Aside0.mk (blk_below (g := gb398) (o := .cells #[.bool t394, .string t395, .int .i64 t396] 26 (0, 0)) (by refine blk_up ?_; refine blk_put (cs := #[.bool t394, .string t395, .int .i64 0]) ?_ 2 _ rfl; refine blk_up ?_; refine blk_put (cs := #[.bool t394, .string (⟨#[]⟩ : ByteArray), .int .i64 0]) ?_ 1 _ rfl; refine blk_up ?_; refine blk_put (cs := #[.bool false, .string (⟨#[]⟩ : ByteArray), .int .i64 0]) ?_ 0 _ rfl; refine blk_up ?_; exact BK398.out) hb); have n3_ := Aside0.mk (below_step (by repeat (first | (with_reducible first | exact HB.out | apply below_alloc | apply pw_below_drewN | apply below_drew1 | refine below_set ?_ GE389.out | refine below_set ?_ GE390.out | refine below_set ?_ GE398.out) | exact HB.out)) hb); clear BK389; clear BK390; clear BK398; clear HB; have BK389 := n0_; have BK390 := n1_; have BK398 := n2_; have HB := n3_; clear n0_ n1_ n2_ n3_; (try clear hb); (try clear hb2); (try clear hk); (try clear hi)))
                  go_ret
                  exact ⟨by first | rfl | (simp [errW_none, errW_some] <;> rfl) | (simp [*, errW_none, errW_some] <;> rfl), by repeat (first | (with_reducible first | exact HB.out | apply below_alloc | apply pw_below_drewN | apply below_drew1 | refine below_set ?_ GE389.out | refine below_set ?_ GE390.out | refine below_set ?_ GE398.out) | exact HB.out)⟩
            · replace c32 := Bool.eq_false_iff.mpr c32
              subst c32
              have H1 : ((impl_CompareDec.f kj5 t386 t387 t388 t383 t384 t385).bind fun t400 => (if t400 = (wrap64 (-t391)) then (if ((t391 == 0) == (t383 == t386 && (t384.toList == t387.toList && (t385 == t388)))) = true then (some true) else (some false)) else (some false))) = some r := by rw [if_neg (show ¬ (false = true) by decide)] at H; exact H
              clear H
              have H := H1
              clear H1
              replace H := Option.bind_eq_some_iff.mp H
              obtain ⟨t400, A830, H⟩ := H
              replace H : (if t400 = (wrap64 (-t391)) then (if ((t391 == 0) == (t383 == t386 && (t384.toList == t387.toList && (t385 == t388)))) = true then (some true) else (some false)) else (some false)) = some r := H
              have A83 := Aside0.mk A830
              clear A830
              by_cases c84 : t400 = (wrap64 (-t391))
              · rw [if_pos c84] at H
                have c84b0 : (t400 == (wrap64 (-t391))) = true := beq_iff_eq.mpr c84
                have c84b1 : (t400 != (wrap64 (-t391))) = false := bne_eq_false_iff_eq.mpr c84
                clear c84
                by_cases c85 : ((t391 == 0) == (t383 == t386 && (t384.toList == t387.toList && (t385 == t388)))) = true
                · rw [if_pos c85] at H
                  have c85b0 : ((t391 == 0) == (t383 == t386 && (t384.toList == t387.toList && (t385 == t388)))) = true := c85
                  (try (have c85b1 : decide ((t391 == 0) = (t383 == t386 && (t384.toList == t387.toList && (t385 == t388)))) = true := by simpa using c85))
                  (try (have c85b2 : ((t391 == 0) == (t383 == t386 && (t384.toList == t387.toList && (t385 == t388)))) = true := by simpa using c85))
                  clear c85
                  obtain rfl := Option.some.inj H
                  have hnb86 := NB389_390.out
                  have hnc86 := NB390_389.out
                  have hcz87_0 : wc.cell? ⟨gb389, 0, none⟩ = some (.bool t383) := (blk_cell BK389.out 0).trans rfl
                  have hcz87_1 : wc.cell? ⟨gb389, 1, none⟩ = some (.string t384) := (blk_cell BK389.out 1).trans rfl
                  have hcz87_2 : wc.cell? ⟨gb389, 2, none⟩ = some (.int .i64 t385) := (blk_cell BK389.out 2).trans rfl
                  have hfz87_0 := blk_frozen BK389.out 0
                  have hfz87_1 := blk_frozen BK389.out 1
                  have hfz87_2 := blk_frozen BK389.out 2
                  have hcz88_0 : wc.cell? ⟨gb390, 0, none⟩ = some (.bool t386) := (blk_cell BK390.out 0).trans rfl
                  have hcz88_1 : wc.cell? ⟨gb390, 1, none⟩ = some (.string t387) := (blk_cell BK390.out 1).trans rfl
                  have hcz88_2 : wc.cell? ⟨gb390, 2, none⟩ = some (.int .i64 t388) := (blk_cell BK390.out 2).trans rfl
                  have hfz88_0 := blk_frozen BK390.out 0
                  have hfz88_1 := blk_frozen BK390.out 1
                  have hfz88_2 := blk_frozen BK390.out 2
                  go_wp2_with (first | ((with_reducible refine gate_callee (f := 20) rfl ?_); refine goesL_ (some 47) rfl rfl Tryd.func20 (by kernel_rfl) rfl #[.agg #[.bool t383, .string t384, .int .i64 t385], .agg #[.bool false, .string t387, .int .i64 t388]] rfl (by (try simp only [List.map_toArray, List.map_cons, List.map_nil]); first | done | rfl | (simp only [List.length_drop, List.length_take]; rfl)) ?_; (with_reducible refine (impl_AddDec.calls kj5 t383 t384 t385 false t387 t388 t394 t395 t396 false _ A31.out).mono ?_); rintro e w89 ⟨rfl, hb⟩; refine ⟨_, rfl, ?_⟩; have n0_ := Aside0.mk (blk_below (g := gb389) (o := .cells #[.bool t383, .string t384, .int .i64 t385] 26 (0, 0)) (by refine blk_up ?_; exact BK389.out) hb); have n1_ := Aside0.mk (blk_below (g := gb390) (o := .cells #[.bool t386, .string t387, .int .i64 t388] 26 (0, 0)) (by refine blk_up ?_; exact BK390.out) hb); have n2_ := Aside0.mk (below_step (by repeat (first | (with_reducible first | exact HB.out | apply below_alloc | apply pw_below_drewN | apply below_drew1 | refine below_set ?_ GE389.out | refine below_set ?_ GE390.out) | exact HB.out)) hb); clear BK389; clear BK390; clear HB; have BK389 := n0_; have BK390 := n1_; have HB := n2_; clear n0_ n1_ n2_; (try clear hb); (try clear hb2); (try clear hk); (try clear hi)) | ((with_reducible refine gate_dst (N := 6) rfl ?_); refine box_event ?hg (N := 6) ?hd (cs := #[.bool false, .string (⟨#[]⟩ : ByteArray), .int .i64 0]) (t := 26) ?hr ?_; (case hd => rfl); (case hg => rfl); (case hr => first | (go_simp; done) | (go_simp; rfl)); intro gb398 hg w90 hbox hb; have n0_ := Aside0.mk (blk_below (g := gb389) (o := .cells #[.bool t383, .string t384, .int .i64 t385] 26 (0, 0)) (by refine blk_up ?_; exact BK389.out) hb); have n1_ := Aside0.mk (blk_below (g := gb390) (o := .cells #[.bool t386, .string t387, .int .i64 t388] 26 (0, 0)) (by refine blk_up ?_; exact BK390.out) hb); have n2_ := Aside0.mk (below_step (by repeat (first | (with_reducible first | exact HB.out | apply below_alloc | apply pw_below_drewN | apply below_drew1 | refine below_set ?_ GE389.out | refine below_set ?_ GE390.out) | exact HB.out)) hb); have n3_ := Aside0.mk (hbox); have n4_ := Aside0.mk ((by rw [hg]; exact (below_size (by repeat (first | (with_reducible first | exact HB.out | apply below_alloc | apply pw_below_drewN | apply below_drew1 | refine below_set ?_ GE389.out | refine below_set ?_ GE390.out) | exact HB.out))) : w.heap.size ≤ gb398)); have n5_ := Aside0.mk ((by rw [hg]; exact (below_size (by repeat (first | (with_reducible first | exact HB.out | apply below_alloc | apply pw_below_drewN | apply below_drew1 | refine below_set ?_ GE389.out | refine below_set ?_ GE390.out) | exact HB.out))) : w.heap.size ≤ gb398)); have n6_ := Aside0.mk ((by rw [hg]; exact Nat.ne_of_lt (blk_lt (g := gb389) (o := .cells #[.bool t383, .string t384, .int .i64 t385] 26 (0, 0)) (by refine blk_up ?_; exact BK389.out)) : gb389 ≠ gb398)); have n7_ := Aside0.mk ((by rw [hg]; exact Nat.ne_of_gt (blk_lt (g := gb389) (o := .cells #[.bool t383, .string t384, .int .i64 t385] 26 (0, 0)) (by refine blk_up ?_; exact BK389.out)) : gb398 ≠ gb389)); have n8_ := Aside0.mk ((by rw [hg]; exact Nat.ne_of_lt (blk_lt (g := gb390) (o := .cells #[.bool t386, .string t387, .int .i64 t388] 26 (0, 0)) (by refine blk_up ?_; exact BK390.out)) : gb390 ≠ gb398)); have n9_ := Aside0.mk ((by rw [hg]; exact Nat.ne_of_gt (blk_lt (g := gb390) (o := .cells #[.bool t386, .string t387, .int .i64 t388] 26 (0, 0)) (by refine blk_up ?_; exact BK390.out)) : gb398 ≠ gb390)); clear BK389; clear BK390; clear HB; have BK389 := n0_; have BK390 := n1_; have HB := n2_; have BK398 := n3_; have GW398 := n4_; have GE398 := n5_; have NB389_398 := n6_; have NB398_389 := n7_; have NB390_398 := n8_; have NB398_390 := n9_; clear n0_ n1_ n2_ n3_ n4_ n5_ n6_ n7_ n8_ n9_; clear hb hbox hg; have hnb91 := NB398_389.out; have hnc91 := NB389_398.out; have hnb92 := NB398_390.out; have hnc92 := NB390_398.out; have hcz93_0 : w90.cell? ⟨gb398, 0, none⟩ = some (.bool false) := (blk_cell BK398.out 0).trans rfl; have hcz93_1 : w90.cell? ⟨gb398, 1, none⟩ = some (.string (⟨#[]⟩ : ByteArray)) := (blk_cell BK398.out 1).trans rfl; have hcz93_2 : w90.cell? ⟨gb398, 2, none⟩ = some (.int .i64 0) := (blk_cell BK398.out 2).trans rfl; have hfz93_0 := blk_frozen BK398.out 0; have hfz93_1 := blk_frozen BK398.out 1; have hfz93_2 := blk_frozen BK398.out 2; have hcz94_0 : w90.cell? ⟨gb390, 0, none⟩ = some (.bool t386) := (blk_cell BK390.out 0).trans rfl; have hcz94_1 : w90.cell? ⟨gb390, 1, none⟩ = some (.string t387) := (blk_cell BK390.out 1).trans rfl; have hcz94_2 : w90.cell? ⟨gb390, 2, none⟩ = some (.int .i64 t388) := (blk_cell BK390.out 2).trans rfl; have hfz94_0 := blk_frozen BK390.out 0; have hfz94_1 := blk_frozen BK390.out 1; have hfz94_2 := blk_frozen BK390.out 2; have hcz95_0 : w90.cell? ⟨gb389, 0, none⟩ = some (.bool t383) := (blk_cell BK389.out 0).trans rfl; have hcz95_1 : w90.cell? ⟨gb389, 1, none⟩ = some (.string t384) := (blk_cell BK389.out 1).trans rfl; have hcz95_2 : w90.cell? ⟨gb389, 2, none⟩ = some (.int .i64 t385) := (blk_cell BK389.out 2).trans rfl; have hfz95_0 := blk_frozen BK389.out 0; have hfz95_1 := blk_frozen BK389.out 1; have hfz95_2 := blk_frozen BK389.out 2) | ((with_reducible refine gate_callee (f := 14) rfl ?_); refine goesL_ (some 60) rfl rfl Tryd.func14 (by kernel_rfl) rfl #[.agg #[.bool t386, .string t387, .int .i64 t388], .agg #[.bool t383, .string t384, .int .i64 t385]] rfl (by (try simp only [List.map_toArray, List.map_cons, List.map_nil]); first | done | rfl | (simp only [List.length_drop, List.length_take]; rfl)) ?_; (with_reducible refine (impl_CompareDec.calls kj5 t386 t387 t388 t383 t384 t385 t400 _ A83.out).mono ?_); rintro e w96 ⟨rfl, hb⟩; refine ⟨_, rfl, ?_⟩; have n0_ := Aside0.mk (blk_below (g := gb389) (o := .cells #[.bool t383, .string t384, .int .i64 t385] 26 (0, 0)) (by refine blk_up ?_; refine blk_far ?_ NB389_398.out _; refine blk_up ?_; refine blk_far ?_ NB389_398.out _; refine blk_up ?_; refine blk_far ?_ NB389_398.out _; refine blk_up ?_; exact BK389.out) hb); have n1_ := Aside0.mk (blk_below (g := gb390) (o := .cells #[.bool t386, .string t387, .int .i64 t388] 26 (0, 0)) (by refine blk_up ?_; refine blk_far ?_ NB390_398.out _; refine blk_up ?_; refine blk_far ?_ NB390_398.out _; refine blk_up ?_; refine blk_far ?_ NB390_398.out _; refine blk_up ?_; exact BK390.out) hb); have n2_ := Aside0.mk (blk_below (g := gb398) (o := .cells #[.bool t394, .string t395, .int .i64 t396] 26 (0, 0)) (by refine blk_up ?_; refine blk_put (cs := #[.bool t394, .string t395, .int .i64 0]) ?_ 2 _ rfl; refine blk_up ?_; refine blk_put (cs := #[.bool t394, .string (⟨#[]⟩ : ByteArray), .int .i64 0]) ?_ 1 _ rfl; refine blk_up ?_; refine blk_put (cs := #[.bool false, .string (⟨#[]⟩ : ByteArray), .int .i64 0]) ?_ 0 _ rfl; refine blk_up ?_; exact BK398.out) hb); have n3_ := Aside0.mk (below_step (by repeat (first | (with_reducible first | exact HB.out | apply below_alloc | apply pw_below_drewN | apply below_drew1 | refine below_set ?_ GE389.out | refine below_set ?_ GE390.out | refine below_set ?_ GE398.out) | exact HB.out)) hb); clear BK389; clear BK390; clear BK398; clear HB; have BK389 := n0_; have BK390 := n1_; have BK398 := n2_; have HB := n3_; clear n0_ n1_ n2_ n3_; (try clear hb); (try clear hb2); (try clear hk); (try clear hi); have hcz97_0 : w96.cell? ⟨gb389, 0, none⟩ = some (.bool t383) := (blk_cell BK389.out 0).trans rfl; have hcz97_1 : w96.cell? ⟨gb389, 1, none⟩ = some (.string t384) := (blk_cell BK389.out 1).trans rfl; have hcz97_2 : w96.cell? ⟨gb389, 2, none⟩ = some (.int .i64 t385) := (blk_cell BK389.out 2).trans rfl; have hfz97_0 := blk_frozen BK389.out 0; have hfz97_1 := blk_frozen BK389.out 1; have hfz97_2 := blk_frozen BK389.out 2; have hcz98_0 : w96.cell? ⟨gb390, 0, none⟩ = some (.bool t386) := (blk_cell BK390.out 0).trans rfl; have hcz98_1 : w96.cell? ⟨gb390, 1, none⟩ = some (.string t387) := (blk_cell BK390.out 1).trans rfl; have hcz98_2 : w96.cell? ⟨gb390, 2, none⟩ = some (.int .i64 t388) := (blk_cell BK390.out 2).trans rfl; have hfz98_0 := blk_frozen BK390.out 0; have hfz98_1 := blk_frozen BK390.out 1; have hfz98_2 := blk_frozen BK390.out 2))
                  go_ret
                  exact ⟨by first | rfl | (simp [errW_none, errW_some] <;> rfl) | (simp [*, errW_none, errW_some] <;> rfl), by repeat (first | (with_reducible first | exact HB.out | apply below_alloc | apply pw_below_drewN | apply below_drew1 | refine below_set ?_ GE389.out | refine below_set ?_ GE390.out | refine below_set ?_ GE398.out) | exact HB.out)⟩
                · rw [if_neg c85] at H
                  have c85b0 : ((t391 == 0) == (t383 == t386 && (t384.toList == t387.toList && (t385 == t388)))) = false := by simpa using c85
                  (try (have c85b1 : decide ((t391 == 0) = (t383 == t386 && (t384.toList == t387.toList && (t385 == t388)))) = false := by simpa using c85))
                  (try (have c85b2 : ((t391 == 0) == (t383 == t386 && (t384.toList == t387.toList && (t385 == t388)))) = false := by simpa using c85))
                  (try (have c85b3 : ¬ ((t391 == 0) = (t383 == t386 && (t384.toList == t387.toList && (t385 == t388)))) := by simpa using c85))
                  clear c85
                  obtain rfl := Option.some.inj H
                  have hnb99 := NB389_390.out
                  have hnc99 := NB390_389.out
                  have hcz100_0 : wc.cell? ⟨gb389, 0, none⟩ = some (.bool t383) := (blk_cell BK389.out 0).trans rfl
                  have hcz100_1 : wc.cell? ⟨gb389, 1, none⟩ = some (.string t384) := (blk_cell BK389.out 1).trans rfl
                  have hcz100_2 : wc.cell? ⟨gb389, 2, none⟩ = some (.int .i64 t385) := (blk_cell BK389.out 2).trans rfl
                  have hfz100_0 := blk_frozen BK389.out 0
                  have hfz100_1 := blk_frozen BK389.out 1
                  have hfz100_2 := blk_frozen BK389.out 2
                  have hcz101_0 : wc.cell? ⟨gb390, 0, none⟩ = some (.bool t386) := (blk_cell BK390.out 0).trans rfl
                  have hcz101_1 : wc.cell? ⟨gb390, 1, none⟩ = some (.string t387) := (blk_cell BK390.out 1).trans rfl
                  have hcz101_2 : wc.cell? ⟨gb390, 2, none⟩ = some (.int .i64 t388) := (blk_cell BK390.out 2).trans rfl
                  have hfz101_0 := blk_frozen BK390.out 0
                  have hfz101_1 := blk_frozen BK390.out 1
                  have hfz101_2 := blk_frozen BK390.out 2
                  go_wp2_with (first | ((with_reducible refine gate_callee (f := 20) rfl ?_); refine goesL_ (some 47) rfl rfl Tryd.func20 (by kernel_rfl) rfl #[.agg #[.bool t383, .string t384, .int .i64 t385], .agg #[.bool false, .string t387, .int .i64 t388]] rfl (by (try simp only [List.map_toArray, List.map_cons, List.map_nil]); first | done | rfl | (simp only [List.length_drop, List.length_take]; rfl)) ?_; (with_reducible refine (impl_AddDec.calls kj5 t383 t384 t385 false t387 t388 t394 t395 t396 false _ A31.out).mono ?_); rintro e w102 ⟨rfl, hb⟩; refine ⟨_, rfl, ?_⟩; have n0_ := Aside0.mk (blk_below (g := gb389) (o := .cells #[.bool t383, .string t384, .int .i64 t385] 26 (0, 0)) (by refine blk_up ?_; exact BK389.out) hb); have n1_ := Aside0.mk (blk_below (g := gb390) (o := .cells #[.bool t386, .string t387, .int .i64 t388] 26 (0, 0)) (by refine blk_up ?_; exact BK390.out) hb); have n2_ := Aside0.mk (below_step (by repeat (first | (with_reducible first | exact HB.out | apply below_alloc | apply pw_below_drewN | apply below_drew1 | refine below_set ?_ GE389.out | refine below_set ?_ GE390.out) | exact HB.out)) hb); clear BK389; clear BK390; clear HB; have BK389 := n0_; have BK390 := n1_; have HB := n2_; clear n0_ n1_ n2_; (try clear hb); (try clear hb2); (try clear hk); (try clear hi)) | ((with_reducible refine gate_dst (N := 6) rfl ?_); refine box_event ?hg (N := 6) ?hd (cs := #[.bool false, .string (⟨#[]⟩ : ByteArray), .int .i64 0]) (t := 26) ?hr ?_; (case hd => rfl); (case hg => rfl); (case hr => first | (go_simp; done) | (go_simp; rfl)); intro gb398 hg w103 hbox hb; have n0_ := Aside0.mk (blk_below (g := gb389) (o := .cells #[.bool t383, .string t384, .int .i64 t385] 26 (0, 0)) (by refine blk_up ?_; exact BK389.out) hb); have n1_ := Aside0.mk (blk_below (g := gb390) (o := .cells #[.bool t386, .string t387, .int .i64 t388] 26 (0, 0)) (by refine blk_up ?_; exact BK390.out) hb); have n2_ := Aside0.mk (below_step (by repeat (first | (with_reducible first | exact HB.out | apply below_alloc | apply pw_below_drewN | apply below_drew1 | refine below_set ?_ GE389.out | refine below_set ?_ GE390.out) | exact HB.out)) hb); have n3_ := Aside0.mk (hbox); have n4_ := Aside0.mk ((by rw [hg]; exact (below_size (by repeat (first | (with_reducible first | exact HB.out | apply below_alloc | apply pw_below_drewN | apply below_drew1 | refine below_set ?_ GE389.out | refine below_set ?_ GE390.out) | exact HB.out))) : w.heap.size ≤ gb398)); have n5_ := Aside0.mk ((by rw [hg]; exact (below_size (by repeat (first | (with_reducible first | exact HB.out | apply below_alloc | apply pw_below_drewN | apply below_drew1 | refine below_set ?_ GE389.out | refine below_set ?_ GE390.out) | exact HB.out))) : w.heap.size ≤ gb398)); have n6_ := Aside0.mk ((by rw [hg]; exact Nat.ne_of_lt (blk_lt (g := gb389) (o := .cells #[.bool t383, .string t384, .int .i64 t385] 26 (0, 0)) (by refine blk_up ?_; exact BK389.out)) : gb389 ≠ gb398)); have n7_ := Aside0.mk ((by rw [hg]; exact Nat.ne_of_gt (blk_lt (g := gb389) (o := .cells #[.bool t383, .string t384, .int .i64 t385] 26 (0, 0)) (by refine blk_up ?_; exact BK389.out)) : gb398 ≠ gb389)); have n8_ := Aside0.mk ((by rw [hg]; exact Nat.ne_of_lt (blk_lt (g := gb390) (o := .cells #[.bool t386, .string t387, .int .i64 t388] 26 (0, 0)) (by refine blk_up ?_; exact BK390.out)) : gb390 ≠ gb398)); have n9_ := Aside0.mk ((by rw [hg]; exact Nat.ne_of_gt (blk_lt (g := gb390) (o := .cells #[.bool t386, .string t387, .int .i64 t388] 26 (0, 0)) (by refine blk_up ?_; exact BK390.out)) : gb398 ≠ gb390)); clear BK389; clear BK390; clear HB; have BK389 := n0_; have BK390 := n1_; have HB := n2_; have BK398 := n3_; have GW398 := n4_; have GE398 := n5_; have NB389_398 := n6_; have NB398_389 := n7_; have NB390_398 := n8_; have NB398_390 := n9_; clear n0_ n1_ n2_ n3_ n4_ n5_ n6_ n7_ n8_ n9_; clear hb hbox hg; have hnb104 := NB398_389.out; have hnc104 := NB389_398.out; have hnb105 := NB398_390.out; have hnc105 := NB390_398.out; have hcz106_0 : w103.cell? ⟨gb398, 0, none⟩ = some (.bool false) := (blk_cell BK398.out 0).trans rfl; have hcz106_1 : w103.cell? ⟨gb398, 1, none⟩ = some (.string (⟨#[]⟩ : ByteArray)) := (blk_cell BK398.out 1).trans rfl; have hcz106_2 : w103.cell? ⟨gb398, 2, none⟩ = some (.int .i64 0) := (blk_cell BK398.out 2).trans rfl; have hfz106_0 := blk_frozen BK398.out 0; have hfz106_1 := blk_frozen BK398.out 1; have hfz106_2 := blk_frozen BK398.out 2; have hcz107_0 : w103.cell? ⟨gb390, 0, none⟩ = some (.bool t386) := (blk_cell BK390.out 0).trans rfl; have hcz107_1 : w103.cell? ⟨gb390, 1, none⟩ = some (.string t387) := (blk_cell BK390.out 1).trans rfl; have hcz107_2 : w103.cell? ⟨gb390, 2, none⟩ = some (.int .i64 t388) := (blk_cell BK390.out 2).trans rfl; have hfz107_0 := blk_frozen BK390.out 0; have hfz107_1 := blk_frozen BK390.out 1; have hfz107_2 := blk_frozen BK390.out 2; have hcz108_0 : w103.cell? ⟨gb389, 0, none⟩ = some (.bool t383) := (blk_cell BK389.out 0).trans rfl; have hcz108_1 : w103.cell? ⟨gb389, 1, none⟩ = some (.string t384) := (blk_cell BK389.out 1).trans rfl; have hcz108_2 : w103.cell? ⟨gb389, 2, none⟩ = some (.int .i64 t385) := (blk_cell BK389.out 2).trans rfl; have hfz108_0 := blk_frozen BK389.out 0; have hfz108_1 := blk_frozen BK389.out 1; have hfz108_2 := blk_frozen BK389.out 2) | ((with_reducible refine gate_callee (f := 14) rfl ?_); refine goesL_ (some 60) rfl rfl Tryd.func14 (by kernel_rfl) rfl #[.agg #[.bool t386, .string t387, .int .i64 t388], .agg #[.bool t383, .string t384, .int .i64 t385]] rfl (by (try simp only [List.map_toArray, List.map_cons, List.map_nil]); first | done | rfl | (simp only [List.length_drop, List.length_take]; rfl)) ?_; (with_reducible refine (impl_CompareDec.calls kj5 t386 t387 t388 t383 t384 t385 t400 _ A83.out).mono ?_); rintro e w109 ⟨rfl, hb⟩; refine ⟨_, rfl, ?_⟩; have n0_ := Aside0.mk (blk_below (g := gb389) (o := .cells #[.bool t383, .string t384, .int .i64 t385] 26 (0, 0)) (by refine blk_up ?_; refine blk_far ?_ NB389_398.out _; refine blk_up ?_; refine blk_far ?_ NB389_398.out _; refine blk_up ?_; refine blk_far ?_ NB389_398.out _; refine blk_up ?_; exact BK389.out) hb); have n1_ := Aside0.mk (blk_below (g := gb390) (o := .cells #[.bool t386, .string t387, .int .i64 t388] 26 (0, 0)) (by refine blk_up ?_; refine blk_far ?_ NB390_398.out _; refine blk_up ?_; refine blk_far ?_ NB390_398.out _; refine blk_up ?_; refine blk_far ?_ NB390_398.out _; refine blk_up ?_; exact BK390.out) hb); have n2_ := Aside0.mk (blk_below (g := gb398) (o := .cells #[.bool t394, .string t395, .int .i64 t396] 26 (0, 0)) (by refine blk_up ?_; refine blk_put (cs := #[.bool t394, .string t395, .int .i64 0]) ?_ 2 _ rfl; refine blk_up ?_; refine blk_put (cs := #[.bool t394, .string (⟨#[]⟩ : ByteArray), .int .i64 0]) ?_ 1 _ rfl; refine blk_up ?_; refine blk_put (cs := #[.bool false, .string (⟨#[]⟩ : ByteArray), .int .i64 0]) ?_ 0 _ rfl; refine blk_up ?_; exact BK398.out) hb); have n3_ := Aside0.mk (below_step (by repeat (first | (with_reducible first | exact HB.out | apply below_alloc | apply pw_below_drewN | apply below_drew1 | refine below_set ?_ GE389.out | refine below_set ?_ GE390.out | refine below_set ?_ GE398.out) | exact HB.out)) hb); clear BK389; clear BK390; clear BK398; clear HB; have BK389 := n0_; have BK390 := n1_; have BK398 := n2_; have HB := n3_; clear n0_ n1_ n2_ n3_; (try clear hb); (try clear hb2); (try clear hk); (try clear hi); have hcz110_0 : w109.cell? ⟨gb389, 0, none⟩ = some (.bool t383) := (blk_cell BK389.out 0).trans rfl; have hcz110_1 : w109.cell? ⟨gb389, 1, none⟩ = some (.string t384) := (blk_cell BK389.out 1).trans rfl; have hcz110_2 : w109.cell? ⟨gb389, 2, none⟩ = some (.int .i64 t385) := (blk_cell BK389.out 2).trans rfl; have hfz110_0 := blk_frozen BK389.out 0; have hfz110_1 := blk_frozen BK389.out 1; have hfz110_2 := blk_frozen BK389.out 2; have hcz111_0 : w109.cell? ⟨gb390, 0, none⟩ = some (.bool t386) := (blk_cell BK390.out 0).trans rfl; have hcz111_1 : w109.cell? ⟨gb390, 1, none⟩ = some (.string t387) := (blk_cell BK390.out 1).trans rfl; have hcz111_2 : w109.cell? ⟨gb390, 2, none⟩ = some (.int .i64 t388) := (blk_cell BK390.out 2).trans rfl; have hfz111_0 := blk_frozen BK390.out 0; have hfz111_1 := blk_frozen BK390.out 1; have hfz111_2 := blk_frozen BK390.out 2))
                  go_ret
                  exact ⟨by first | rfl | (simp [errW_none, errW_some] <;> rfl) | (simp [*, errW_none, errW_some] <;> rfl), by repeat (first | (with_reducible first | exact HB.out | apply below_alloc | apply pw_below_drewN | apply below_drew1 | refine below_set ?_ GE389.out | refine below_set ?_ GE390.out | refine below_set ?_ GE398.out) | exact HB.out)⟩
              · rw [if_neg c84] at H
                have c84b0 : (t400 == (wrap64 (-t391))) = false := beq_eq_false_iff_ne.mpr c84
                have c84b1 : (t400 != (wrap64 (-t391))) = true := bne_iff_ne.mpr c84
                obtain rfl := Option.some.inj H
                have hnb112 := NB389_390.out
                have hnc112 := NB390_389.out
                have hcz113_0 : wc.cell? ⟨gb389, 0, none⟩ = some (.bool t383) := (blk_cell BK389.out 0).trans rfl
                have hcz113_1 : wc.cell? ⟨gb389, 1, none⟩ = some (.string t384) := (blk_cell BK389.out 1).trans rfl
                have hcz113_2 : wc.cell? ⟨gb389, 2, none⟩ = some (.int .i64 t385) := (blk_cell BK389.out 2).trans rfl
                have hfz113_0 := blk_frozen BK389.out 0
                have hfz113_1 := blk_frozen BK389.out 1
                have hfz113_2 := blk_frozen BK389.out 2
                have hcz114_0 : wc.cell? ⟨gb390, 0, none⟩ = some (.bool t386) := (blk_cell BK390.out 0).trans rfl
                have hcz114_1 : wc.cell? ⟨gb390, 1, none⟩ = some (.string t387) := (blk_cell BK390.out 1).trans rfl
                have hcz114_2 : wc.cell? ⟨gb390, 2, none⟩ = some (.int .i64 t388) := (blk_cell BK390.out 2).trans rfl
                have hfz114_0 := blk_frozen BK390.out 0
                have hfz114_1 := blk_frozen BK390.out 1
                have hfz114_2 := blk_frozen BK390.out 2
                go_wp2_with (first | ((with_reducible refine gate_callee (f := 20) rfl ?_); refine goesL_ (some 47) rfl rfl Tryd.func20 (by kernel_rfl) rfl #[.agg #[.bool t383, .string t384, .int .i64 t385], .agg #[.bool false, .string t387, .int .i64 t388]] rfl (by (try simp only [List.map_toArray, List.map_cons, List.map_nil]); first | done | rfl | (simp only [List.length_drop, List.length_take]; rfl)) ?_; (with_reducible refine (impl_AddDec.calls kj5 t383 t384 t385 false t387 t388 t394 t395 t396 false _ A31.out).mono ?_); rintro e w115 ⟨rfl, hb⟩; refine ⟨_, rfl, ?_⟩; have n0_ := Aside0.mk (blk_below (g := gb389) (o := .cells #[.bool t383, .string t384, .int .i64 t385] 26 (0, 0)) (by refine blk_up ?_; exact BK389.out) hb); have n1_ := Aside0.mk (blk_below (g := gb390) (o := .cells #[.bool t386, .string t387, .int .i64 t388] 26 (0, 0)) (by refine blk_up ?_; exact BK390.out) hb); have n2_ := Aside0.mk (below_step (by repeat (first | (with_reducible first | exact HB.out | apply below_alloc | apply pw_below_drewN | apply below_drew1 | refine below_set ?_ GE389.out | refine below_set ?_ GE390.out) | exact HB.out)) hb); clear BK389; clear BK390; clear HB; have BK389 := n0_; have BK390 := n1_; have HB := n2_; clear n0_ n1_ n2_; (try clear hb); (try clear hb2); (try clear hk); (try clear hi)) | ((with_reducible refine gate_dst (N := 6) rfl ?_); refine box_event ?hg (N := 6) ?hd (cs := #[.bool false, .string (⟨#[]⟩ : ByteArray), .int .i64 0]) (t := 26) ?hr ?_; (case hd => rfl); (case hg => rfl); (case hr => first | (go_simp; done) | (go_simp; rfl)); intro gb398 hg w116 hbox hb; have n0_ := Aside0.mk (blk_below (g := gb389) (o := .cells #[.bool t383, .string t384, .int .i64 t385] 26 (0, 0)) (by refine blk_up ?_; exact BK389.out) hb); have n1_ := Aside0.mk (blk_below (g := gb390) (o := .cells #[.bool t386, .string t387, .int .i64 t388] 26 (0, 0)) (by refine blk_up ?_; exact BK390.out) hb); have n2_ := Aside0.mk (below_step (by repeat (first | (with_reducible first | exact HB.out | apply below_alloc | apply pw_below_drewN | apply below_drew1 | refine below_set ?_ GE389.out | refine below_set ?_ GE390.out) | exact HB.out)) hb); have n3_ := Aside0.mk (hbox); have n4_ := Aside0.mk ((by rw [hg]; exact (below_size (by repeat (first | (with_reducible first | exact HB.out | apply below_alloc | apply pw_below_drewN | apply below_drew1 | refine below_set ?_ GE389.out | refine below_set ?_ GE390.out) | exact HB.out))) : w.heap.size ≤ gb398)); have n5_ := Aside0.mk ((by rw [hg]; exact (below_size (by repeat (first | (with_reducible first | exact HB.out | apply below_alloc | apply pw_below_drewN | apply below_drew1 | refine below_set ?_ GE389.out | refine below_set ?_ GE390.out) | exact HB.out))) : w.heap.size ≤ gb398)); have n6_ := Aside0.mk ((by rw [hg]; exact Nat.ne_of_lt (blk_lt (g := gb389) (o := .cells #[.bool t383, .string t384, .int .i64 t385] 26 (0, 0)) (by refine blk_up ?_; exact BK389.out)) : gb389 ≠ gb398)); have n7_ := Aside0.mk ((by rw [hg]; exact Nat.ne_of_gt (blk_lt (g := gb389) (o := .cells #[.bool t383, .string t384, .int .i64 t385] 26 (0, 0)) (by refine blk_up ?_; exact BK389.out)) : gb398 ≠ gb389)); have n8_ := Aside0.mk ((by rw [hg]; exact Nat.ne_of_lt (blk_lt (g := gb390) (o := .cells #[.bool t386, .string t387, .int .i64 t388] 26 (0, 0)) (by refine blk_up ?_; exact BK390.out)) : gb390 ≠ gb398)); have n9_ := Aside0.mk ((by rw [hg]; exact Nat.ne_of_gt (blk_lt (g := gb390) (o := .cells #[.bool t386, .string t387, .int .i64 t388] 26 (0, 0)) (by refine blk_up ?_; exact BK390.out)) : gb398 ≠ gb390)); clear BK389; clear BK390; clear HB; have BK389 := n0_; have BK390 := n1_; have HB := n2_; have BK398 := n3_; have GW398 := n4_; have GE398 := n5_; have NB389_398 := n6_; have NB398_389 := n7_; have NB390_398 := n8_; have NB398_390 := n9_; clear n0_ n1_ n2_ n3_ n4_ n5_ n6_ n7_ n8_ n9_; clear hb hbox hg; have hnb117 := NB398_389.out; have hnc117 := NB389_398.out; have hnb118 := NB398_390.out; have hnc118 := NB390_398.out; have hcz119_0 : w116.cell? ⟨gb398, 0, none⟩ = some (.bool false) := (blk_cell BK398.out 0).trans rfl; have hcz119_1 : w116.cell? ⟨gb398, 1, none⟩ = some (.string (⟨#[]⟩ : ByteArray)) := (blk_cell BK398.out 1).trans rfl; have hcz119_2 : w116.cell? ⟨gb398, 2, none⟩ = some (.int .i64 0) := (blk_cell BK398.out 2).trans rfl; have hfz119_0 := blk_frozen BK398.out 0; have hfz119_1 := blk_frozen BK398.out 1; have hfz119_2 := blk_frozen BK398.out 2; have hcz120_0 : w116.cell? ⟨gb390, 0, none⟩ = some (.bool t386) := (blk_cell BK390.out 0).trans rfl; have hcz120_1 : w116.cell? ⟨gb390, 1, none⟩ = some (.string t387) := (blk_cell BK390.out 1).trans rfl; have hcz120_2 : w116.cell? ⟨gb390, 2, none⟩ = some (.int .i64 t388) := (blk_cell BK390.out 2).trans rfl; have hfz120_0 := blk_frozen BK390.out 0; have hfz120_1 := blk_frozen BK390.out 1; have hfz120_2 := blk_frozen BK390.out 2; have hcz121_0 : w116.cell? ⟨gb389, 0, none⟩ = some (.bool t383) := (blk_cell BK389.out 0).trans rfl; have hcz121_1 : w116.cell? ⟨gb389, 1, none⟩ = some (.string t384) := (blk_cell BK389.out 1).trans rfl; have hcz121_2 : w116.cell? ⟨gb389, 2, none⟩ = some (.int .i64 t385) := (blk_cell BK389.out 2).trans rfl; have hfz121_0 := blk_frozen BK389.out 0; have hfz121_1 := blk_frozen BK389.out 1; have hfz121_2 := blk_frozen BK389.out 2) | ((with_reducible refine gate_callee (f := 14) rfl ?_); refine goesL_ (some 60) rfl rfl Tryd.func14 (by kernel_rfl) rfl #[.agg #[.bool t386, .string t387, .int .i64 t388], .agg #[.bool t383, .string t384, .int .i64 t385]] rfl (by (try simp only [List.map_toArray, List.map_cons, List.map_nil]); first | done | rfl | (simp only [List.length_drop, List.length_take]; rfl)) ?_; (with_reducible refine (impl_CompareDec.calls kj5 t386 t387 t388 t383 t384 t385 t400 _ A83.out).mono ?_); rintro e w122 ⟨rfl, hb⟩; refine ⟨_, rfl, ?_⟩; have n0_ := Aside0.mk (blk_below (g := gb389) (o := .cells #[.bool t383, .string t384, .int .i64 t385] 26 (0, 0)) (by refine blk_up ?_; refine blk_far ?_ NB389_398.out _; refine blk_up ?_; refine blk_far ?_ NB389_398.out _; refine blk_up ?_; refine blk_far ?_ NB389_398.out _; refine blk_up ?_; exact BK389.out) hb); have n1_ := Aside0.mk (blk_below (g := gb390) (o := .cells #[.bool t386, .string t387, .int .i64 t388] 26 (0, 0)) (by refine blk_up ?_; refine blk_far ?_ NB390_398.out _; refine blk_up ?_; refine blk_far ?_ NB390_398.out _; refine blk_up ?_; refine blk_far ?_ NB390_398.out _; refine blk_up ?_; exact BK390.out) hb); have n2_ := Aside0.mk (blk_below (g := gb398) (o := .cells #[.bool t394, .string t395, .int .i64 t396] 26 (0, 0)) (by refine blk_up ?_; refine blk_put (cs := #[.bool t394, .string t395, .int .i64 0]) ?_ 2 _ rfl; refine blk_up ?_; refine blk_put (cs := #[.bool t394, .string (⟨#[]⟩ : ByteArray), .int .i64 0]) ?_ 1 _ rfl; refine blk_up ?_; refine blk_put (cs := #[.bool false, .string (⟨#[]⟩ : ByteArray), .int .i64 0]) ?_ 0 _ rfl; refine blk_up ?_; exact BK398.out) hb); have n3_ := Aside0.mk (below_step (by repeat (first | (with_reducible first | exact HB.out | apply below_alloc | apply pw_below_drewN | apply below_drew1 | refine below_set ?_ GE389.out | refine below_set ?_ GE390.out | refine below_set ?_ GE398.out) | exact HB.out)) hb); clear BK389; clear BK390; clear BK398; clear HB; have BK389 := n0_; have BK390 := n1_; have BK398 := n2_; have HB := n3_; clear n0_ n1_ n2_ n3_; (try clear hb); (try clear hb2); (try clear hk); (try clear hi)))
                go_ret
                exact ⟨by first | rfl | (simp [errW_none, errW_some] <;> rfl) | (simp [*, errW_none, errW_some] <;> rfl), by repeat (first | (with_reducible first | exact HB.out | apply below_alloc | apply pw_below_drewN | apply below_drew1 | refine below_set ?_ GE389.out | refine below_set ?_ GE390.out | refine below_set ?_ GE398.out) | exact HB.out)⟩
          · rw [if_neg c30] at H
            have c30b0 : (t387.toList == ([] : List UInt8)) = false := beq_eq_false_iff_ne.mpr c30
            have c30b1 : (t387.toList != ([] : List UInt8)) = true := bne_iff_ne.mpr c30
            replace H := Option.bind_eq_some_iff.mp H
            obtain ⟨⟨t401, t402, t403, t404⟩, A1230, H⟩ := H
            replace H : (if t404 = true then (if ((decide (t391 < 0)) != t401) = true then (some false) else ((impl_CompareDec.f kj5 t386 t387 t388 t383 t384 t385).bind fun t406 => (if t406 = (wrap64 (-t391)) then (if ((t391 == 0) == (t383 == t386 && (t384.toList == t387.toList && (t385 == t388)))) = true then (some ((t391 == 0) == (t402.toList == ([] : List UInt8)))) else (some false)) else (some false)))) else ((impl_CompareDec.f kj5 t386 t387 t388 t383 t384 t385).bind fun t407 => (if t407 = (wrap64 (-t391)) then (if ((t391 == 0) == (t383 == t386 && (t384.toList == t387.toList && (t385 == t388)))) = true then (some true) else (some false)) else (some false)))) = some r := H
            have A123 := Aside0.mk A1230
            clear A1230
            by_cases c124 : t404 = true
            · subst c124
              have H1 : (if ((decide (t391 < 0)) != t401) = true then (some false) else ((impl_CompareDec.f kj5 t386 t387 t388 t383 t384 t385).bind fun t406 => (if t406 = (wrap64 (-t391)) then (if ((t391 == 0) == (t383 == t386 && (t384.toList == t387.toList && (t385 == t388)))) = true then (some ((t391 == 0) == (t402.toList == ([] : List UInt8)))) else (some false)) else (some false)))) = some r := by rw [if_pos rfl] at H; exact H
              clear H
              have H := H1
              clear H1
              by_cases c125 : ((decide (t391 < 0)) != t401) = true
              · rw [if_pos c125] at H
                have c125b0 : ((decide (t391 < 0)) != t401) = true := c125
                (try (have c125b1 : decide ((decide (t391 < 0)) = t401) = false := by simpa using c125))
                (try (have c125b2 : ((decide (t391 < 0)) == t401) = false := by simpa using c125))
                (try (have c125b3 : ¬ ((decide (t391 < 0)) = t401) := by simpa using c125))
                clear c125
                obtain rfl := Option.some.inj H
                have hnb126 := NB389_390.out
                have hnc126 := NB390_389.out
                have hcz127_0 : wc.cell? ⟨gb389, 0, none⟩ = some (.bool t383) := (blk_cell BK389.out 0).trans rfl
                have hcz127_1 : wc.cell? ⟨gb389, 1, none⟩ = some (.string t384) := (blk_cell BK389.out 1).trans rfl
                have hcz127_2 : wc.cell? ⟨gb389, 2, none⟩ = some (.int .i64 t385) := (blk_cell BK389.out 2).trans rfl
                have hfz127_0 := blk_frozen BK389.out 0
                have hfz127_1 := blk_frozen BK389.out 1
                have hfz127_2 := blk_frozen BK389.out 2
                have hcz128_0 : wc.cell? ⟨gb390, 0, none⟩ = some (.bool t386) := (blk_cell BK390.out 0).trans rfl
                have hcz128_1 : wc.cell? ⟨gb390, 1, none⟩ = some (.string t387) := (blk_cell BK390.out 1).trans rfl
                have hcz128_2 : wc.cell? ⟨gb390, 2, none⟩ = some (.int .i64 t388) := (blk_cell BK390.out 2).trans rfl
                have hfz128_0 := blk_frozen BK390.out 0
                have hfz128_1 := blk_frozen BK390.out 1
                have hfz128_2 := blk_frozen BK390.out 2
                go_wp2_with (first | ((with_reducible refine gate_callee (f := 20) rfl ?_); refine goesL_ (some 47) rfl rfl Tryd.func20 (by kernel_rfl) rfl #[.agg #[.bool t383, .string t384, .int .i64 t385], .agg #[.bool (!t386), .string t387, .int .i64 t388]] rfl (by (try simp only [List.map_toArray, List.map_cons, List.map_nil]); first | done | rfl | (simp only [List.length_drop, List.length_take]; rfl)) ?_; (with_reducible refine (impl_AddDec.calls kj5 t383 t384 t385 (!t386) t387 t388 t401 t402 t403 true _ A123.out).mono ?_); rintro e w129 ⟨rfl, hb⟩; refine ⟨_, rfl, ?_⟩; have n0_ := Aside0.mk (blk_below (g := gb389) (o := .cells #[.bool t383, .string t384, .int .i64 t385] 26 (0, 0)) (by refine blk_up ?_; exact BK389.out) hb); have n1_ := Aside0.mk (blk_below (g := gb390) (o := .cells #[.bool t386, .string t387, .int .i64 t388] 26 (0, 0)) (by refine blk_up ?_; exact BK390.out) hb); have n2_ := Aside0.mk (below_step (by repeat (first | (with_reducible first | exact HB.out | apply below_alloc | apply pw_below_drewN | apply below_drew1 | refine below_set ?_ GE389.out | refine below_set ?_ GE390.out) | exact HB.out)) hb); clear BK389; clear BK390; clear HB; have BK389 := n0_; have BK390 := n1_; have HB := n2_; clear n0_ n1_ n2_; (try clear hb); (try clear hb2); (try clear hk); (try clear hi)) | ((with_reducible refine gate_dst (N := 6) rfl ?_); refine box_event ?hg (N := 6) ?hd (cs := #[.bool false, .string (⟨#[]⟩ : ByteArray), .int .i64 0]) (t := 26) ?hr ?_; (case hd => rfl); (case hg => rfl); (case hr => first | (go_simp; done) | (go_simp; rfl)); intro gb405 hg w130 hbox hb; have n0_ := Aside0.mk (blk_below (g := gb389) (o := .cells #[.bool t383, .string t384, .int .i64 t385] 26 (0, 0)) (by refine blk_up ?_; exact BK389.out) hb); have n1_ := Aside0.mk (blk_below (g := gb390) (o := .cells #[.bool t386, .string t387, .int .i64 t388] 26 (0, 0)) (by refine blk_up ?_; exact BK390.out) hb); have n2_ := Aside0.mk (below_step (by repeat (first | (with_reducible first | exact HB.out | apply below_alloc | apply pw_below_drewN | apply below_drew1 | refine below_set ?_ GE389.out | refine below_set ?_ GE390.out) | exact HB.out)) hb); have n3_ := Aside0.mk (hbox); have n4_ := Aside0.mk ((by rw [hg]; exact (below_size (by repeat (first | (with_reducible first | exact HB.out | apply below_alloc | apply pw_below_drewN | apply below_drew1 | refine below_set ?_ GE389.out | refine below_set ?_ GE390.out) | exact HB.out))) : w.heap.size ≤ gb405)); have n5_ := Aside0.mk ((by rw [hg]; exact (below_size (by repeat (first | (with_reducible first | exact HB.out | apply below_alloc | apply pw_below_drewN | apply below_drew1 | refine below_set ?_ GE389.out | refine below_set ?_ GE390.out) | exact HB.out))) : w.heap.size ≤ gb405)); have n6_ := Aside0.mk ((by rw [hg]; exact Nat.ne_of_lt (blk_lt (g := gb389) (o := .cells #[.bool t383, .string t384, .int .i64 t385] 26 (0, 0)) (by refine blk_up ?_; exact BK389.out)) : gb389 ≠ gb405)); have n7_ := Aside0.mk ((by rw [hg]; exact Nat.ne_of_gt (blk_lt (g := gb389) (o := .cells #[.bool t383, .string t384, .int .i64 t385] 26 (0, 0)) (by refine blk_up ?_; exact BK389.out)) : gb405 ≠ gb389)); have n8_ := Aside0.mk ((by rw [hg]; exact Nat.ne_of_lt (blk_lt (g := gb390) (o := .cells #[.bool t386, .string t387, .int .i64 t388] 26 (0, 0)) (by refine blk_up ?_; exact BK390.out)) : gb390 ≠ gb405)); have n9_ := Aside0.mk ((by rw [hg]; exact Nat.ne_of_gt (blk_lt (g := gb390) (o := .cells #[.bool t386, .string t387, .int .i64 t388] 26 (0, 0)) (by refine blk_up ?_; exact BK390.out)) : gb405 ≠ gb390)); clear BK389; clear BK390; clear HB; have BK389 := n0_; have BK390 := n1_; have HB := n2_; have BK405 := n3_; have GW405 := n4_; have GE405 := n5_; have NB389_405 := n6_; have NB405_389 := n7_; have NB390_405 := n8_; have NB405_390 := n9_; clear n0_ n1_ n2_ n3_ n4_ n5_ n6_ n7_ n8_ n9_; clear hb hbox hg; have hnb131 := NB405_389.out; have hnc131 := NB389_405.out; have hnb132 := NB405_390.out; have hnc132 := NB390_405.out; have hcz133_0 : w130.cell? ⟨gb405, 0, none⟩ = some (.bool false) := (blk_cell BK405.out 0).trans rfl; have hcz133_1 : w130.cell? ⟨gb405, 1, none⟩ = some (.string (⟨#[]⟩ : ByteArray)) := (blk_cell BK405.out 1).trans rfl; have hcz133_2 : w130.cell? ⟨gb405, 2, none⟩ = some (.int .i64 0) := (blk_cell BK405.out 2).trans rfl; have hfz133_0 := blk_frozen BK405.out 0; have hfz133_1 := blk_frozen BK405.out 1; have hfz133_2 := blk_frozen BK405.out 2))
                go_ret
                exact ⟨by first | rfl | (simp [errW_none, errW_some] <;> rfl) | (simp [*, errW_none, errW_some] <;> rfl), by repeat (first | (with_reducible first | exact HB.out | apply below_alloc | apply pw_below_drewN | apply below_drew1 | refine below_set ?_ GE389.out | refine below_set ?_ GE390.out | refine below_set ?_ GE405.out) | exact HB.out)⟩
              · rw [if_neg c125] at H
                have c125b0 : ((decide (t391 < 0)) != t401) = false := by simpa using c125
                (try (have c125b1 : decide ((decide (t391 < 0)) = t401) = true := by simpa using c125))
                (try (have c125b2 : ((decide (t391 < 0)) == t401) = true := by simpa using c125))
                clear c125
                replace H := Option.bind_eq_some_iff.mp H
                obtain ⟨t406, A1340, H⟩ := H
                replace H : (if t406 = (wrap64 (-t391)) then (if ((t391 == 0) == (t383 == t386 && (t384.toList == t387.toList && (t385 == t388)))) = true then (some ((t391 == 0) == (t402.toList == ([] : List UInt8)))) else (some false)) else (some false)) = some r := H
                have A134 := Aside0.mk A1340
                clear A1340
                by_cases c135 : t406 = (wrap64 (-t391))
                · rw [if_pos c135] at H
                  have c135b0 : (t406 == (wrap64 (-t391))) = true := beq_iff_eq.mpr c135
                  have c135b1 : (t406 != (wrap64 (-t391))) = false := bne_eq_false_iff_eq.mpr c135
                  clear c135
                  by_cases c136 : ((t391 == 0) == (t383 == t386 && (t384.toList == t387.toList && (t385 == t388)))) = true
                  · rw [if_pos c136] at H
                    have c136b0 : ((t391 == 0) == (t383 == t386 && (t384.toList == t387.toList && (t385 == t388)))) = true := c136
                    (try (have c136b1 : decide ((t391 == 0) = (t383 == t386 && (t384.toList == t387.toList && (t385 == t388)))) = true := by simpa using c136))
                    (try (have c136b2 : ((t391 == 0) == (t383 == t386 && (t384.toList == t387.toList && (t385 == t388)))) = true := by simpa using c136))
                    clear c136
                    obtain rfl := Option.some.inj H
                    have hnb137 := NB389_390.out
                    have hnc137 := NB390_389.out
                    have hcz138_0 : wc.cell? ⟨gb389, 0, none⟩ = some (.bool t383) := (blk_cell BK389.out 0).trans rfl
                    have hcz138_1 : wc.cell? ⟨gb389, 1, none⟩ = some (.string t384) := (blk_cell BK389.out 1).trans rfl
                    have hcz138_2 : wc.cell? ⟨gb389, 2, none⟩ = some (.int .i64 t385) := (blk_cell BK389.out 2).trans rfl
                    have hfz138_0 := blk_frozen BK389.out 0
                    have hfz138_1 := blk_frozen BK389.out 1
                    have hfz138_2 := blk_frozen BK389.out 2
                    have hcz139_0 : wc.cell? ⟨gb390, 0, none⟩ = some (.bool t386) := (blk_cell BK390.out 0).trans rfl
                    have hcz139_1 : wc.cell? ⟨gb390, 1, none⟩ = some (.string t387) := (blk_cell BK390.out 1).trans rfl
                    have hcz139_2 : wc.cell? ⟨gb390, 2, none⟩ = some (.int .i64 t388) := (blk_cell BK390.out 2).trans rfl
                    have hfz139_0 := blk_frozen BK390.out 0
                    have hfz139_1 := blk_frozen BK390.out 1
                    have hfz139_2 := blk_frozen BK390.out 2
                    go_wp2_with (first | ((with_reducible refine gate_callee (f := 20) rfl ?_); refine goesL_ (some 47) rfl rfl Tryd.func20 (by kernel_rfl) rfl #[.agg #[.bool t383, .string t384, .int .i64 t385], .agg #[.bool (!t386), .string t387, .int .i64 t388]] rfl (by (try simp only [List.map_toArray, List.map_cons, List.map_nil]); first | done | rfl | (simp only [List.length_drop, List.length_take]; rfl)) ?_; (with_reducible refine (impl_AddDec.calls kj5 t383 t384 t385 (!t386) t387 t388 t401 t402 t403 true _ A123.out).mono ?_); rintro e w140 ⟨rfl, hb⟩; refine ⟨_, rfl, ?_⟩; have n0_ := Aside0.mk (blk_below (g := gb389) (o := .cells #[.bool t383, .string t384, .int .i64 t385] 26 (0, 0)) (by refine blk_up ?_; exact BK389.out) hb); have n1_ := Aside0.mk (blk_below (g := gb390) (o := .cells #[.bool t386, .string t387, .int .i64 t388] 26 (0, 0)) (by refine blk_up ?_; exact BK390.out) hb); have n2_ := Aside0.mk (below_step (by repeat (first | (with_reducible first | exact HB.out | apply below_alloc | apply pw_below_drewN | apply below_drew1 | refine below_set ?_ GE389.out | refine below_set ?_ GE390.out) | exact HB.out)) hb); clear BK389; clear BK390; clear HB; have BK389 := n0_; have BK390 := n1_; have HB := n2_; clear n0_ n1_ n2_; (try clear hb); (try clear hb2); (try clear hk); (try clear hi)) | ((with_reducible refine gate_dst (N := 6) rfl ?_); refine box_event ?hg (N := 6) ?hd (cs := #[.bool false, .string (⟨#[]⟩ : ByteArray), .int .i64 0]) (t := 26) ?hr ?_; (case hd => rfl); (case hg => rfl); (case hr => first | (go_simp; done) | (go_simp; rfl)); intro gb405 hg w141 hbox hb; have n0_ := Aside0.mk (blk_below (g := gb389) (o := .cells #[.bool t383, .string t384, .int .i64 t385] 26 (0, 0)) (by refine blk_up ?_; exact BK389.out) hb); have n1_ := Aside0.mk (blk_below (g := gb390) (o := .cells #[.bool t386, .string t387, .int .i64 t388] 26 (0, 0)) (by refine blk_up ?_; exact BK390.out) hb); have n2_ := Aside0.mk (below_step (by repeat (first | (with_reducible first | exact HB.out | apply below_alloc | apply pw_below_drewN | apply below_drew1 | refine below_set ?_ GE389.out | refine below_set ?_ GE390.out) | exact HB.out)) hb); have n3_ := Aside0.mk (hbox); have n4_ := Aside0.mk ((by rw [hg]; exact (below_size (by repeat (first | (with_reducible first | exact HB.out | apply below_alloc | apply pw_below_drewN | apply below_drew1 | refine below_set ?_ GE389.out | refine below_set ?_ GE390.out) | exact HB.out))) : w.heap.size ≤ gb405)); have n5_ := Aside0.mk ((by rw [hg]; exact (below_size (by repeat (first | (with_reducible first | exact HB.out | apply below_alloc | apply pw_below_drewN | apply below_drew1 | refine below_set ?_ GE389.out | refine below_set ?_ GE390.out) | exact HB.out))) : w.heap.size ≤ gb405)); have n6_ := Aside0.mk ((by rw [hg]; exact Nat.ne_of_lt (blk_lt (g := gb389) (o := .cells #[.bool t383, .string t384, .int .i64 t385] 26 (0, 0)) (by refine blk_up ?_; exact BK389.out)) : gb389 ≠ gb405)); have n7_ := Aside0.mk ((by rw [hg]; exact Nat.ne_of_gt (blk_lt (g := gb389) (o := .cells #[.bool t383, .string t384, .int .i64 t385] 26 (0, 0)) (by refine blk_up ?_; exact BK389.out)) : gb405 ≠ gb389)); have n8_ := Aside0.mk ((by rw [hg]; exact Nat.ne_of_lt (blk_lt (g := gb390) (o := .cells #[.bool t386, .string t387, .int .i64 t388] 26 (0, 0)) (by refine blk_up ?_; exact BK390.out)) : gb390 ≠ gb405)); have n9_ := Aside0.mk ((by rw [hg]; exact Nat.ne_of_gt (blk_lt (g := gb390) (o := .cells #[.bool t386, .string t387, .int .i64 t388] 26 (0, 0)) (by refine blk_up ?_; exact BK390.out)) : gb405 ≠ gb390)); clear BK389; clear BK390; clear HB; have BK389 := n0_; have BK390 := n1_; have HB := n2_; have BK405 := n3_; have GW405 := n4_; have GE405 := n5_; have NB389_405 := n6_; have NB405_389 := n7_; have NB390_405 := n8_; have NB405_390 := n9_; clear n0_ n1_ n2_ n3_ n4_ n5_ n6_ n7_ n8_ n9_; clear hb hbox hg; have hnb142 := NB405_389.out; have hnc142 := NB389_405.out; have hnb143 := NB405_390.out; have hnc143 := NB390_405.out; have hcz144_0 : w141.cell? ⟨gb405, 0, none⟩ = some (.bool false) := (blk_cell BK405.out 0).trans rfl; have hcz144_1 : w141.cell? ⟨gb405, 1, none⟩ = some (.string (⟨#[]⟩ : ByteArray)) := (blk_cell BK405.out 1).trans rfl; have hcz144_2 : w141.cell? ⟨gb405, 2, none⟩ = some (.int .i64 0) := (blk_cell BK405.out 2).trans rfl; have hfz144_0 := blk_frozen BK405.out 0; have hfz144_1 := blk_frozen BK405.out 1; have hfz144_2 := blk_frozen BK405.out 2; have hcz145_0 : w141.cell? ⟨gb390, 0, none⟩ = some (.bool t386) := (blk_cell BK390.out 0).trans rfl; have hcz145_1 : w141.cell? ⟨gb390, 1, none⟩ = some (.string t387) := (blk_cell BK390.out 1).trans rfl; have hcz145_2 : w141.cell? ⟨gb390, 2, none⟩ = some (.int .i64 t388) := (blk_cell BK390.out 2).trans rfl; have hfz145_0 := blk_frozen BK390.out 0; have hfz145_1 := blk_frozen BK390.out 1; have hfz145_2 := blk_frozen BK390.out 2; have hcz146_0 : w141.cell? ⟨gb389, 0, none⟩ = some (.bool t383) := (blk_cell BK389.out 0).trans rfl; have hcz146_1 : w141.cell? ⟨gb389, 1, none⟩ = some (.string t384) := (blk_cell BK389.out 1).trans rfl; have hcz146_2 : w141.cell? ⟨gb389, 2, none⟩ = some (.int .i64 t385) := (blk_cell BK389.out 2).trans rfl; have hfz146_0 := blk_frozen BK389.out 0; have hfz146_1 := blk_frozen BK389.out 1; have hfz146_2 := blk_frozen BK389.out 2) | ((with_reducible refine gate_callee (f := 14) rfl ?_); refine goesL_ (some 60) rfl rfl Tryd.func14 (by kernel_rfl) rfl #[.agg #[.bool t386, .string t387, .int .i64 t388], .agg #[.bool t383, .string t384, .int .i64 t385]] rfl (by (try simp only [List.map_toArray, List.map_cons, List.map_nil]); first | done | rfl | (simp only [List.length_drop, List.length_take]; rfl)) ?_; (with_reducible refine (impl_CompareDec.calls kj5 t386 t387 t388 t383 t384 t385 t406 _ A134.out).mono ?_); rintro e w147 ⟨rfl, hb⟩; refine ⟨_, rfl, ?_⟩; have n0_ := Aside0.mk (blk_below (g := gb389) (o := .cells #[.bool t383, .string t384, .int .i64 t385] 26 (0, 0)) (by refine blk_up ?_; refine blk_far ?_ NB389_405.out _; refine blk_up ?_; refine blk_far ?_ NB389_405.out _; refine blk_up ?_; refine blk_far ?_ NB389_405.out _; refine blk_up ?_; exact BK389.out) hb); have n1_ := Aside0.mk (blk_below (g := gb390) (o := .cells #[.bool t386, .string t387, .int .i64 t388] 26 (0, 0)) (by refine blk_up ?_; refine blk_far ?_ NB390_405.out _; refine blk_up ?_; refine blk_far ?_ NB390_405.out _; refine blk_up ?_; refine blk_far ?_ NB390_405.out _; refine blk_up ?_; exact BK390.out) hb); have n2_ := Aside0.mk (blk_below (g := gb405) (o := .cells #[.bool t401, .string t402, .int .i64 t403] 26 (0, 0)) (by refine blk_up ?_; refine blk_put (cs := #[.bool t401, .string t402, .int .i64 0]) ?_ 2 _ rfl; refine blk_up ?_; refine blk_put (cs := #[.bool t401, .string (⟨#[]⟩ : ByteArray), .int .i64 0]) ?_ 1 _ rfl; refine blk_up ?_; refine blk_put (cs := #[.bool false, .string (⟨#[]⟩ : ByteArray), .int .i64 0]) ?_ 0 _ rfl; refine blk_up ?_; exact BK405.out) hb); have n3_ := Aside0.mk (below_step (by repeat (first | (with_reducible first | exact HB.out | apply below_alloc | apply pw_below_drewN | apply below_drew1 | refine below_set ?_ GE389.out | refine below_set ?_ GE390.out | refine below_set ?_ GE405.out) | exact HB.out)) hb); clear BK389; clear BK390; clear BK405; clear HB; have BK389 := n0_; have BK390 := n1_; have BK405 := n2_; have HB := n3_; clear n0_ n1_ n2_ n3_; (try clear hb); (try clear hb2); (try clear hk); (try clear hi); have hcz148_0 : w147.cell? ⟨gb389, 0, none⟩ = some (.bool t383) := (blk_cell BK389.out 0).trans rfl; have hcz148_1 : w147.cell? ⟨gb389, 1, none⟩ = some (.string t384) := (blk_cell BK389.out 1).trans rfl; have hcz148_2 : w147.cell? ⟨gb389, 2, none⟩ = some (.int .i64 t385) := (blk_cell BK389.out 2).trans rfl; have hfz148_0 := blk_frozen BK389.out 0; have hfz148_1 := blk_frozen BK389.out 1; have hfz148_2 := blk_frozen BK389.out 2; have hcz149_0 : w147.cell? ⟨gb390, 0, none⟩ = some (.bool t386) := (blk_cell BK390.out 0).trans rfl; have hcz149_1 : w147.cell? ⟨gb390, 1, none⟩ = some (.string t387) := (blk_cell BK390.out 1).trans rfl; have hcz149_2 : w147.cell? ⟨gb390, 2, none⟩ = some (.int .i64 t388) := (blk_cell BK390.out 2).trans rfl; have hfz149_0 := blk_frozen BK390.out 0; have hfz149_1 := blk_frozen BK390.out 1; have hfz149_2 := blk_frozen BK390.out 2; have hcz150_0 : w147.cell? ⟨gb405, 0, none⟩ = some (.bool t401) := (blk_cell BK405.out 0).trans rfl; have hcz150_1 : w147.cell? ⟨gb405, 1, none⟩ = some (.string t402) := (blk_cell BK405.out 1).trans rfl; have hcz150_2 : w147.cell? ⟨gb405, 2, none⟩ = some (.int .i64 t403) := (blk_cell BK405.out 2).trans rfl; have hfz150_0 := blk_frozen BK405.out 0; have hfz150_1 := blk_frozen BK405.out 1; have hfz150_2 := blk_frozen BK405.out 2))
                    go_ret
                    exact ⟨by first | rfl | (simp [errW_none, errW_some] <;> rfl) | (simp [*, errW_none, errW_some] <;> rfl), by repeat (first | (with_reducible first | exact HB.out | apply below_alloc | apply pw_below_drewN | apply below_drew1 | refine below_set ?_ GE389.out | refine below_set ?_ GE390.out | refine below_set ?_ GE405.out) | exact HB.out)⟩
                  · rw [if_neg c136] at H
                    have c136b0 : ((t391 == 0) == (t383 == t386 && (t384.toList == t387.toList && (t385 == t388)))) = false := by simpa using c136
                    (try (have c136b1 : decide ((t391 == 0) = (t383 == t386 && (t384.toList == t387.toList && (t385 == t388)))) = false := by simpa using c136))
                    (try (have c136b2 : ((t391 == 0) == (t383 == t386 && (t384.toList == t387.toList && (t385 == t388)))) = false := by simpa using c136))
                    (try (have c136b3 : ¬ ((t391 == 0) = (t383 == t386 && (t384.toList == t387.toList && (t385 == t388)))) := by simpa using c136))
                    clear c136
                    obtain rfl := Option.some.inj H
                    have hnb151 := NB389_390.out
                    have hnc151 := NB390_389.out
                    have hcz152_0 : wc.cell? ⟨gb389, 0, none⟩ = some (.bool t383) := (blk_cell BK389.out 0).trans rfl
                    have hcz152_1 : wc.cell? ⟨gb389, 1, none⟩ = some (.string t384) := (blk_cell BK389.out 1).trans rfl
                    have hcz152_2 : wc.cell? ⟨gb389, 2, none⟩ = some (.int .i64 t385) := (blk_cell BK389.out 2).trans rfl
                    have hfz152_0 := blk_frozen BK389.out 0
                    have hfz152_1 := blk_frozen BK389.out 1
                    have hfz152_2 := blk_frozen BK389.out 2
                    have hcz153_0 : wc.cell? ⟨gb390, 0, none⟩ = some (.bool t386) := (blk_cell BK390.out 0).trans rfl
                    have hcz153_1 : wc.cell? ⟨gb390, 1, none⟩ = some (.string t387) := (blk_cell BK390.out 1).trans rfl
                    have hcz153_2 : wc.cell? ⟨gb390, 2, none⟩ = some (.int .i64 t388) := (blk_cell BK390.out 2).trans rfl
                    have hfz153_0 := blk_frozen BK390.out 0
                    have hfz153_1 := blk_frozen BK390.out 1
                    have hfz153_2 := blk_frozen BK390.out 2
                    go_wp2_with (first | ((with_reducible refine gate_callee (f := 20) rfl ?_); refine goesL_ (some 47) rfl rfl Tryd.func20 (by kernel_rfl) rfl #[.agg #[.bool t383, .string t384, .int .i64 t385], .agg #[.bool (!t386), .string t387, .int .i64 t388]] rfl (by (try simp only [List.map_toArray, List.map_cons, List.map_nil]); first | done | rfl | (simp only [List.length_drop, List.length_take]; rfl)) ?_; (with_reducible refine (impl_AddDec.calls kj5 t383 t384 t385 (!t386) t387 t388 t401 t402 t403 true _ A123.out).mono ?_); rintro e w154 ⟨rfl, hb⟩; refine ⟨_, rfl, ?_⟩; have n0_ := Aside0.mk (blk_below (g := gb389) (o := .cells #[.bool t383, .string t384, .int .i64 t385] 26 (0, 0)) (by refine blk_up ?_; exact BK389.out) hb); have n1_ := Aside0.mk (blk_below (g := gb390) (o := .cells #[.bool t386, .string t387, .int .i64 t388] 26 (0, 0)) (by refine blk_up ?_; exact BK390.out) hb); have n2_ := Aside0.mk (below_step (by repeat (first | (with_reducible first | exact HB.out | apply below_alloc | apply pw_below_drewN | apply below_drew1 | refine below_set ?_ GE389.out | refine below_set ?_ GE390.out) | exact HB.out)) hb); clear BK389; clear BK390; clear HB; have BK389 := n0_; have BK390 := n1_; have HB := n2_; clear n0_ n1_ n2_; (try clear hb); (try clear hb2); (try clear hk); (try clear hi)) | ((with_reducible refine gate_dst (N := 6) rfl ?_); refine box_event ?hg (N := 6) ?hd (cs := #[.bool false, .string (⟨#[]⟩ : ByteArray), .int .i64 0]) (t := 26) ?hr ?_; (case hd => rfl); (case hg => rfl); (case hr => first | (go_simp; done) | (go_simp; rfl)); intro gb405 hg w155 hbox hb; have n0_ := Aside0.mk (blk_below (g := gb389) (o := .cells #[.bool t383, .string t384, .int .i64 t385] 26 (0, 0)) (by refine blk_up ?_; exact BK389.out) hb); have n1_ := Aside0.mk (blk_below (g := gb390) (o := .cells #[.bool t386, .string t387, .int .i64 t388] 26 (0, 0)) (by refine blk_up ?_; exact BK390.out) hb); have n2_ := Aside0.mk (below_step (by repeat (first | (with_reducible first | exact HB.out | apply below_alloc | apply pw_below_drewN | apply below_drew1 | refine below_set ?_ GE389.out | refine below_set ?_ GE390.out) | exact HB.out)) hb); have n3_ := Aside0.mk (hbox); have n4_ := Aside0.mk ((by rw [hg]; exact (below_size (by repeat (first | (with_reducible first | exact HB.out | apply below_alloc | apply pw_below_drewN | apply below_drew1 | refine below_set ?_ GE389.out | refine below_set ?_ GE390.out) | exact HB.out))) : w.heap.size ≤ gb405)); have n5_ := Aside0.mk ((by rw [hg]; exact (below_size (by repeat (first | (with_reducible first | exact HB.out | apply below_alloc | apply pw_below_drewN | apply below_drew1 | refine below_set ?_ GE389.out | refine below_set ?_ GE390.out) | exact HB.out))) : w.heap.size ≤ gb405)); have n6_ := Aside0.mk ((by rw [hg]; exact Nat.ne_of_lt (blk_lt (g := gb389) (o := .cells #[.bool t383, .string t384, .int .i64 t385] 26 (0, 0)) (by refine blk_up ?_; exact BK389.out)) : gb389 ≠ gb405)); have n7_ := Aside0.mk ((by rw [hg]; exact Nat.ne_of_gt (blk_lt (g := gb389) (o := .cells #[.bool t383, .string t384, .int .i64 t385] 26 (0, 0)) (by refine blk_up ?_; exact BK389.out)) : gb405 ≠ gb389)); have n8_ := Aside0.mk ((by rw [hg]; exact Nat.ne_of_lt (blk_lt (g := gb390) (o := .cells #[.bool t386, .string t387, .int .i64 t388] 26 (0, 0)) (by refine blk_up ?_; exact BK390.out)) : gb390 ≠ gb405)); have n9_ := Aside0.mk ((by rw [hg]; exact Nat.ne_of_gt (blk_lt (g := gb390) (o := .cells #[.bool t386, .string t387, .int .i64 t388] 26 (0, 0)) (by refine blk_up ?_; exact BK390.out)) : gb405 ≠ gb390)); clear BK389; clear BK390; clear HB; have BK389 := n0_; have BK390 := n1_; have HB := n2_; have BK405 := n3_; have GW405 := n4_; have GE405 := n5_; have NB389_405 := n6_; have NB405_389 := n7_; have NB390_405 := n8_; have NB405_390 := n9_; clear n0_ n1_ n2_ n3_ n4_ n5_ n6_ n7_ n8_ n9_; clear hb hbox hg; have hnb156 := NB405_389.out; have hnc156 := NB389_405.out; have hnb157 := NB405_390.out; have hnc157 := NB390_405.out; have hcz158_0 : w155.cell? ⟨gb405, 0, none⟩ = some (.bool false) := (blk_cell BK405.out 0).trans rfl; have hcz158_1 : w155.cell? ⟨gb405, 1, none⟩ = some (.string (⟨#[]⟩ : ByteArray)) := (blk_cell BK405.out 1).trans rfl; have hcz158_2 : w155.cell? ⟨gb405, 2, none⟩ = some (.int .i64 0) := (blk_cell BK405.out 2).trans rfl; have hfz158_0 := blk_frozen BK405.out 0; have hfz158_1 := blk_frozen BK405.out 1; have hfz158_2 := blk_frozen BK405.out 2; have hcz159_0 : w155.cell? ⟨gb390, 0, none⟩ = some (.bool t386) := (blk_cell BK390.out 0).trans rfl; have hcz159_1 : w155.cell? ⟨gb390, 1, none⟩ = some (.string t387) := (blk_cell BK390.out 1).trans rfl; have hcz159_2 : w155.cell? ⟨gb390, 2, none⟩ = some (.int .i64 t388) := (blk_cell BK390.out 2).trans rfl; have hfz159_0 := blk_frozen BK390.out 0; have hfz159_1 := blk_frozen BK390.out 1; have hfz159_2 := blk_frozen BK390.out 2; have hcz160_0 : w155.cell? ⟨gb389, 0, none⟩ = some (.bool t383) := (blk_cell BK389.out 0).trans rfl; have hcz160_1 : w155.cell? ⟨gb389, 1, none⟩ = some (.string t384) := (blk_cell BK389.out 1).trans rfl; have hcz160_2 : w155.cell? ⟨gb389, 2, none⟩ = some (.int .i64 t385) := (blk_cell BK389.out 2).trans rfl; have hfz160_0 := blk_frozen BK389.out 0; have hfz160_1 := blk_frozen BK389.out 1; have hfz160_2 := blk_frozen BK389.out 2) | ((with_reducible refine gate_callee (f := 14) rfl ?_); refine goesL_ (some 60) rfl rfl Tryd.func14 (by kernel_rfl) rfl #[.agg #[.bool t386, .string t387, .int .i64 t388], .agg #[.bool t383, .string t384, .int .i64 t385]] rfl (by (try simp only [List.map_toArray, List.map_cons, List.map_nil]); first | done | rfl | (simp only [List.length_drop, List.length_take]; rfl)) ?_; (with_reducible refine (impl_CompareDec.calls kj5 t386 t387 t388 t383 t384 t385 t406 _ A134.out).mono ?_); rintro e w161 ⟨rfl, hb⟩; refine ⟨_, rfl, ?_⟩; have n0_ := Aside0.mk (blk_below (g := gb389) (o := .cells #[.bool t383, .string t384, .int .i64 t385] 26 (0, 0)) (by refine blk_up ?_; refine blk_far ?_ NB389_405.out _; refine blk_up ?_; refine blk_far ?_ NB389_405.out _; refine blk_up ?_; refine blk_far ?_ NB389_405.out _; refine blk_up ?_; exact BK389.out) hb); have n1_ := Aside0.mk (blk_below (g := gb390) (o := .cells #[.bool t386, .string t387, .int .i64 t388] 26 (0, 0)) (by refine blk_up ?_; refine blk_far ?_ NB390_405.out _; refine blk_up ?_; refine blk_far ?_ NB390_405.out _; refine blk_up ?_; refine blk_far ?_ NB390_405.out _; refine blk_up ?_; exact BK390.out) hb); have n2_ := Aside0.mk (blk_below (g := gb405) (o := .cells #[.bool t401, .string t402, .int .i64 t403] 26 (0, 0)) (by refine blk_up ?_; refine blk_put (cs := #[.bool t401, .string t402, .int .i64 0]) ?_ 2 _ rfl; refine blk_up ?_; refine blk_put (cs := #[.bool t401, .string (⟨#[]⟩ : ByteArray), .int .i64 0]) ?_ 1 _ rfl; refine blk_up ?_; refine blk_put (cs := #[.bool false, .string (⟨#[]⟩ : ByteArray), .int .i64 0]) ?_ 0 _ rfl; refine blk_up ?_; exact BK405.out) hb); have n3_ := Aside0.mk (below_step (by repeat (first | (with_reducible first | exact HB.out | apply below_alloc | apply pw_below_drewN | apply below_drew1 | refine below_set ?_ GE389.out | refine below_set ?_ GE390.out | refine below_set ?_ GE405.out) | exact HB.out)) hb); clear BK389; clear BK390; clear BK405; clear HB; have BK389 := n0_; have BK390 := n1_; have BK405 := n2_; have HB := n3_; clear n0_ n1_ n2_ n3_; (try clear hb); (try clear hb2); (try clear hk); (try clear hi); have hcz162_0 : w161.cell? ⟨gb389, 0, none⟩ = some (.bool t383) := (blk_cell BK389.out 0).trans rfl; have hcz162_1 : w161.cell? ⟨gb389, 1, none⟩ = some (.string t384) := (blk_cell BK389.out 1).trans rfl; have hcz162_2 : w161.cell? ⟨gb389, 2, none⟩ = some (.int .i64 t385) := (blk_cell BK389.out 2).trans rfl; have hfz162_0 := blk_frozen BK389.out 0; have hfz162_1 := blk_frozen BK389.out 1; have hfz162_2 := blk_frozen BK389.out 2; have hcz163_0 : w161.cell? ⟨gb390, 0, none⟩ = some (.bool t386) := (blk_cell BK390.out 0).trans rfl; have hcz163_1 : w161.cell? ⟨gb390, 1, none⟩ = some (.string t387) := (blk_cell BK390.out 1).trans rfl; have hcz163_2 : w161.cell? ⟨gb390, 2, none⟩ = some (.int .i64 t388) := (blk_cell BK390.out 2).trans rfl; have hfz163_0 := blk_frozen BK390.out 0; have hfz163_1 := blk_frozen BK390.out 1; have hfz163_2 := blk_frozen BK390.out 2))
                    go_ret
                    exact ⟨by first | rfl | (simp [errW_none, errW_some] <;> rfl) | (simp [*, errW_none, errW_some] <;> rfl), by repeat (first | (with_reducible first | exact HB.out | apply below_alloc | apply pw_below_drewN | apply below_drew1 | refine below_set ?_ GE389.out | refine below_set ?_ GE390.out | refine below_set ?_ GE405.out) | exact HB.out)⟩
                · rw [if_neg c135] at H
                  have c135b0 : (t406 == (wrap64 (-t391))) = false := beq_eq_false_iff_ne.mpr c135
                  have c135b1 : (t406 != (wrap64 (-t391))) = true := bne_iff_ne.mpr c135
                  obtain rfl := Option.some.inj H
                  have hnb164 := NB389_390.out
                  have hnc164 := NB390_389.out
                  have hcz165_0 : wc.cell? ⟨gb389, 0, none⟩ = some (.bool t383) := (blk_cell BK389.out 0).trans rfl
                  have hcz165_1 : wc.cell? ⟨gb389, 1, none⟩ = some (.string t384) := (blk_cell BK389.out 1).trans rfl
                  have hcz165_2 : wc.cell? ⟨gb389, 2, none⟩ = some (.int .i64 t385) := (blk_cell BK389.out 2).trans rfl
                  have hfz165_0 := blk_frozen BK389.out 0
                  have hfz165_1 := blk_frozen BK389.out 1
                  have hfz165_2 := blk_frozen BK389.out 2
                  have hcz166_0 : wc.cell? ⟨gb390, 0, none⟩ = some (.bool t386) := (blk_cell BK390.out 0).trans rfl
                  have hcz166_1 : wc.cell? ⟨gb390, 1, none⟩ = some (.string t387) := (blk_cell BK390.out 1).trans rfl
                  have hcz166_2 : wc.cell? ⟨gb390, 2, none⟩ = some (.int .i64 t388) := (blk_cell BK390.out 2).trans rfl
                  have hfz166_0 := blk_frozen BK390.out 0
                  have hfz166_1 := blk_frozen BK390.out 1
                  have hfz166_2 := blk_frozen BK390.out 2
                  go_wp2_with (first | ((with_reducible refine gate_callee (f := 20) rfl ?_); refine goesL_ (some 47) rfl rfl Tryd.func20 (by kernel_rfl) rfl #[.agg #[.bool t383, .string t384, .int .i64 t385], .agg #[.bool (!t386), .string t387, .int .i64 t388]] rfl (by (try simp only [List.map_toArray, List.map_cons, List.map_nil]); first | done | rfl | (simp only [List.length_drop, List.length_take]; rfl)) ?_; (with_reducible refine (impl_AddDec.calls kj5 t383 t384 t385 (!t386) t387 t388 t401 t402 t403 true _ A123.out).mono ?_); rintro e w167 ⟨rfl, hb⟩; refine ⟨_, rfl, ?_⟩; have n0_ := Aside0.mk (blk_below (g := gb389) (o := .cells #[.bool t383, .string t384, .int .i64 t385] 26 (0, 0)) (by refine blk_up ?_; exact BK389.out) hb); have n1_ := Aside0.mk (blk_below (g := gb390) (o := .cells #[.bool t386, .string t387, .int .i64 t388] 26 (0, 0)) (by refine blk_up ?_; exact BK390.out) hb); have n2_ := Aside0.mk (below_step (by repeat (first | (with_reducible first | exact HB.out | apply below_alloc | apply pw_below_drewN | apply below_drew1 | refine below_set ?_ GE389.out | refine below_set ?_ GE390.out) | exact HB.out)) hb); clear BK389; clear BK390; clear HB; have BK389 := n0_; have BK390 := n1_; have HB := n2_; clear n0_ n1_ n2_; (try clear hb); (try clear hb2); (try clear hk); (try clear hi)) | ((with_reducible refine gate_dst (N := 6) rfl ?_); refine box_event ?hg (N := 6) ?hd (cs := #[.bool false, .string (⟨#[]⟩ : ByteArray), .int .i64 0]) (t := 26) ?hr ?_; (case hd => rfl); (case hg => rfl); (case hr => first | (go_simp; done) | (go_simp; rfl)); intro gb405 hg w168 hbox hb; have n0_ := Aside0.mk (blk_below (g := gb389) (o := .cells #[.bool t383, .string t384, .int .i64 t385] 26 (0, 0)) (by refine blk_up ?_; exact BK389.out) hb); have n1_ := Aside0.mk (blk_below (g := gb390) (o := .cells #[.bool t386, .string t387, .int .i64 t388] 26 (0, 0)) (by refine blk_up ?_; exact BK390.out) hb); have n2_ := Aside0.mk (below_step (by repeat (first | (with_reducible first | exact HB.out | apply below_alloc | apply pw_below_drewN | apply below_drew1 | refine below_set ?_ GE389.out | refine below_set ?_ GE390.out) | exact HB.out)) hb); have n3_ := Aside0.mk (hbox); have n4_ := Aside0.mk ((by rw [hg]; exact (below_size (by repeat (first | (with_reducible first | exact HB.out | apply below_alloc | apply pw_below_drewN | apply below_drew1 | refine below_set ?_ GE389.out | refine below_set ?_ GE390.out) | exact HB.out))) : w.heap.size ≤ gb405)); have n5_ := Aside0.mk ((by rw [hg]; exact (below_size (by repeat (first | (with_reducible first | exact HB.out | apply below_alloc | apply pw_below_drewN | apply below_drew1 | refine below_set ?_ GE389.out | refine below_set ?_ GE390.out) | exact HB.out))) : w.heap.size ≤ gb405)); have n6_ := Aside0.mk ((by rw [hg]; exact Nat.ne_of_lt (blk_lt (g := gb389) (o := .cells #[.bool t383, .string t384, .int .i64 t385] 26 (0, 0)) (by refine blk_up ?_; exact BK389.out)) : gb389 ≠ gb405)); have n7_ := Aside0.mk ((by rw [hg]; exact Nat.ne_of_gt (blk_lt (g := gb389) (o := .cells #[.bool t383, .string t384, .int .i64 t385] 26 (0, 0)) (by refine blk_up ?_; exact BK389.out)) : gb405 ≠ gb389)); have n8_ := Aside0.mk ((by rw [hg]; exact Nat.ne_of_lt (blk_lt (g := gb390) (o := .cells #[.bool t386, .string t387, .int .i64 t388] 26 (0, 0)) (by refine blk_up ?_; exact BK390.out)) : gb390 ≠ gb405)); have n9_ := Aside0.mk ((by rw [hg]; exact Nat.ne_of_gt (blk_lt (g := gb390) (o := .cells #[.bool t386, .string t387, .int .i64 t388] 26 (0, 0)) (by refine blk_up ?_; exact BK390.out)) : gb405 ≠ gb390)); clear BK389; clear BK390; clear HB; have BK389 := n0_; have BK390 := n1_; have HB := n2_; have BK405 := n3_; have GW405 := n4_; have GE405 := n5_; have NB389_405 := n6_; have NB405_389 := n7_; have NB390_405 := n8_; have NB405_390 := n9_; clear n0_ n1_ n2_ n3_ n4_ n5_ n6_ n7_ n8_ n9_; clear hb hbox hg; have hnb169 := NB405_389.out; have hnc169 := NB389_405.out; have hnb170 := NB405_390.out; have hnc170 := NB390_405.out; have hcz171_0 : w168.cell? ⟨gb405, 0, none⟩ = some (.bool false) := (blk_cell BK405.out 0).trans rfl; have hcz171_1 : w168.cell? ⟨gb405, 1, none⟩ = some (.string (⟨#[]⟩ : ByteArray)) := (blk_cell BK405.out 1).trans rfl; have hcz171_2 : w168.cell? ⟨gb405, 2, none⟩ = some (.int .i64 0) := (blk_cell BK405.out 2).trans rfl; have hfz171_0 := blk_frozen BK405.out 0; have hfz171_1 := blk_frozen BK405.out 1; have hfz171_2 := blk_frozen BK405.out 2; have hcz172_0 : w168.cell? ⟨gb390, 0, none⟩ = some (.bool t386) := (blk_cell BK390.out 0).trans rfl; have hcz172_1 : w168.cell? ⟨gb390, 1, none⟩ = some (.string t387) := (blk_cell BK390.out 1).trans rfl; have hcz172_2 : w168.cell? ⟨gb390, 2, none⟩ = some (.int .i64 t388) := (blk_cell BK390.out 2).trans rfl; have hfz172_0 := blk_frozen BK390.out 0; have hfz172_1 := blk_frozen BK390.out 1; have hfz172_2 := blk_frozen BK390.out 2; have hcz173_0 : w168.cell? ⟨gb389, 0, none⟩ = some (.bool t383) := (blk_cell BK389.out 0).trans rfl; have hcz173_1 : w168.cell? ⟨gb389, 1, none⟩ = some (.string t384) := (blk_cell BK389.out 1).trans rfl; have hcz173_2 : w168.cell? ⟨gb389, 2, none⟩ = some (.int .i64 t385) := (blk_cell BK389.out 2).trans rfl; have hfz173_0 := blk_frozen BK389.out 0; have hfz173_1 := blk_frozen BK389.out 1; have hfz173_2 := blk_frozen BK389.out 2) | ((with_reducible refine gate_callee (f := 14) rfl ?_); refine goesL_ (some 60) rfl rfl Tryd.func14 (by kernel_rfl) rfl #[.agg #[.bool t386, .string t387, .int .i64 t388], .agg #[.bool t383, .string t384, .int .i64 t385]] rfl (by (try simp only [List.map_toArray, List.map_cons, List.map_nil]); first | done | rfl | (simp only [List.length_drop, List.length_take]; rfl)) ?_; (with_reducible refine (impl_CompareDec.calls kj5 t386 t387 t388 t383 t384 t385 t406 _ A134.out).mono ?_); rintro e w174 ⟨rfl, hb⟩; refine ⟨_, rfl, ?_⟩; have n0_ := Aside0.mk (blk_below (g := gb389) (o := .cells #[.bool t383, .string t384, .int .i64 t385] 26 (0, 0)) (by refine blk_up ?_; refine blk_far ?_ NB389_405.out _; refine blk_up ?_; refine blk_far ?_ NB389_405.out _; refine blk_up ?_; refine blk_far ?_ NB389_405.out _; refine blk_up ?_; exact BK389.out) hb); have n1_ := Aside0.mk (blk_below (g := gb390) (o := .cells #[.bool t386, .string t387, .int .i64 t388] 26 (0, 0)) (by refine blk_up ?_; refine blk_far ?_ NB390_405.out _; refine blk_up ?_; refine blk_far ?_ NB390_405.out _; refine blk_up ?_; refine blk_far ?_ NB390_405.out _; refine blk_up ?_; exact BK390.out) hb); have n2_ := Aside0.mk (blk_below (g := gb405) (o := .cells #[.bool t401, .string t402, .int .i64 t403] 26 (0, 0)) (by refine blk_up ?_; refine blk_put (cs := #[.bool t401, .string t402, .int .i64 0]) ?_ 2 _ rfl; refine blk_up ?_; refine blk_put (cs := #[.bool t401, .string (⟨#[]⟩ : ByteArray), .int .i64 0]) ?_ 1 _ rfl; refine blk_up ?_; refine blk_put (cs := #[.bool false, .string (⟨#[]⟩ : ByteArray), .int .i64 0]) ?_ 0 _ rfl; refine blk_up ?_; exact BK405.out) hb); have n3_ := Aside0.mk (below_step (by repeat (first | (with_reducible first | exact HB.out | apply below_alloc | apply pw_below_drewN | apply below_drew1 | refine below_set ?_ GE389.out | refine below_set ?_ GE390.out | refine below_set ?_ GE405.out) | exact HB.out)) hb); clear BK389; clear BK390; clear BK405; clear HB; have BK389 := n0_; have BK390 := n1_; have BK405 := n2_; have HB := n3_; clear n0_ n1_ n2_ n3_; (try clear hb); (try clear hb2); (try clear hk); (try clear hi)))
                  go_ret
                  exact ⟨by first | rfl | (simp [errW_none, errW_some] <;> rfl) | (simp [*, errW_none, errW_some] <;> rfl), by repeat (first | (with_reducible first | exact HB.out | apply below_alloc | apply pw_below_drewN | apply below_drew1 | refine below_set ?_ GE389.out | refine below_set ?_ GE390.out | refine below_set ?_ GE405.out) | exact HB.out)⟩
            · replace c124 := Bool.eq_false_iff.mpr c124
              subst c124
              have H1 : ((impl_CompareDec.f kj5 t386 t387 t388 t383 t384 t385).bind fun t407 => (if t407 = (wrap64 (-t391)) then (if ((t391 == 0) == (t383 == t386 && (t384.toList == t387.toList && (t385 == t388)))) = true then (some true) else (some false)) else (some false))) = some r := by rw [if_neg (show ¬ (false = true) by decide)] at H; exact H
              clear H
              have H := H1
              clear H1
              replace H := Option.bind_eq_some_iff.mp H
              obtain ⟨t407, A1750, H⟩ := H
              replace H : (if t407 = (wrap64 (-t391)) then (if ((t391 == 0) == (t383 == t386 && (t384.toList == t387.toList && (t385 == t388)))) = true then (some true) else (some false)) else (some false)) = some r := H
              have A175 := Aside0.mk A1750
              clear A1750
              by_cases c176 : t407 = (wrap64 (-t391))
              · rw [if_pos c176] at H
                have c176b0 : (t407 == (wrap64 (-t391))) = true := beq_iff_eq.mpr c176
                have c176b1 : (t407 != (wrap64 (-t391))) = false := bne_eq_false_iff_eq.mpr c176
                clear c176
                by_cases c177 : ((t391 == 0) == (t383 == t386 && (t384.toList == t387.toList && (t385 == t388)))) = true
                · rw [if_pos c177] at H
                  have c177b0 : ((t391 == 0) == (t383 == t386 && (t384.toList == t387.toList && (t385 == t388)))) = true := c177
                  (try (have c177b1 : decide ((t391 == 0) = (t383 == t386 && (t384.toList == t387.toList && (t385 == t388)))) = true := by simpa using c177))
                  (try (have c177b2 : ((t391 == 0) == (t383 == t386 && (t384.toList == t387.toList && (t385 == t388)))) = true := by simpa using c177))
                  clear c177
                  obtain rfl := Option.some.inj H
                  have hnb178 := NB389_390.out
                  have hnc178 := NB390_389.out
                  have hcz179_0 : wc.cell? ⟨gb389, 0, none⟩ = some (.bool t383) := (blk_cell BK389.out 0).trans rfl
                  have hcz179_1 : wc.cell? ⟨gb389, 1, none⟩ = some (.string t384) := (blk_cell BK389.out 1).trans rfl
                  have hcz179_2 : wc.cell? ⟨gb389, 2, none⟩ = some (.int .i64 t385) := (blk_cell BK389.out 2).trans rfl
                  have hfz179_0 := blk_frozen BK389.out 0
                  have hfz179_1 := blk_frozen BK389.out 1
                  have hfz179_2 := blk_frozen BK389.out 2
                  have hcz180_0 : wc.cell? ⟨gb390, 0, none⟩ = some (.bool t386) := (blk_cell BK390.out 0).trans rfl
                  have hcz180_1 : wc.cell? ⟨gb390, 1, none⟩ = some (.string t387) := (blk_cell BK390.out 1).trans rfl
                  have hcz180_2 : wc.cell? ⟨gb390, 2, none⟩ = some (.int .i64 t388) := (blk_cell BK390.out 2).trans rfl
                  have hfz180_0 := blk_frozen BK390.out 0
                  have hfz180_1 := blk_frozen BK390.out 1
                  have hfz180_2 := blk_frozen BK390.out 2
                  go_wp2_with (first | ((with_reducible refine gate_callee (f := 20) rfl ?_); refine goesL_ (some 47) rfl rfl Tryd.func20 (by kernel_rfl) rfl #[.agg #[.bool t383, .string t384, .int .i64 t385], .agg #[.bool (!t386), .string t387, .int .i64 t388]] rfl (by (try simp only [List.map_toArray, List.map_cons, List.map_nil]); first | done | rfl | (simp only [List.length_drop, List.length_take]; rfl)) ?_; (with_reducible refine (impl_AddDec.calls kj5 t383 t384 t385 (!t386) t387 t388 t401 t402 t403 false _ A123.out).mono ?_); rintro e w181 ⟨rfl, hb⟩; refine ⟨_, rfl, ?_⟩; have n0_ := Aside0.mk (blk_below (g := gb389) (o := .cells #[.bool t383, .string t384, .int .i64 t385] 26 (0, 0)) (by refine blk_up ?_; exact BK389.out) hb); have n1_ := Aside0.mk (blk_below (g := gb390) (o := .cells #[.bool t386, .string t387, .int .i64 t388] 26 (0, 0)) (by refine blk_up ?_; exact BK390.out) hb); have n2_ := Aside0.mk (below_step (by repeat (first | (with_reducible first | exact HB.out | apply below_alloc | apply pw_below_drewN | apply below_drew1 | refine below_set ?_ GE389.out | refine below_set ?_ GE390.out) | exact HB.out)) hb); clear BK389; clear BK390; clear HB; have BK389 := n0_; have BK390 := n1_; have HB := n2_; clear n0_ n1_ n2_; (try clear hb); (try clear hb2); (try clear hk); (try clear hi)) | ((with_reducible refine gate_dst (N := 6) rfl ?_); refine box_event ?hg (N := 6) ?hd (cs := #[.bool false, .string (⟨#[]⟩ : ByteArray), .int .i64 0]) (t := 26) ?hr ?_; (case hd => rfl); (case hg => rfl); (case hr => first | (go_simp; done) | (go_simp; rfl)); intro gb405 hg w182 hbox hb; have n0_ := Aside0.mk (blk_below (g := gb389) (o := .cells #[.bool t383, .string t384, .int .i64 t385] 26 (0, 0)) (by refine blk_up ?_; exact BK389.out) hb); have n1_ := Aside0.mk (blk_below (g := gb390) (o := .cells #[.bool t386, .string t387, .int .i64 t388] 26 (0, 0)) (by refine blk_up ?_; exact BK390.out) hb); have n2_ := Aside0.mk (below_step (by repeat (first | (with_reducible first | exact HB.out | apply below_alloc | apply pw_below_drewN | apply below_drew1 | refine below_set ?_ GE389.out | refine below_set ?_ GE390.out) | exact HB.out)) hb); have n3_ := Aside0.mk (hbox); have n4_ := Aside0.mk ((by rw [hg]; exact (below_size (by repeat (first | (with_reducible first | exact HB.out | apply below_alloc | apply pw_below_drewN | apply below_drew1 | refine below_set ?_ GE389.out | refine below_set ?_ GE390.out) | exact HB.out))) : w.heap.size ≤ gb405)); have n5_ := Aside0.mk ((by rw [hg]; exact (below_size (by repeat (first | (with_reducible first | exact HB.out | apply below_alloc | apply pw_below_drewN | apply below_drew1 | refine below_set ?_ GE389.out | refine below_set ?_ GE390.out) | exact HB.out))) : w.heap.size ≤ gb405)); have n6_ := Aside0.mk ((by rw [hg]; exact Nat.ne_of_lt (blk_lt (g := gb389) (o := .cells #[.bool t383, .string t384, .int .i64 t385] 26 (0, 0)) (by refine blk_up ?_; exact BK389.out)) : gb389 ≠ gb405)); have n7_ := Aside0.mk ((by rw [hg]; exact Nat.ne_of_gt (blk_lt (g := gb389) (o := .cells #[.bool t383, .string t384, .int .i64 t385] 26 (0, 0)) (by refine blk_up ?_; exact BK389.out)) : gb405 ≠ gb389)); have n8_ := Aside0.mk ((by rw [hg]; exact Nat.ne_of_lt (blk_lt (g := gb390) (o := .cells #[.bool t386, .string t387, .int .i64 t388] 26 (0, 0)) (by refine blk_up ?_; exact BK390.out)) : gb390 ≠ gb405)); have n9_ := Aside0.mk ((by rw [hg]; exact Nat.ne_of_gt (blk_lt (g := gb390) (o := .cells #[.bool t386, .string t387, .int .i64 t388] 26 (0, 0)) (by refine blk_up ?_; exact BK390.out)) : gb405 ≠ gb390)); clear BK389; clear BK390; clear HB; have BK389 := n0_; have BK390 := n1_; have HB := n2_; have BK405 := n3_; have GW405 := n4_; have GE405 := n5_; have NB389_405 := n6_; have NB405_389 := n7_; have NB390_405 := n8_; have NB405_390 := n9_; clear n0_ n1_ n2_ n3_ n4_ n5_ n6_ n7_ n8_ n9_; clear hb hbox hg; have hnb183 := NB405_389.out; have hnc183 := NB389_405.out; have hnb184 := NB405_390.out; have hnc184 := NB390_405.out; have hcz185_0 : w182.cell? ⟨gb405, 0, none⟩ = some (.bool false) := (blk_cell BK405.out 0).trans rfl; have hcz185_1 : w182.cell? ⟨gb405, 1, none⟩ = some (.string (⟨#[]⟩ : ByteArray)) := (blk_cell BK405.out 1).trans rfl; have hcz185_2 : w182.cell? ⟨gb405, 2, none⟩ = some (.int .i64 0) := (blk_cell BK405.out 2).trans rfl; have hfz185_0 := blk_frozen BK405.out 0; have hfz185_1 := blk_frozen BK405.out 1; have hfz185_2 := blk_frozen BK405.out 2; have hcz186_0 : w182.cell? ⟨gb390, 0, none⟩ = some (.bool t386) := (blk_cell BK390.out 0).trans rfl; have hcz186_1 : w182.cell? ⟨gb390, 1, none⟩ = some (.string t387) := (blk_cell BK390.out 1).trans rfl; have hcz186_2 : w182.cell? ⟨gb390, 2, none⟩ = some (.int .i64 t388) := (blk_cell BK390.out 2).trans rfl; have hfz186_0 := blk_frozen BK390.out 0; have hfz186_1 := blk_frozen BK390.out 1; have hfz186_2 := blk_frozen BK390.out 2; have hcz187_0 : w182.cell? ⟨gb389, 0, none⟩ = some (.bool t383) := (blk_cell BK389.out 0).trans rfl; have hcz187_1 : w182.cell? ⟨gb389, 1, none⟩ = some (.string t384) := (blk_cell BK389.out 1).trans rfl; have hcz187_2 : w182.cell? ⟨gb389, 2, none⟩ = some (.int .i64 t385) := (blk_cell BK389.out 2).trans rfl; have hfz187_0 := blk_frozen BK389.out 0; have hfz187_1 := blk_frozen BK389.out 1; have hfz187_2 := blk_frozen BK389.out 2) | ((with_reducible refine gate_callee (f := 14) rfl ?_); refine goesL_ (some 60) rfl rfl Tryd.func14 (by kernel_rfl) rfl #[.agg #[.bool t386, .string t387, .int .i64 t388], .agg #[.bool t383, .string t384, .int .i64 t385]] rfl (by (try simp only [List.map_toArray, List.map_cons, List.map_nil]); first | done | rfl | (simp only [List.length_drop, List.length_take]; rfl)) ?_; (with_reducible refine (impl_CompareDec.calls kj5 t386 t387 t388 t383 t384 t385 t407 _ A175.out).mono ?_); rintro e w188 ⟨rfl, hb⟩; refine ⟨_, rfl, ?_⟩; have n0_ := Aside0.mk (blk_below (g := gb389) (o := .cells #[.bool t383, .string t384, .int .i64 t385] 26 (0, 0)) (by refine blk_up ?_; refine blk_far ?_ NB389_405.out _; refine blk_up ?_; refine blk_far ?_ NB389_405.out _; refine blk_up ?_; refine blk_far ?_ NB389_405.out _; refine blk_up ?_; exact BK389.out) hb); have n1_ := Aside0.mk (blk_below (g := gb390) (o := .cells #[.bool t386, .string t387, .int .i64 t388] 26 (0, 0)) (by refine blk_up ?_; refine blk_far ?_ NB390_405.out _; refine blk_up ?_; refine blk_far ?_ NB390_405.out _; refine blk_up ?_; refine blk_far ?_ NB390_405.out _; refine blk_up ?_; exact BK390.out) hb); have n2_ := Aside0.mk (blk_below (g := gb405) (o := .cells #[.bool t401, .string t402, .int .i64 t403] 26 (0, 0)) (by refine blk_up ?_; refine blk_put (cs := #[.bool t401, .string t402, .int .i64 0]) ?_ 2 _ rfl; refine blk_up ?_; refine blk_put (cs := #[.bool t401, .string (⟨#[]⟩ : ByteArray), .int .i64 0]) ?_ 1 _ rfl; refine blk_up ?_; refine blk_put (cs := #[.bool false, .string (⟨#[]⟩ : ByteArray), .int .i64 0]) ?_ 0 _ rfl; refine blk_up ?_; exact BK405.out) hb); have n3_ := Aside0.mk (below_step (by repeat (first | (with_reducible first | exact HB.out | apply below_alloc | apply pw_below_drewN | apply below_drew1 | refine below_set ?_ GE389.out | refine below_set ?_ GE390.out | refine below_set ?_ GE405.out) | exact HB.out)) hb); clear BK389; clear BK390; clear BK405; clear HB; have BK389 := n0_; have BK390 := n1_; have BK405 := n2_; have HB := n3_; clear n0_ n1_ n2_ n3_; (try clear hb); (try clear hb2); (try clear hk); (try clear hi); have hcz189_0 : w188.cell? ⟨gb389, 0, none⟩ = some (.bool t383) := (blk_cell BK389.out 0).trans rfl; have hcz189_1 : w188.cell? ⟨gb389, 1, none⟩ = some (.string t384) := (blk_cell BK389.out 1).trans rfl; have hcz189_2 : w188.cell? ⟨gb389, 2, none⟩ = some (.int .i64 t385) := (blk_cell BK389.out 2).trans rfl; have hfz189_0 := blk_frozen BK389.out 0; have hfz189_1 := blk_frozen BK389.out 1; have hfz189_2 := blk_frozen BK389.out 2; have hcz190_0 : w188.cell? ⟨gb390, 0, none⟩ = some (.bool t386) := (blk_cell BK390.out 0).trans rfl; have hcz190_1 : w188.cell? ⟨gb390, 1, none⟩ = some (.string t387) := (blk_cell BK390.out 1).trans rfl; have hcz190_2 : w188.cell? ⟨gb390, 2, none⟩ = some (.int .i64 t388) := (blk_cell BK390.out 2).trans rfl; have hfz190_0 := blk_frozen BK390.out 0; have hfz190_1 := blk_frozen BK390.out 1; have hfz190_2 := blk_frozen BK390.out 2))
                  go_ret
                  exact ⟨by first | rfl | (simp [errW_none, errW_some] <;> rfl) | (simp [*, errW_none, errW_some] <;> rfl), by repeat (first | (with_reducible first | exact HB.out | apply below_alloc | apply pw_below_drewN | apply below_drew1 | refine below_set ?_ GE389.out | refine below_set ?_ GE390.out | refine below_set ?_ GE405.out) | exact HB.out)⟩
                · rw [if_neg c177] at H
                  have c177b0 : ((t391 == 0) == (t383 == t386 && (t384.toList == t387.toList && (t385 == t388)))) = false := by simpa using c177
                  (try (have c177b1 : decide ((t391 == 0) = (t383 == t386 && (t384.toList == t387.toList && (t385 == t388)))) = false := by simpa using c177))
                  (try (have c177b2 : ((t391 == 0) == (t383 == t386 && (t384.toList == t387.toList && (t385 == t388)))) = false := by simpa using c177))
                  (try (have c177b3 : ¬ ((t391 == 0) = (t383 == t386 && (t384.toList == t387.toList && (t385 == t388)))) := by simpa using c177))
                  clear c177
                  obtain rfl := Option.some.inj H
                  have hnb191 := NB389_390.out
                  have hnc191 := NB390_389.out
                  have hcz192_0 : wc.cell? ⟨gb389, 0, none⟩ = some (.bool t383) := (blk_cell BK389.out 0).trans rfl
                  have hcz192_1 : wc.cell? ⟨gb389, 1, none⟩ = some (.string t384) := (blk_cell BK389.out 1).trans rfl
                  have hcz192_2 : wc.cell? ⟨gb389, 2, none⟩ = some (.int .i64 t385) := (blk_cell BK389.out 2).trans rfl
                  have hfz192_0 := blk_frozen BK389.out 0
                  have hfz192_1 := blk_frozen BK389.out 1
                  have hfz192_2 := blk_frozen BK389.out 2
                  have hcz193_0 : wc.cell? ⟨gb390, 0, none⟩ = some (.bool t386) := (blk_cell BK390.out 0).trans rfl
                  have hcz193_1 : wc.cell? ⟨gb390, 1, none⟩ = some (.string t387) := (blk_cell BK390.out 1).trans rfl
                  have hcz193_2 : wc.cell? ⟨gb390, 2, none⟩ = some (.int .i64 t388) := (blk_cell BK390.out 2).trans rfl
                  have hfz193_0 := blk_frozen BK390.out 0
                  have hfz193_1 := blk_frozen BK390.out 1
                  have hfz193_2 := blk_frozen BK390.out 2
                  go_wp2_with (first | ((with_reducible refine gate_callee (f := 20) rfl ?_); refine goesL_ (some 47) rfl rfl Tryd.func20 (by kernel_rfl) rfl #[.agg #[.bool t383, .string t384, .int .i64 t385], .agg #[.bool (!t386), .string t387, .int .i64 t388]] rfl (by (try simp only [List.map_toArray, List.map_cons, List.map_nil]); first | done | rfl | (simp only [List.length_drop, List.length_take]; rfl)) ?_; (with_reducible refine (impl_AddDec.calls kj5 t383 t384 t385 (!t386) t387 t388 t401 t402 t403 false _ A123.out).mono ?_); rintro e w194 ⟨rfl, hb⟩; refine ⟨_, rfl, ?_⟩; have n0_ := Aside0.mk (blk_below (g := gb389) (o := .cells #[.bool t383, .string t384, .int .i64 t385] 26 (0, 0)) (by refine blk_up ?_; exact BK389.out) hb); have n1_ := Aside0.mk (blk_below (g := gb390) (o := .cells #[.bool t386, .string t387, .int .i64 t388] 26 (0, 0)) (by refine blk_up ?_; exact BK390.out) hb); have n2_ := Aside0.mk (below_step (by repeat (first | (with_reducible first | exact HB.out | apply below_alloc | apply pw_below_drewN | apply below_drew1 | refine below_set ?_ GE389.out | refine below_set ?_ GE390.out) | exact HB.out)) hb); clear BK389; clear BK390; clear HB; have BK389 := n0_; have BK390 := n1_; have HB := n2_; clear n0_ n1_ n2_; (try clear hb); (try clear hb2); (try clear hk); (try clear hi)) | ((with_reducible refine gate_dst (N := 6) rfl ?_); refine box_event ?hg (N := 6) ?hd (cs := #[.bool false, .string (⟨#[]⟩ : ByteArray), .int .i64 0]) (t := 26) ?hr ?_; (case hd => rfl); (case hg => rfl); (case hr => first | (go_simp; done) | (go_simp; rfl)); intro gb405 hg w195 hbox hb; have n0_ := Aside0.mk (blk_below (g := gb389) (o := .cells #[.bool t383, .string t384, .int .i64 t385] 26 (0, 0)) (by refine blk_up ?_; exact BK389.out) hb); have n1_ := Aside0.mk (blk_below (g := gb390) (o := .cells #[.bool t386, .string t387, .int .i64 t388] 26 (0, 0)) (by refine blk_up ?_; exact BK390.out) hb); have n2_ := Aside0.mk (below_step (by repeat (first | (with_reducible first | exact HB.out | apply below_alloc | apply pw_below_drewN | apply below_drew1 | refine below_set ?_ GE389.out | refine below_set ?_ GE390.out) | exact HB.out)) hb); have n3_ := Aside0.mk (hbox); have n4_ := Aside0.mk ((by rw [hg]; exact (below_size (by repeat (first | (with_reducible first | exact HB.out | apply below_alloc | apply pw_below_drewN | apply below_drew1 | refine below_set ?_ GE389.out | refine below_set ?_ GE390.out) | exact HB.out))) : w.heap.size ≤ gb405)); have n5_ := Aside0.mk ((by rw [hg]; exact (below_size (by repeat (first | (with_reducible first | exact HB.out | apply below_alloc | apply pw_below_drewN | apply below_drew1 | refine below_set ?_ GE389.out | refine below_set ?_ GE390.out) | exact HB.out))) : w.heap.size ≤ gb405)); have n6_ := Aside0.mk ((by rw [hg]; exact Nat.ne_of_lt (blk_lt (g := gb389) (o := .cells #[.bool t383, .string t384, .int .i64 t385] 26 (0, 0)) (by refine blk_up ?_; exact BK389.out)) : gb389 ≠ gb405)); have n7_ := Aside0.mk ((by rw [hg]; exact Nat.ne_of_gt (blk_lt (g := gb389) (o := .cells #[.bool t383, .string t384, .int .i64 t385] 26 (0, 0)) (by refine blk_up ?_; exact BK389.out)) : gb405 ≠ gb389)); have n8_ := Aside0.mk ((by rw [hg]; exact Nat.ne_of_lt (blk_lt (g := gb390) (o := .cells #[.bool t386, .string t387, .int .i64 t388] 26 (0, 0)) (by refine blk_up ?_; exact BK390.out)) : gb390 ≠ gb405)); have n9_ := Aside0.mk ((by rw [hg]; exact Nat.ne_of_gt (blk_lt (g := gb390) (o := .cells #[.bool t386, .string t387, .int .i64 t388] 26 (0, 0)) (by refine blk_up ?_; exact BK390.out)) : gb405 ≠ gb390)); clear BK389; clear BK390; clear HB; have BK389 := n0_; have BK390 := n1_; have HB := n2_; have BK405 := n3_; have GW405 := n4_; have GE405 := n5_; have NB389_405 := n6_; have NB405_389 := n7_; have NB390_405 := n8_; have NB405_390 := n9_; clear n0_ n1_ n2_ n3_ n4_ n5_ n6_ n7_ n8_ n9_; clear hb hbox hg; have hnb196 := NB405_389.out; have hnc196 := NB389_405.out; have hnb197 := NB405_390.out; have hnc197 := NB390_405.out; have hcz198_0 : w195.cell? ⟨gb405, 0, none⟩ = some (.bool false) := (blk_cell BK405.out 0).trans rfl; have hcz198_1 : w195.cell? ⟨gb405, 1, none⟩ = some (.string (⟨#[]⟩ : ByteArray)) := (blk_cell BK405.out 1).trans rfl; have hcz198_2 : w195.cell? ⟨gb405, 2, none⟩ = some (.int .i64 0) := (blk_cell BK405.out 2).trans rfl; have hfz198_0 := blk_frozen BK405.out 0; have hfz198_1 := blk_frozen BK405.out 1; have hfz198_2 := blk_frozen BK405.out 2; have hcz199_0 : w195.cell? ⟨gb390, 0, none⟩ = some (.bool t386) := (blk_cell BK390.out 0).trans rfl; have hcz199_1 : w195.cell? ⟨gb390, 1, none⟩ = some (.string t387) := (blk_cell BK390.out 1).trans rfl; have hcz199_2 : w195.cell? ⟨gb390, 2, none⟩ = some (.int .i64 t388) := (blk_cell BK390.out 2).trans rfl; have hfz199_0 := blk_frozen BK390.out 0; have hfz199_1 := blk_frozen BK390.out 1; have hfz199_2 := blk_frozen BK390.out 2; have hcz200_0 : w195.cell? ⟨gb389, 0, none⟩ = some (.bool t383) := (blk_cell BK389.out 0).trans rfl; have hcz200_1 : w195.cell? ⟨gb389, 1, none⟩ = some (.string t384) := (blk_cell BK389.out 1).trans rfl; have hcz200_2 : w195.cell? ⟨gb389, 2, none⟩ = some (.int .i64 t385) := (blk_cell BK389.out 2).trans rfl; have hfz200_0 := blk_frozen BK389.out 0; have hfz200_1 := blk_frozen BK389.out 1; have hfz200_2 := blk_frozen BK389.out 2) | ((with_reducible refine gate_callee (f := 14) rfl ?_); refine goesL_ (some 60) rfl rfl Tryd.func14 (by kernel_rfl) rfl #[.agg #[.bool t386, .string t387, .int .i64 t388], .agg #[.bool t383, .string t384, .int .i64 t385]] rfl (by (try simp only [List.map_toArray, List.map_cons, List.map_nil]); first | done | rfl | (simp only [List.length_drop, List.length_take]; rfl)) ?_; (with_reducible refine (impl_CompareDec.calls kj5 t386 t387 t388 t383 t384 t385 t407 _ A175.out).mono ?_); rintro e w201 ⟨rfl, hb⟩; refine ⟨_, rfl, ?_⟩; have n0_ := Aside0.mk (blk_below (g := gb389) (o := .cells #[.bool t383, .string t384, .int .i64 t385] 26 (0, 0)) (by refine blk_up ?_; refine blk_far ?_ NB389_405.out _; refine blk_up ?_; refine blk_far ?_ NB389_405.out _; refine blk_up ?_; refine blk_far ?_ NB389_405.out _; refine blk_up ?_; exact BK389.out) hb); have n1_ := Aside0.mk (blk_below (g := gb390) (o := .cells #[.bool t386, .string t387, .int .i64 t388] 26 (0, 0)) (by refine blk_up ?_; refine blk_far ?_ NB390_405.out _; refine blk_up ?_; refine blk_far ?_ NB390_405.out _; refine blk_up ?_; refine blk_far ?_ NB390_405.out _; refine blk_up ?_; exact BK390.out) hb); have n2_ := Aside0.mk (blk_below (g := gb405) (o := .cells #[.bool t401, .string t402, .int .i64 t403] 26 (0, 0)) (by refine blk_up ?_; refine blk_put (cs := #[.bool t401, .string t402, .int .i64 0]) ?_ 2 _ rfl; refine blk_up ?_; refine blk_put (cs := #[.bool t401, .string (⟨#[]⟩ : ByteArray), .int .i64 0]) ?_ 1 _ rfl; refine blk_up ?_; refine blk_put (cs := #[.bool false, .string (⟨#[]⟩ : ByteArray), .int .i64 0]) ?_ 0 _ rfl; refine blk_up ?_; exact BK405.out) hb); have n3_ := Aside0.mk (below_step (by repeat (first | (with_reducible first | exact HB.out | apply below_alloc | apply pw_below_drewN | apply below_drew1 | refine below_set ?_ GE389.out | refine below_set ?_ GE390.out | refine below_set ?_ GE405.out) | exact HB.out)) hb); clear BK389; clear BK390; clear BK405; clear HB; have BK389 := n0_; have BK390 := n1_; have BK405 := n2_; have HB := n3_; clear n0_ n1_ n2_ n3_; (try clear hb); (try clear hb2); (try clear hk); (try clear hi); have hcz202_0 : w201.cell? ⟨gb389, 0, none⟩ = some (.bool t383) := (blk_cell BK389.out 0).trans rfl; have hcz202_1 : w201.cell? ⟨gb389, 1, none⟩ = some (.string t384) := (blk_cell BK389.out 1).trans rfl; have hcz202_2 : w201.cell? ⟨gb389, 2, none⟩ = some (.int .i64 t385) := (blk_cell BK389.out 2).trans rfl; have hfz202_0 := blk_frozen BK389.out 0; have hfz202_1 := blk_frozen BK389.out 1; have hfz202_2 := blk_frozen BK389.out 2; have hcz203_0 : w201.cell? ⟨gb390, 0, none⟩ = some (.bool t386) := (blk_cell BK390.out 0).trans rfl; have hcz203_1 : w201.cell? ⟨gb390, 1, none⟩ = some (.string t387) := (blk_cell BK390.out 1).trans rfl; have hcz203_2 : w201.cell? ⟨gb390, 2, none⟩ = some (.int .i64 t388) := (blk_cell BK390.out 2).trans rfl; have hfz203_0 := blk_frozen BK390.out 0; have hfz203_1 := blk_frozen BK390.out 1; have hfz203_2 := blk_frozen BK390.out 2))
                  go_ret
                  exact ⟨by first | rfl | (simp [errW_none, errW_some] <;> rfl) | (simp [*, errW_none, errW_some] <;> rfl), by repeat (first | (with_reducible first | exact HB.out | apply below_alloc | apply pw_below_drewN | apply below_drew1 | refine below_set ?_ GE389.out | refine below_set ?_ GE390.out | refine below_set ?_ GE405.out) | exact HB.out)⟩
              · rw [if_neg c176] at H
                have c176b0 : (t407 == (wrap64 (-t391))) = false := beq_eq_false_iff_ne.mpr c176
                have c176b1 : (t407 != (wrap64 (-t391))) = true := bne_iff_ne.mpr c176
                obtain rfl := Option.some.inj H
                have hnb204 := NB389_390.out
                have hnc204 := NB390_389.out
                have hcz205_0 : wc.cell? ⟨gb389, 0, none⟩ = some (.bool t383) := (blk_cell BK389.out 0).trans rfl
                have hcz205_1 : wc.cell? ⟨gb389, 1, none⟩ = some (.string t384) := (blk_cell BK389.out 1).trans rfl
                have hcz205_2 : wc.cell? ⟨gb389, 2, none⟩ = some (.int .i64 t385) := (blk_cell BK389.out 2).trans rfl
                have hfz205_0 := blk_frozen BK389.out 0
                have hfz205_1 := blk_frozen BK389.out 1
                have hfz205_2 := blk_frozen BK389.out 2
                have hcz206_0 : wc.cell? ⟨gb390, 0, none⟩ = some (.bool t386) := (blk_cell BK390.out 0).trans rfl
                have hcz206_1 : wc.cell? ⟨gb390, 1, none⟩ = some (.string t387) := (blk_cell BK390.out 1).trans rfl
                have hcz206_2 : wc.cell? ⟨gb390, 2, none⟩ = some (.int .i64 t388) := (blk_cell BK390.out 2).trans rfl
                have hfz206_0 := blk_frozen BK390.out 0
                have hfz206_1 := blk_frozen BK390.out 1
                have hfz206_2 := blk_frozen BK390.out 2
                go_wp2_with (first | ((with_reducible refine gate_callee (f := 20) rfl ?_); refine goesL_ (some 47) rfl rfl Tryd.func20 (by kernel_rfl) rfl #[.agg #[.bool t383, .string t384, .int .i64 t385], .agg #[.bool (!t386), .string t387, .int .i64 t388]] rfl (by (try simp only [List.map_toArray, List.map_cons, List.map_nil]); first | done | rfl | (simp only [List.length_drop, List.length_take]; rfl)) ?_; (with_reducible refine (impl_AddDec.calls kj5 t383 t384 t385 (!t386) t387 t388 t401 t402 t403 false _ A123.out).mono ?_); rintro e w207 ⟨rfl, hb⟩; refine ⟨_, rfl, ?_⟩; have n0_ := Aside0.mk (blk_below (g := gb389) (o := .cells #[.bool t383, .string t384, .int .i64 t385] 26 (0, 0)) (by refine blk_up ?_; exact BK389.out) hb); have n1_ := Aside0.mk (blk_below (g := gb390) (o := .cells #[.bool t386, .string t387, .int .i64 t388] 26 (0, 0)) (by refine blk_up ?_; exact BK390.out) hb); have n2_ := Aside0.mk (below_step (by repeat (first | (with_reducible first | exact HB.out | apply below_alloc | apply pw_below_drewN | apply below_drew1 | refine below_set ?_ GE389.out | refine below_set ?_ GE390.out) | exact HB.out)) hb); clear BK389; clear BK390; clear HB; have BK389 := n0_; have BK390 := n1_; have HB := n2_; clear n0_ n1_ n2_; (try clear hb); (try clear hb2); (try clear hk); (try clear hi)) | ((with_reducible refine gate_dst (N := 6) rfl ?_); refine box_event ?hg (N := 6) ?hd (cs := #[.bool false, .string (⟨#[]⟩ : ByteArray), .int .i64 0]) (t := 26) ?hr ?_; (case hd => rfl); (case hg => rfl); (case hr => first | (go_simp; done) | (go_simp; rfl)); intro gb405 hg w208 hbox hb; have n0_ := Aside0.mk (blk_below (g := gb389) (o := .cells #[.bool t383, .string t384, .int .i64 t385] 26 (0, 0)) (by refine blk_up ?_; exact BK389.out) hb); have n1_ := Aside0.mk (blk_below (g := gb390) (o := .cells #[.bool t386, .string t387, .int .i64 t388] 26 (0, 0)) (by refine blk_up ?_; exact BK390.out) hb); have n2_ := Aside0.mk (below_step (by repeat (first | (with_reducible first | exact HB.out | apply below_alloc | apply pw_below_drewN | apply below_drew1 | refine below_set ?_ GE389.out | refine below_set ?_ GE390.out) | exact HB.out)) hb); have n3_ := Aside0.mk (hbox); have n4_ := Aside0.mk ((by rw [hg]; exact (below_size (by repeat (first | (with_reducible first | exact HB.out | apply below_alloc | apply pw_below_drewN | apply below_drew1 | refine below_set ?_ GE389.out | refine below_set ?_ GE390.out) | exact HB.out))) : w.heap.size ≤ gb405)); have n5_ := Aside0.mk ((by rw [hg]; exact (below_size (by repeat (first | (with_reducible first | exact HB.out | apply below_alloc | apply pw_below_drewN | apply below_drew1 | refine below_set ?_ GE389.out | refine below_set ?_ GE390.out) | exact HB.out))) : w.heap.size ≤ gb405)); have n6_ := Aside0.mk ((by rw [hg]; exact Nat.ne_of_lt (blk_lt (g := gb389) (o := .cells #[.bool t383, .string t384, .int .i64 t385] 26 (0, 0)) (by refine blk_up ?_; exact BK389.out)) : gb389 ≠ gb405)); have n7_ := Aside0.mk ((by rw [hg]; exact Nat.ne_of_gt (blk_lt (g := gb389) (o := .cells #[.bool t383, .string t384, .int .i64 t385] 26 (0, 0)) (by refine blk_up ?_; exact BK389.out)) : gb405 ≠ gb389)); have n8_ := Aside0.mk ((by rw [hg]; exact Nat.ne_of_lt (blk_lt (g := gb390) (o := .cells #[.bool t386, .string t387, .int .i64 t388] 26 (0, 0)) (by refine blk_up ?_; exact BK390.out)) : gb390 ≠ gb405)); have n9_ := Aside0.mk ((by rw [hg]; exact Nat.ne_of_gt (blk_lt (g := gb390) (o := .cells #[.bool t386, .string t387, .int .i64 t388] 26 (0, 0)) (by refine blk_up ?_; exact BK390.out)) : gb405 ≠ gb390)); clear BK389; clear BK390; clear HB; have BK389 := n0_; have BK390 := n1_; have HB := n2_; have BK405 := n3_; have GW405 := n4_; have GE405 := n5_; have NB389_405 := n6_; have NB405_389 := n7_; have NB390_405 := n8_; have NB405_390 := n9_; clear n0_ n1_ n2_ n3_ n4_ n5_ n6_ n7_ n8_ n9_; clear hb hbox hg; have hnb209 := NB405_389.out; have hnc209 := NB389_405.out; have hnb210 := NB405_390.out; have hnc210 := NB390_405.out; have hcz211_0 : w208.cell? ⟨gb405, 0, none⟩ = some (.bool false) := (blk_cell BK405.out 0).trans rfl; have hcz211_1 : w208.cell? ⟨gb405, 1, none⟩ = some (.string (⟨#[]⟩ : ByteArray)) := (blk_cell BK405.out 1).trans rfl; have hcz211_2 : w208.cell? ⟨gb405, 2, none⟩ = some (.int .i64 0) := (blk_cell BK405.out 2).trans rfl; have hfz211_0 := blk_frozen BK405.out 0; have hfz211_1 := blk_frozen BK405.out 1; have hfz211_2 := blk_frozen BK405.out 2; have hcz212_0 : w208.cell? ⟨gb390, 0, none⟩ = some (.bool t386) := (blk_cell BK390.out 0).trans rfl; have hcz212_1 : w208.cell? ⟨gb390, 1, none⟩ = some (.string t387) := (blk_cell BK390.out 1).trans rfl; have hcz212_2 : w208.cell? ⟨gb390, 2, none⟩ = some (.int .i64 t388) := (blk_cell BK390.out 2).trans rfl; have hfz212_0 := blk_frozen BK390.out 0; have hfz212_1 := blk_frozen BK390.out 1; have hfz212_2 := blk_frozen BK390.out 2; have hcz213_0 : w208.cell? ⟨gb389, 0, none⟩ = some (.bool t383) := (blk_cell BK389.out 0).trans rfl; have hcz213_1 : w208.cell? ⟨gb389, 1, none⟩ = some (.string t384) := (blk_cell BK389.out 1).trans rfl; have hcz213_2 : w208.cell? ⟨gb389, 2, none⟩ = some (.int .i64 t385) := (blk_cell BK389.out 2).trans rfl; have hfz213_0 := blk_frozen BK389.out 0; have hfz213_1 := blk_frozen BK389.out 1; have hfz213_2 := blk_frozen BK389.out 2) | ((with_reducible refine gate_callee (f := 14) rfl ?_); refine goesL_ (some 60) rfl rfl Tryd.func14 (by kernel_rfl) rfl #[.agg #[.bool t386, .string t387, .int .i64 t388], .agg #[.bool t383, .string t384, .int .i64 t385]] rfl (by (try simp only [List.map_toArray, List.map_cons, List.map_nil]); first | done | rfl | (simp only [List.length_drop, List.length_take]; rfl)) ?_; (with_reducible refine (impl_CompareDec.calls kj5 t386 t387 t388 t383 t384 t385 t407 _ A175.out).mono ?_); rintro e w214 ⟨rfl, hb⟩; refine ⟨_, rfl, ?_⟩; have n0_ := Aside0.mk (blk_below (g := gb389) (o := .cells #[.bool t383, .string t384, .int .i64 t385] 26 (0, 0)) (by refine blk_up ?_; refine blk_far ?_ NB389_405.out _; refine blk_up ?_; refine blk_far ?_ NB389_405.out _; refine blk_up ?_; refine blk_far ?_ NB389_405.out _; refine blk_up ?_; exact BK389.out) hb); have n1_ := Aside0.mk (blk_below (g := gb390) (o := .cells #[.bool t386, .string t387, .int .i64 t388] 26 (0, 0)) (by refine blk_up ?_; refine blk_far ?_ NB390_405.out _; refine blk_up ?_; refine blk_far ?_ NB390_405.out _; refine blk_up ?_; refine blk_far ?_ NB390_405.out _; refine blk_up ?_; exact BK390.out) hb); have n2_ := Aside0.mk (blk_below (g := gb405) (o := .cells #[.bool t401, .string t402, .int .i64 t403] 26 (0, 0)) (by refine blk_up ?_; refine blk_put (cs := #[.bool t401, .string t402, .int .i64 0]) ?_ 2 _ rfl; refine blk_up ?_; refine blk_put (cs := #[.bool t401, .string (⟨#[]⟩ : ByteArray), .int .i64 0]) ?_ 1 _ rfl; refine blk_up ?_; refine blk_put (cs := #[.bool false, .string (⟨#[]⟩ : ByteArray), .int .i64 0]) ?_ 0 _ rfl; refine blk_up ?_; exact BK405.out) hb); have n3_ := Aside0.mk (below_step (by repeat (first | (with_reducible first | exact HB.out | apply below_alloc | apply pw_below_drewN | apply below_drew1 | refine below_set ?_ GE389.out | refine below_set ?_ GE390.out | refine below_set ?_ GE405.out) | exact HB.out)) hb); clear BK389; clear BK390; clear BK405; clear HB; have BK389 := n0_; have BK390 := n1_; have BK405 := n2_; have HB := n3_; clear n0_ n1_ n2_ n3_; (try clear hb); (try clear hb2); (try clear hk); (try clear hi)))
                go_ret
                exact ⟨by first | rfl | (simp [errW_none, errW_some] <;> rfl) | (simp [*, errW_none, errW_some] <;> rfl), by repeat (first | (with_reducible first | exact HB.out | apply below_alloc | apply pw_below_drewN | apply below_drew1 | refine below_set ?_ GE389.out | refine below_set ?_ GE390.out | refine below_set ?_ GE405.out) | exact HB.out)⟩

/-- THE ONE PURE STATEMENT of laws_FnCompared: yours. -/
def laws_FnCompared.Pure : Prop := ∀ (l0 : List Int), l0.length ≤ maxLen → l0.length * 1 ≤ 140737488351232 → (∀ x ∈ l0, (Lit.int .u8 x).wf = true) → ∃ k, laws_FnCompared.f k l0 = some true
theorem laws_FnCompared.walk (P : laws_FnCompared.Pure) (a0 : Option Addr) (len0 cap0 : Nat) (z0 : List Int) (w : World) (w0 : (a0 = none ∧ len0 = 0 ∧ cap0 = 0 ∧ z0 = []) ∨ ∃ x, a0 = some x ∧ len0 ≤ cap0 ∧ cap0 ≤ maxLen ∧ z0.length = cap0 ∧ (∀ i, i < z0.length → w.cell? (x.add i) = some (.int .u8 (z0.getD i 0))) ∧ ∀ n ∈ z0, (Lit.int .u8 n).wf = true) (y0 : len0 * 1 ≤ 140737488351232) :
    Calls Tryd.prog 5 #[.slice a0 len0 cap0] w fun e w' => e = .returned (.bool true) ∧ Below w.heap.size w w' := by
  obtain ⟨l0, rfl, hr0, hm0, hw0, hc0⟩ := ReadsInt.ofRowC w0
  obtain ⟨k, h⟩ := P l0 hm0 y0 hw0
  refine (laws_FnCompared.calls k _ _ l0 true w (Kd.C_of_reads (d := (0 : Int)) (h1 := fun _ => rfl) hr0) hc0 h).mono ?_
  rintro e w' ⟨rfl, hd⟩
  exact ⟨rfl, hd⟩

end Go.Proofs.YtilmhfkbpnejeaaDoor.L
