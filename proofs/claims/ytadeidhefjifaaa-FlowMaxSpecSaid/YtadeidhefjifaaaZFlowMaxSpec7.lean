/- Parts of the proof of FlowMaxSpec, put together from several texts (words that the printing program wrote for this claim, walks, plain facts): the declarations that this law needs. -/
import Derived.Test.YtadeidhefjifaaaZFlowMaxSpec6
import Derived.ChangeSame
import Derived.Deep.Fields
import Derived.Deep.Grids
import Derived.Deep.Slices
section
namespace Go.Proofs.Ytadeidhefjifaaa.Px
noncomputable section
open Go.RowKit Go.Proofs.YtadeidhefjifaaaW.PrintWords Go.Proofs.YtadeidhefjifaaaW.PrintLast Go.Proofs.YtadeidhefjifaaaW.PrintMore
attribute [local go_sem] max2_int min2_int max_two min_two max_three min_three max_four min_four   -- for this text's walks alone
set_option linter.unusedVariables false
set_option linter.unusedSimpArgs false
mutual
def sizarref18_augment.l0 : Nat → List (S61) → List Int → List Int → Int → Int → Int → Int → Option (List Int)
  | 0, _, _, _, _, _, _, _ => none
  | k + 1, x0, x1, x2, x3, x4, x11, x12 => if x12 = x3 then ((some (([] : List Int) : List Int)).bind fun y204 => (if y204.length + x1.length < 17592186044416 then (sizarref18_augment.l1 k x0 x2 x3 x11 (y204 ++ x1) x4) else (none))) else (if 0 ≤ x12 then (if x12 < (x2.length : Int) then (if (rd x2 x12) > 0 then (if 0 ≤ (wrap64 ((rd x2 x12) - 1)) then (if (wrap64 ((rd x2 x12) - 1)) < (x0.length : Int) then (if (wrap64 ((rd x2 x12) - 1)) < (x1.length : Int) then (sizarref18_augment.l0 k x0 x1 x2 x3 x4 (mn x11 (wrap64 (((rd_T61 x0 (wrap64 ((rd x2 x12) - 1))).f2) - (rd x1 (wrap64 ((rd x2 x12) - 1)))))) ((rd_T61 x0 (wrap64 ((rd x2 x12) - 1))).f0)) else (none)) else (none)) else (none)) else (if 0 ≤ (wrap64 ((wrap64 (-(rd x2 x12))) - 1)) then (if (wrap64 ((wrap64 (-(rd x2 x12))) - 1)) < (x1.length : Int) then (if (wrap64 ((wrap64 (-(rd x2 x12))) - 1)) < (x0.length : Int) then (sizarref18_augment.l0 k x0 x1 x2 x3 x4 (mn x11 (rd x1 (wrap64 ((wrap64 (-(rd x2 x12))) - 1)))) ((rd_T61 x0 (wrap64 ((wrap64 (-(rd x2 x12))) - 1))).f1)) else (none)) else (none)) else (none))) else (none)) else (none))
def sizarref18_augment.l1 : Nat → List (S61) → List Int → Int → Int → List Int → Int → Option (List Int)
  | 0, _, _, _, _, _, _ => none
  | k + 1, x0, x2, x3, x11, x15, x16 => if x16 = x3 then (some x15) else (if 0 ≤ x16 then (if x16 < (x2.length : Int) then (if (rd x2 x16) > 0 then (if 0 ≤ (wrap64 ((rd x2 x16) - 1)) then (if (wrap64 ((rd x2 x16) - 1)) < (x15.length : Int) then (if (wrap64 ((rd x2 x16) - 1)) < (x0.length : Int) then (sizarref18_augment.l1 k x0 x2 x3 x11 (x15.set ((wrap64 ((rd x2 x16) - 1)) : Int).toNat (wrap64 ((rd x15 (wrap64 ((rd x2 x16) - 1))) + x11))) ((rd_T61 x0 (wrap64 ((rd x2 x16) - 1))).f0)) else (none)) else (none)) else (none)) else (if 0 ≤ (wrap64 ((wrap64 (-(rd x2 x16))) - 1)) then (if (wrap64 ((wrap64 (-(rd x2 x16))) - 1)) < (x15.length : Int) then (if (wrap64 ((wrap64 (-(rd x2 x16))) - 1)) < (x0.length : Int) then (sizarref18_augment.l1 k x0 x2 x3 x11 (x15.set ((wrap64 ((wrap64 (-(rd x2 x16))) - 1)) : Int).toNat (wrap64 ((rd x15 (wrap64 ((wrap64 (-(rd x2 x16))) - 1))) - x11))) ((rd_T61 x0 (wrap64 ((wrap64 (-(rd x2 x16))) - 1))).f1)) else (none)) else (none)) else (none))) else (none)) else (none))
end
def sizarref18_augment.f (k : Nat) (l0 : List (S61)) (l1 : List Int) (l2 : List Int) (a3 : Int) (a4 : Int) : Option (List Int) := sizarref18_augment.l0 k l0 l1 l2 a3 a4 1073741824 a4
set_option maxHeartbeats 8000000 in
set_option maxRecDepth 100000 in
theorem sizarref18_augment.calls (k : Nat) (A0 : Option Addr) (c0 : Nat) (l0 : List (S61)) (A1 : Option Addr) (c1 : Nat) (l1 : List Int) (A2 : Option Addr) (c2 : Nat) (l2 : List Int) (a3 : Int) (a4 : Int) (r : List Int) (w : World) (hr0 : Kd.C k61 w A0 l0.length l0) (hc0 : l0.length ≤ c0) (hr1 : Kd.C (Kd.int .i64) w A1 l1.length l1) (hc1 : l1.length ≤ c1) (hr2 : Kd.C (Kd.int .i64) w A2 l2.length l2) (hc2 : l2.length ≤ c2) (h : sizarref18_augment.f k l0 l1 l2 a3 a4 = some r) :
    Calls Try.prog 57 #[.slice A0 l0.length c0, .slice A1 l1.length c1, .slice A2 l2.length c2, .int .i64 a3, .int .i64 a4] w fun e w' => ∃ v0_ : Value, e = .returned (v0_) ∧ Kd.R (Kd.int .i64) 3 w' w.heap.size (fun _ => True) v0_ r ∧ Below w.heap.size w w' := by
  have HR0 := Aside0.mk hr0
  have HC0 := Aside0.mk hc0
  clear hr0 hc0
  have HR1 := Aside0.mk hr1
  have HC1 := Aside0.mk hc1
  clear hr1 hc1
  have HR2 := Aside0.mk hr2
  have HC2 := Aside0.mk hc2
  clear hr2 hc2
  have HB := Aside0.mk (Below.refl w.heap.size w)
  have H : (sizarref18_augment.l0 k l0 l1 l2 a3 a4 1073741824 a4) = some r := h
  clear h
  have H' := Aside0.mk H
  clear H
  go_enter Try.func57, Try.ntmps57
  go_wp2
  repeat (go_quiet (fail); try go_wp2)
  go_loopg [11, 12] k (fun kq v11 v12 w' => ∃ (x11_1 : Int) (x12_1 : Int), v11 = .int .i64 x11_1 ∧ v12 = .int .i64 x12_1 ∧ Aside0 (sizarref18_augment.l0 kq l0 l1 l2 a3 a4 x11_1 x12_1 = some r) ∧ Aside0 (kq ≤ k) ∧ Aside0 (Below w.heap.size w w'))
  case atStart => exact ⟨(1073741824), (a4), (by first | rfl | (simp; done) | (simp [*]; done)), (by first | rfl | (simp; done) | (simp [*]; done)), H', ⟨Nat.le_refl _⟩, ⟨by repeat (first | (with_reducible first | exact HB.out | apply below_alloc | apply pw_below_drewN | apply below_drew1) | exact HB.out)⟩⟩
  case round =>
    clear H'
    try clear c1
    try clear c2
    try clear p2
    try clear c5
    obtain ⟨x11_1, x12_1, rfl, rfl, HA, HK1, HB⟩ := hrel
    cases gk with
    | zero => exact absurd HA.out (by simp [sizarref18_augment.l0])
    | succ k1 =>
      have H := HA.out
      clear HA
      simp only [sizarref18_augment.l0] at H
      by_cases c6 : x12_1 = a3
      · rw [if_pos c6] at H
        have c6b0 : (x12_1 == a3) = true := beq_iff_eq.mpr c6
        have c6b1 : (x12_1 != a3) = false := bne_eq_false_iff_eq.mpr c6
        clear c6
        obtain ⟨y204, hy204⟩ : ∃ y_ : List Int, y_ = (([] : List Int)) := ⟨_, rfl⟩
        replace H : (if y204.length + l1.length < 17592186044416 then (sizarref18_augment.l1 k1 l0 l2 a3 x11_1 (y204 ++ l1) a4) else (none)) = some r := by first | (rw [hy204]; with_reducible exact H) | (have H2_ := (Option.bind_some _ _).symm.trans H; rw [hy204]; with_reducible exact H2_) | (have H2_ := (Option.bind_some _ _).symm.trans H; with_reducible exact H2_) | with_reducible exact H | (rw [hy204]; exact H) | exact H
        have Ny204 := Aside0.mk hy204
        clear hy204
        by_cases c7 : y204.length + l1.length < 17592186044416
        · rw [if_pos c7] at H
          have LMc7 := Aside0.mk c7
          clear c7
          obtain ⟨y207, hy207⟩ : ∃ y_ : List Int, y_ = (y204 ++ l1) := ⟨_, rfl⟩
          replace H : (sizarref18_augment.l1 k1 l0 l2 a3 x11_1 y207 a4) = some r := by first | (rw [hy207]; with_reducible exact H) | (have H2_ := (Option.bind_some _ _).symm.trans H; rw [hy207]; with_reducible exact H2_) | (have H2_ := (Option.bind_some _ _).symm.trans H; with_reducible exact H2_) | with_reducible exact H | (rw [hy207]; exact H) | exact H
          have Ny207 := Aside0.mk hy207
          clear hy207
          have H' := Aside0.mk H
          clear H
          go_wp2_with (first | ((with_reducible refine gate_dst (N := 67) rfl ?_); refine Kd.R_lit (Kd.int .i64) _ 3 ?hg (N := 67) ?hd (xs := ([] : List Int)) (inner := []) (ok := fun _ => True) (okp := fun _ => True) ?hr ?hp (fun _ hk => hk) trivial (Below.refl _ _) (Nat.le_refl _) (by simp) ?_; (case hd => rfl); (case hg => rfl); (case hr => first | (go_simp; done) | (go_simp; rfl)); (case hp => exact (Reps.none _ _)); intro v205 w8 ho9 hb hg_ hnew_; clear hg_ hnew_; (first | rw [← Ny204.out] at ho9 | (simp only [Int.reduceToNat] at ho9; rw [← Ny204.out] at ho9)); have n0_ := Aside0.mk (Kd.R_lower ho9 (below_size (by repeat (first | (with_reducible first | exact HB.out | apply below_alloc | apply pw_below_drewN | apply below_drew1) | exact HB.out)))); have n1_ := Aside0.mk (below_step (by repeat (first | (with_reducible first | exact HB.out | apply below_alloc | apply pw_below_drewN | apply below_drew1) | exact HB.out)) hb); clear HB; have HO206 := n0_; have HB := n1_; clear n0_ n1_; clear hb ho9) | ((with_reducible refine gate_builtin (b := .append) (xs := #[.tmp 67, .tmp 68]) rfl ?_); at_builtin; refine Kd.R_append_rows (Kd.int .i64) (w0 := w) w.heap.size rfl (.tmp 67) (.tmp 68) 23 3 (.int .i64 0) 8 rfl Try.underlying23 info3 rfl (by decide) (by omega) v205 y204 l1 _ _ _ (fun _ => True) (fun _ => False) rfl rfl ?aO ?aR (fun _ _ h => h) (fun _ h => h.elim) ?aF ?aB ?aS ?aL ?_; (case aR => repeat (first | exact (Kd.C_below HR1.out HB.out) | (with_reducible refine Kd.C_alloc ?_ _) | (with_reducible refine Kd.C_drewN ?_ _) | (with_reducible refine Kd.C_drew ?_))); (case aB => exact (by repeat (first | (with_reducible first | exact HB.out | apply below_alloc | apply pw_below_drewN | apply below_drew1) | exact HB.out))); (case aF => exact (fun _ _ => trivial)); (case aO => exact (by (with_reducible repeat (first | apply Kd.R_alloc | apply Kd.R_drewN | apply Kd.R_drew)); exact HO206.out)); (case aS => exact (below_size (by repeat (first | (with_reducible first | exact HB.out | apply below_alloc | apply pw_below_drewN | apply below_drew1) | exact HB.out)))); (case aL => have := LMc7.out; omega); intro v208 w10 ho hb hg hat; rw [← Ny207.out] at ho; have n0_ := Aside0.mk (hb); have n1_ := Aside0.mk (ho); clear HB; clear HO206; have HB := n0_; have HO209 := n1_; clear n0_ n1_; clear ho hb hg hat))
          repeat (go_quiet (first | ((with_reducible refine gate_dst (N := 67) rfl ?_); refine Kd.R_lit (Kd.int .i64) _ 3 ?hg (N := 67) ?hd (xs := ([] : List Int)) (inner := []) (ok := fun _ => True) (okp := fun _ => True) ?hr ?hp (fun _ hk => hk) trivial (Below.refl _ _) (Nat.le_refl _) (by simp) ?_; (case hd => rfl); (case hg => rfl); (case hr => first | (go_simp; done) | (go_simp; rfl)); (case hp => exact (Reps.none _ _)); intro v205 w8 ho9 hb hg_ hnew_; clear hg_ hnew_; (first | rw [← Ny204.out] at ho9 | (simp only [Int.reduceToNat] at ho9; rw [← Ny204.out] at ho9)); have n0_ := Aside0.mk (Kd.R_lower ho9 (below_size (by repeat (first | (with_reducible first | exact HB.out | apply below_alloc | apply pw_below_drewN | apply below_drew1) | exact HB.out)))); have n1_ := Aside0.mk (below_step (by repeat (first | (with_reducible first | exact HB.out | apply below_alloc | apply pw_below_drewN | apply below_drew1) | exact HB.out)) hb); clear HB; have HO206 := n0_; have HB := n1_; clear n0_ n1_; clear hb ho9) | ((with_reducible refine gate_builtin (b := .append) (xs := #[.tmp 67, .tmp 68]) rfl ?_); at_builtin; refine Kd.R_append_rows (Kd.int .i64) (w0 := w) w.heap.size rfl (.tmp 67) (.tmp 68) 23 3 (.int .i64 0) 8 rfl Try.underlying23 info3 rfl (by decide) (by omega) v205 y204 l1 _ _ _ (fun _ => True) (fun _ => False) rfl rfl ?aO ?aR (fun _ _ h => h) (fun _ h => h.elim) ?aF ?aB ?aS ?aL ?_; (case aR => repeat (first | exact (Kd.C_below HR1.out HB.out) | (with_reducible refine Kd.C_alloc ?_ _) | (with_reducible refine Kd.C_drewN ?_ _) | (with_reducible refine Kd.C_drew ?_))); (case aB => exact (by repeat (first | (with_reducible first | exact HB.out | apply below_alloc | apply pw_below_drewN | apply below_drew1) | exact HB.out))); (case aF => exact (fun _ _ => trivial)); (case aO => exact (by (with_reducible repeat (first | apply Kd.R_alloc | apply Kd.R_drewN | apply Kd.R_drew)); exact HO206.out)); (case aS => exact (below_size (by repeat (first | (with_reducible first | exact HB.out | apply below_alloc | apply pw_below_drewN | apply below_drew1) | exact HB.out)))); (case aL => have := LMc7.out; omega); intro v208 w10 ho hb hg hat; rw [← Ny207.out] at ho; have n0_ := Aside0.mk (hb); have n1_ := Aside0.mk (ho); clear HB; clear HO206; have HB := n0_; have HO209 := n1_; clear n0_ n1_; clear ho hb hg hat)); try go_wp2_with (first | ((with_reducible refine gate_dst (N := 67) rfl ?_); refine Kd.R_lit (Kd.int .i64) _ 3 ?hg (N := 67) ?hd (xs := ([] : List Int)) (inner := []) (ok := fun _ => True) (okp := fun _ => True) ?hr ?hp (fun _ hk => hk) trivial (Below.refl _ _) (Nat.le_refl _) (by simp) ?_; (case hd => rfl); (case hg => rfl); (case hr => first | (go_simp; done) | (go_simp; rfl)); (case hp => exact (Reps.none _ _)); intro v205 w8 ho9 hb hg_ hnew_; clear hg_ hnew_; (first | rw [← Ny204.out] at ho9 | (simp only [Int.reduceToNat] at ho9; rw [← Ny204.out] at ho9)); have n0_ := Aside0.mk (Kd.R_lower ho9 (below_size (by repeat (first | (with_reducible first | exact HB.out | apply below_alloc | apply pw_below_drewN | apply below_drew1) | exact HB.out)))); have n1_ := Aside0.mk (below_step (by repeat (first | (with_reducible first | exact HB.out | apply below_alloc | apply pw_below_drewN | apply below_drew1) | exact HB.out)) hb); clear HB; have HO206 := n0_; have HB := n1_; clear n0_ n1_; clear hb ho9) | ((with_reducible refine gate_builtin (b := .append) (xs := #[.tmp 67, .tmp 68]) rfl ?_); at_builtin; refine Kd.R_append_rows (Kd.int .i64) (w0 := w) w.heap.size rfl (.tmp 67) (.tmp 68) 23 3 (.int .i64 0) 8 rfl Try.underlying23 info3 rfl (by decide) (by omega) v205 y204 l1 _ _ _ (fun _ => True) (fun _ => False) rfl rfl ?aO ?aR (fun _ _ h => h) (fun _ h => h.elim) ?aF ?aB ?aS ?aL ?_; (case aR => repeat (first | exact (Kd.C_below HR1.out HB.out) | (with_reducible refine Kd.C_alloc ?_ _) | (with_reducible refine Kd.C_drewN ?_ _) | (with_reducible refine Kd.C_drew ?_))); (case aB => exact (by repeat (first | (with_reducible first | exact HB.out | apply below_alloc | apply pw_below_drewN | apply below_drew1) | exact HB.out))); (case aF => exact (fun _ _ => trivial)); (case aO => exact (by (with_reducible repeat (first | apply Kd.R_alloc | apply Kd.R_drewN | apply Kd.R_drew)); exact HO206.out)); (case aS => exact (below_size (by repeat (first | (with_reducible first | exact HB.out | apply below_alloc | apply pw_below_drewN | apply below_drew1) | exact HB.out)))); (case aL => have := LMc7.out; omega); intro v208 w10 ho hb hg hat; rw [← Ny207.out] at ho; have n0_ := Aside0.mk (hb); have n1_ := Aside0.mk (ho); clear HB; clear HO206; have HB := n0_; have HO209 := n1_; clear n0_ n1_; clear ho hb hg hat)))
          go_loopg [16] k1 (fun kq v16 w' => ∃ (x15_2 : List Int) (x16_2 : Int), v16 = .int .i64 x16_2 ∧ Aside0 (sizarref18_augment.l1 kq l0 l2 a3 x11_1 x15_2 x16_2 = some r) ∧ Aside0 (kq ≤ k1) ∧ Aside0 (Kd.R (Kd.int .i64) 3 w' w.heap.size (fun _ => True) v208 x15_2) ∧ Aside0 (Below w.heap.size w w'))
          case atStart => exact ⟨(y207), (a4), (by first | rfl | (simp; done) | (simp [*]; done)), H', ⟨Nat.le_refl _⟩, ⟨by (with_reducible repeat (first | apply Kd.R_alloc | apply Kd.R_drewN | apply Kd.R_drew)); exact HO209.out⟩, ⟨by repeat (first | (with_reducible first | exact HB.out | apply below_alloc | apply pw_below_drewN | apply below_drew1) | exact HB.out)⟩⟩
          case round =>
            clear H'
            try clear c1
            try clear c2
            try clear p2
            try clear c5
            try clear c6
            try clear c6b0
            try clear c6b1
            try clear c7
            try clear p2
            obtain ⟨x15_2, x16_2, rfl, HA, HK2, HO_15, HB⟩ := hrel
            cases gk with
            | zero => exact absurd HA.out (by simp [sizarref18_augment.l1])
            | succ k2 =>
              have H := HA.out
              clear HA
              simp only [sizarref18_augment.l1] at H
              by_cases c11 : x16_2 = a3
              · rw [if_pos c11] at H
                have c11b0 : (x16_2 == a3) = true := beq_iff_eq.mpr c11
                have c11b1 : (x16_2 != a3) = false := bne_eq_false_iff_eq.mpr c11
                clear c11
                obtain rfl := Option.some.inj H
                go_wp2
                repeat (go_quiet (fail); try go_wp2)
                go_ret
                exact ⟨_, by first | rfl | (simp [errW_none, errW_some] <;> rfl) | (simp [*, errW_none, errW_some] <;> rfl), by (with_reducible repeat (first | apply Kd.R_alloc | apply Kd.R_drewN | apply Kd.R_drew)); exact HO_15.out, by repeat (first | (with_reducible first | exact HB.out | apply below_alloc | apply pw_below_drewN | apply below_drew1) | exact HB.out)⟩
              · rw [if_neg c11] at H
                have c11b0 : (x16_2 == a3) = false := beq_eq_false_iff_ne.mpr c11
                have c11b1 : (x16_2 != a3) = true := bne_iff_ne.mpr c11
                by_cases c12 : 0 ≤ x16_2
                · rw [if_pos c12] at H
                  have c12b0 : decide (0 ≤ x16_2) = true := decide_eq_true c12
                  clear c12
                  by_cases c13 : x16_2 < (l2.length : Int)
                  · rw [if_pos c13] at H
                    have c13b0 : decide (x16_2 < (l2.length : Int)) = true := decide_eq_true c13
                    clear c13
                    by_cases c14 : (rd l2 x16_2) > 0
                    · rw [if_pos c14] at H
                      have c14b0 : decide (0 < (rd l2 x16_2)) = true := decide_eq_true c14
                      clear c14
                      obtain ⟨ji15, hji15⟩ : ∃ j_ : Int, (wrap64 ((rd l2 x16_2) - 1)) = j_ := ⟨_, rfl⟩
                      replace H : (if 0 ≤ (ji15) then (if (ji15) < (x15_2.length : Int) then (if (ji15) < (l0.length : Int) then (sizarref18_augment.l1 k2 l0 l2 a3 x11_1 (x15_2.set ((ji15) : Int).toNat (wrap64 ((rd x15_2 (ji15)) + x11_1))) ((rd_T61 l0 (ji15)).f0)) else (none)) else (none)) else (none)) = some r := by first | (rw [hji15] at H; exact H) | (simp only [hji15] at H ⊢; exact H)
                      have hji15w : (IntKind.i64.wrap ((rd l2 x16_2) - 1)) = ji15 := (i64_w _).trans hji15
                      by_cases c16 : 0 ≤ (ji15)
                      · rw [if_pos c16] at H
                        have c16b0 : decide (0 ≤ (ji15)) = true := decide_eq_true c16
                        clear c16
                        by_cases c17 : (ji15) < (x15_2.length : Int)
                        · rw [if_pos c17] at H
                          have c17b0 : decide ((ji15) < (x15_2.length : Int)) = true := decide_eq_true c17
                          clear c17
                          obtain ⟨y213, hy213⟩ : ∃ y_ : List Int, y_ = (x15_2.set ((ji15) : Int).toNat (wrap64 ((rd x15_2 (ji15)) + x11_1))) := ⟨_, rfl⟩
                          replace H : (if (ji15) < (l0.length : Int) then (sizarref18_augment.l1 k2 l0 l2 a3 x11_1 y213 ((rd_T61 l0 (ji15)).f0)) else (none)) = some r := by first | (rw [hy213]; with_reducible exact H) | (have H2_ := (Option.bind_some _ _).symm.trans H; rw [hy213]; with_reducible exact H2_) | (have H2_ := (Option.bind_some _ _).symm.trans H; with_reducible exact H2_) | with_reducible exact H | (rw [hy213]; exact H) | exact H
                          have Ny213 := Aside0.mk hy213
                          clear hy213
                          by_cases c19 : (ji15) < (l0.length : Int)
                          · rw [if_pos c19] at H
                            have c19b0 : decide ((ji15) < (l0.length : Int)) = true := decide_eq_true c19
                            clear c19
                            have H' := Aside0.mk H
                            clear H
                            have p210 : 0 ≤ (x16_2 : Int) := of_decide_eq_true (by first | (with_reducible assumption) | assumption)
                            have q210 : x16_2 < (l2.length : Int) := of_decide_eq_true (by first | (with_reducible assumption) | assumption)
                            obtain ⟨ad210, e210, hx210_0⟩ := Kd.at_int HR2.out x16_2 p210 q210
                            cases e210
                            replace hx210_0 := (HB.out.cell (World.block_lt_of_cell? w _ hx210_0)).trans hx210_0
                            replace p210 := eq_true p210
                            replace q210 := eq_true q210
                            have p211 : 0 ≤ (x16_2 : Int) := of_decide_eq_true (by first | (with_reducible assumption) | assumption)
                            have q211 : x16_2 < (l2.length : Int) := of_decide_eq_true (by first | (with_reducible assumption) | assumption)
                            obtain ⟨ad211, e211, hx211_0⟩ := Kd.at_int HR2.out x16_2 p211 q211
                            obtain rfl : ad210 = ad211 := (by injection e211)
                            replace hx211_0 := (HB.out.cell (World.block_lt_of_cell? w _ hx211_0)).trans hx211_0
                            replace p211 := eq_true p211
                            replace q211 := eq_true q211
                            obtain ⟨Ao20, co20, eo20⟩ := Kd.R_slice HO_15.out
                            subst eo20
                            have p212 : 0 ≤ ((ji15) : Int) := of_decide_eq_true (by first | (with_reducible assumption) | assumption)
                            have q212 : (ji15) < (x15_2.length : Int) := of_decide_eq_true (by first | (with_reducible assumption) | assumption)
                            obtain ⟨ad212, e212, hx212_0⟩ := Kd.at_int (Kd.R_reads' HO_15.out).2.2 (ji15) p212 q212
                            cases e212
                            replace p212 := eq_true p212
                            replace q212 := eq_true q212
                            have p18 : 0 ≤ ((ji15) : Int) := of_decide_eq_true (by first | (with_reducible assumption) | assumption)
                            have q18 : ((ji15) : Int) < ((x15_2.length : Int) : Int) := of_decide_eq_true (by first | (with_reducible assumption) | assumption)
                            obtain ⟨go18, co18, eo18, gb18, gl18, cl18, HG18⟩ := Kd.R_form HO_15.out (by omega)
                            (first | cases eo18 | (injection eo18 with ea_ en_ ec_; (first | subst ea_ | (injection ea_ with ea_; subst ea_)); subst ec_; clear en_))
                            have GB18 := Aside0.mk gb18
                            have GG18 := Aside0.mk HG18
                            clear gb18 gl18 HG18
                            (first | simp only [add_plain] at hx212_0 | skip)
                            obtain ⟨hx18_0, hf18_0⟩ := Kd.R_celln 0 HO_15.out ((ji15) : Int) p18 q18
                            replace p18 := eq_true p18
                            replace q18 := eq_true q18
                            have HP21 := Kd.R_putg HO_15.out ((ji15) : Int) (wrap64 ((rd x15_2 (ji15)) + x11_1))
                            go_wp2_with (first | ((with_reducible refine gate_store (t := 3) (p := 92) rfl ?_); (try (rw [drewN_self wr]; generalize hq_ : World.drewN wr _ = wr; have n0_ := Aside0.mk (Kd.R_at hq_ HO_15.out); have n1_ := Aside0.mk (below_at hq_ HB.out); clear hq_ HO_15 HB; have HO_15 := n0_; have HB := n1_; clear n0_ n1_; (try (have HP21 := Kd.R_putg HO_15.out ((ji15) : Int) (wrap64 ((rd x15_2 (ji15)) + x11_1)))))); refine store_event (t := 3) (p := 92) (v := ?vo_w22) (w1 := (wr.setCell ⟨go18, ((ji15) : Int).toNat, none⟩ (.int .i64 (wrap64 ((rd x15_2 (ji15)) + x11_1))))) ?hg ?ho ?hn ?hr ?_; (case ho => rfl); (case hg => rfl); (case hn => rfl); (case hr => first | (go_simp; done) | (go_simp; rfl)); intro w22 hw; have hg : wr.grownBy w22 (some go18) := (by rw [hw]; exact HP21.2); have hp_ : Kd.R (Kd.int .i64) 3 w22 w.heap.size (fun _ => True) (.slice (some ⟨go18, 0, none⟩) x15_2.length co20) y213 := (by rw [hw, Ny213.out]; exact HP21.1); clear HP21; have n0_ := Aside0.mk (hp_); have n1_ := Aside0.mk ((by rw [hw]; exact below_set (HB.out) GB18.out : Below w.heap.size w w22)); clear HO_15; clear HB; have HO_15 := n0_; have HB := n1_; clear n0_ n1_; clear hg hw hp_; have p214 : 0 ≤ ((ji15) : Int) := of_decide_eq_true (by first | (with_reducible assumption) | assumption); have q214 : (ji15) < (l0.length : Int) := of_decide_eq_true (by first | (with_reducible assumption) | assumption); obtain ⟨ad214, e214, hx214_0, hx214_1, hx214_2⟩ := at_T61 HR0.out (ji15) p214 q214; cases e214; replace hx214_0 := (HB.out.cell (World.block_lt_of_cell? w _ hx214_0)).trans hx214_0; replace hx214_1 := (HB.out.cell (World.block_lt_of_cell? w _ hx214_1)).trans hx214_1; replace hx214_2 := (HB.out.cell (World.block_lt_of_cell? w _ hx214_2)).trans hx214_2; replace p214 := eq_true p214; replace q214 := eq_true q214))
                            repeat (go_quiet (first | ((with_reducible refine gate_store (t := 3) (p := 92) rfl ?_); (try (rw [drewN_self wr]; generalize hq_ : World.drewN wr _ = wr; have n0_ := Aside0.mk (Kd.R_at hq_ HO_15.out); have n1_ := Aside0.mk (below_at hq_ HB.out); clear hq_ HO_15 HB; have HO_15 := n0_; have HB := n1_; clear n0_ n1_; (try (have HP21 := Kd.R_putg HO_15.out ((ji15) : Int) (wrap64 ((rd x15_2 (ji15)) + x11_1)))))); refine store_event (t := 3) (p := 92) (v := ?vo_w22) (w1 := (wr.setCell ⟨go18, ((ji15) : Int).toNat, none⟩ (.int .i64 (wrap64 ((rd x15_2 (ji15)) + x11_1))))) ?hg ?ho ?hn ?hr ?_; (case ho => rfl); (case hg => rfl); (case hn => rfl); (case hr => first | (go_simp; done) | (go_simp; rfl)); intro w22 hw; have hg : wr.grownBy w22 (some go18) := (by rw [hw]; exact HP21.2); have hp_ : Kd.R (Kd.int .i64) 3 w22 w.heap.size (fun _ => True) (.slice (some ⟨go18, 0, none⟩) x15_2.length co20) y213 := (by rw [hw, Ny213.out]; exact HP21.1); clear HP21; have n0_ := Aside0.mk (hp_); have n1_ := Aside0.mk ((by rw [hw]; exact below_set (HB.out) GB18.out : Below w.heap.size w w22)); clear HO_15; clear HB; have HO_15 := n0_; have HB := n1_; clear n0_ n1_; clear hg hw hp_; have p214 : 0 ≤ ((ji15) : Int) := of_decide_eq_true (by first | (with_reducible assumption) | assumption); have q214 : (ji15) < (l0.length : Int) := of_decide_eq_true (by first | (with_reducible assumption) | assumption); obtain ⟨ad214, e214, hx214_0, hx214_1, hx214_2⟩ := at_T61 HR0.out (ji15) p214 q214; cases e214; replace hx214_0 := (HB.out.cell (World.block_lt_of_cell? w _ hx214_0)).trans hx214_0; replace hx214_1 := (HB.out.cell (World.block_lt_of_cell? w _ hx214_1)).trans hx214_1; replace hx214_2 := (HB.out.cell (World.block_lt_of_cell? w _ hx214_2)).trans hx214_2; replace p214 := eq_true p214; replace q214 := eq_true q214)); try go_wp2_with (first | ((with_reducible refine gate_store (t := 3) (p := 92) rfl ?_); (try (rw [drewN_self wr]; generalize hq_ : World.drewN wr _ = wr; have n0_ := Aside0.mk (Kd.R_at hq_ HO_15.out); have n1_ := Aside0.mk (below_at hq_ HB.out); clear hq_ HO_15 HB; have HO_15 := n0_; have HB := n1_; clear n0_ n1_; (try (have HP21 := Kd.R_putg HO_15.out ((ji15) : Int) (wrap64 ((rd x15_2 (ji15)) + x11_1)))))); refine store_event (t := 3) (p := 92) (v := ?vo_w22) (w1 := (wr.setCell ⟨go18, ((ji15) : Int).toNat, none⟩ (.int .i64 (wrap64 ((rd x15_2 (ji15)) + x11_1))))) ?hg ?ho ?hn ?hr ?_; (case ho => rfl); (case hg => rfl); (case hn => rfl); (case hr => first | (go_simp; done) | (go_simp; rfl)); intro w22 hw; have hg : wr.grownBy w22 (some go18) := (by rw [hw]; exact HP21.2); have hp_ : Kd.R (Kd.int .i64) 3 w22 w.heap.size (fun _ => True) (.slice (some ⟨go18, 0, none⟩) x15_2.length co20) y213 := (by rw [hw, Ny213.out]; exact HP21.1); clear HP21; have n0_ := Aside0.mk (hp_); have n1_ := Aside0.mk ((by rw [hw]; exact below_set (HB.out) GB18.out : Below w.heap.size w w22)); clear HO_15; clear HB; have HO_15 := n0_; have HB := n1_; clear n0_ n1_; clear hg hw hp_; have p214 : 0 ≤ ((ji15) : Int) := of_decide_eq_true (by first | (with_reducible assumption) | assumption); have q214 : (ji15) < (l0.length : Int) := of_decide_eq_true (by first | (with_reducible assumption) | assumption); obtain ⟨ad214, e214, hx214_0, hx214_1, hx214_2⟩ := at_T61 HR0.out (ji15) p214 q214; cases e214; replace hx214_0 := (HB.out.cell (World.block_lt_of_cell? w _ hx214_0)).trans hx214_0; replace hx214_1 := (HB.out.cell (World.block_lt_of_cell? w _ hx214_1)).trans hx214_1; replace hx214_2 := (HB.out.cell (World.block_lt_of_cell? w _ hx214_2)).trans hx214_2; replace p214 := eq_true p214; replace q214 := eq_true q214)))
                            go_roundg k2
                            case measure => have := HK1.out; have := HK2.out; omega
                            case rel => exact ⟨(y213), ((rd_T61 l0 (ji15)).f0), (by first | rfl | (simp; done) | (simp only [← hji15] <;> (first | rfl | simp)) | (simp [*]; done)), H', ⟨by have := HK1.out; have := HK2.out; omega⟩, ⟨by (with_reducible repeat (first | apply Kd.R_alloc | apply Kd.R_drewN | apply Kd.R_drew)); exact HO_15.out⟩, ⟨by repeat (first | (with_reducible first | exact HB.out | apply below_alloc | apply pw_below_drewN | apply below_drew1) | exact HB.out)⟩⟩
                          · rw [if_neg c19] at H
                            exact absurd H (by simp)
                        · rw [if_neg c17] at H
                          exact absurd H (by simp)
                      · rw [if_neg c16] at H
                        exact absurd H (by simp)
                    · rw [if_neg c14] at H
                      have c14b0 : decide (0 < (rd l2 x16_2)) = false := decide_eq_false c14
                      clear c14
                      obtain ⟨ji23, hji23⟩ : ∃ j_ : Int, (wrap64 ((wrap64 (-(rd l2 x16_2))) - 1)) = j_ := ⟨_, rfl⟩
                      replace H : (if 0 ≤ (ji23) then (if (ji23) < (x15_2.length : Int) then (if (ji23) < (l0.length : Int) then (sizarref18_augment.l1 k2 l0 l2 a3 x11_1 (x15_2.set ((ji23) : Int).toNat (wrap64 ((rd x15_2 (ji23)) - x11_1))) ((rd_T61 l0 (ji23)).f1)) else (none)) else (none)) else (none)) = some r := by first | (rw [hji23] at H; exact H) | (simp only [hji23] at H ⊢; exact H)
                      have hji23w : (IntKind.i64.wrap ((wrap64 (-(rd l2 x16_2))) - 1)) = ji23 := (i64_w _).trans hji23
                      by_cases c24 : 0 ≤ (ji23)
                      · rw [if_pos c24] at H
                        have c24b0 : decide (0 ≤ (ji23)) = true := decide_eq_true c24
                        clear c24
                        by_cases c25 : (ji23) < (x15_2.length : Int)
                        · rw [if_pos c25] at H
                          have c25b0 : decide ((ji23) < (x15_2.length : Int)) = true := decide_eq_true c25
                          clear c25
                          obtain ⟨y217, hy217⟩ : ∃ y_ : List Int, y_ = (x15_2.set ((ji23) : Int).toNat (wrap64 ((rd x15_2 (ji23)) - x11_1))) := ⟨_, rfl⟩
                          replace H : (if (ji23) < (l0.length : Int) then (sizarref18_augment.l1 k2 l0 l2 a3 x11_1 y217 ((rd_T61 l0 (ji23)).f1)) else (none)) = some r := by first | (rw [hy217]; with_reducible exact H) | (have H2_ := (Option.bind_some _ _).symm.trans H; rw [hy217]; with_reducible exact H2_) | (have H2_ := (Option.bind_some _ _).symm.trans H; with_reducible exact H2_) | with_reducible exact H | (rw [hy217]; exact H) | exact H
                          have Ny217 := Aside0.mk hy217
                          clear hy217
                          by_cases c27 : (ji23) < (l0.length : Int)
                          · rw [if_pos c27] at H
                            have c27b0 : decide ((ji23) < (l0.length : Int)) = true := decide_eq_true c27
                            clear c27
                            have H' := Aside0.mk H
                            clear H
                            have p210 : 0 ≤ (x16_2 : Int) := of_decide_eq_true (by first | (with_reducible assumption) | assumption)
                            have q210 : x16_2 < (l2.length : Int) := of_decide_eq_true (by first | (with_reducible assumption) | assumption)
                            obtain ⟨ad210, e210, hx210_0⟩ := Kd.at_int HR2.out x16_2 p210 q210
                            cases e210
                            replace hx210_0 := (HB.out.cell (World.block_lt_of_cell? w _ hx210_0)).trans hx210_0
                            replace p210 := eq_true p210
                            replace q210 := eq_true q210
                            have p215 : 0 ≤ (x16_2 : Int) := of_decide_eq_true (by first | (with_reducible assumption) | assumption)
                            have q215 : x16_2 < (l2.length : Int) := of_decide_eq_true (by first | (with_reducible assumption) | assumption)
                            obtain ⟨ad215, e215, hx215_0⟩ := Kd.at_int HR2.out x16_2 p215 q215
                            obtain rfl : ad210 = ad215 := (by injection e215)
                            replace hx215_0 := (HB.out.cell (World.block_lt_of_cell? w _ hx215_0)).trans hx215_0
                            replace p215 := eq_true p215
                            replace q215 := eq_true q215
                            obtain ⟨Ao28, co28, eo28⟩ := Kd.R_slice HO_15.out
                            subst eo28
                            have p216 : 0 ≤ ((ji23) : Int) := of_decide_eq_true (by first | (with_reducible assumption) | assumption)
                            have q216 : (ji23) < (x15_2.length : Int) := of_decide_eq_true (by first | (with_reducible assumption) | assumption)
                            obtain ⟨ad216, e216, hx216_0⟩ := Kd.at_int (Kd.R_reads' HO_15.out).2.2 (ji23) p216 q216
                            cases e216
                            replace p216 := eq_true p216
                            replace q216 := eq_true q216
                            have p26 : 0 ≤ ((ji23) : Int) := of_decide_eq_true (by first | (with_reducible assumption) | assumption)
                            have q26 : ((ji23) : Int) < ((x15_2.length : Int) : Int) := of_decide_eq_true (by first | (with_reducible assumption) | assumption)
                            obtain ⟨go26, co26, eo26, gb26, gl26, cl26, HG26⟩ := Kd.R_form HO_15.out (by omega)
                            (first | cases eo26 | (injection eo26 with ea_ en_ ec_; (first | subst ea_ | (injection ea_ with ea_; subst ea_)); subst ec_; clear en_))
                            have GB26 := Aside0.mk gb26
                            have GG26 := Aside0.mk HG26
                            clear gb26 gl26 HG26
                            (first | simp only [add_plain] at hx216_0 | skip)
                            obtain ⟨hx26_0, hf26_0⟩ := Kd.R_celln 0 HO_15.out ((ji23) : Int) p26 q26
                            replace p26 := eq_true p26
                            replace q26 := eq_true q26
                            have HP29 := Kd.R_putg HO_15.out ((ji23) : Int) (wrap64 ((rd x15_2 (ji23)) - x11_1))
                            go_wp2_with (first | ((with_reducible refine gate_store (t := 3) (p := 112) rfl ?_); (try (rw [drewN_self wr]; generalize hq_ : World.drewN wr _ = wr; have n0_ := Aside0.mk (Kd.R_at hq_ HO_15.out); have n1_ := Aside0.mk (below_at hq_ HB.out); clear hq_ HO_15 HB; have HO_15 := n0_; have HB := n1_; clear n0_ n1_; (try (have HP29 := Kd.R_putg HO_15.out ((ji23) : Int) (wrap64 ((rd x15_2 (ji23)) - x11_1)))))); refine store_event (t := 3) (p := 112) (v := ?vo_w30) (w1 := (wr.setCell ⟨go26, ((ji23) : Int).toNat, none⟩ (.int .i64 (wrap64 ((rd x15_2 (ji23)) - x11_1))))) ?hg ?ho ?hn ?hr ?_; (case ho => rfl); (case hg => rfl); (case hn => rfl); (case hr => first | (go_simp; done) | (go_simp; rfl)); intro w30 hw; have hg : wr.grownBy w30 (some go26) := (by rw [hw]; exact HP29.2); have hp_ : Kd.R (Kd.int .i64) 3 w30 w.heap.size (fun _ => True) (.slice (some ⟨go26, 0, none⟩) x15_2.length co28) y217 := (by rw [hw, Ny217.out]; exact HP29.1); clear HP29; have n0_ := Aside0.mk (hp_); have n1_ := Aside0.mk ((by rw [hw]; exact below_set (HB.out) GB26.out : Below w.heap.size w w30)); clear HO_15; clear HB; have HO_15 := n0_; have HB := n1_; clear n0_ n1_; clear hg hw hp_; have p218 : 0 ≤ ((ji23) : Int) := of_decide_eq_true (by first | (with_reducible assumption) | assumption); have q218 : (ji23) < (l0.length : Int) := of_decide_eq_true (by first | (with_reducible assumption) | assumption); obtain ⟨ad218, e218, hx218_0, hx218_1, hx218_2⟩ := at_T61 HR0.out (ji23) p218 q218; cases e218; replace hx218_0 := (HB.out.cell (World.block_lt_of_cell? w _ hx218_0)).trans hx218_0; replace hx218_1 := (HB.out.cell (World.block_lt_of_cell? w _ hx218_1)).trans hx218_1; replace hx218_2 := (HB.out.cell (World.block_lt_of_cell? w _ hx218_2)).trans hx218_2; replace p218 := eq_true p218; replace q218 := eq_true q218))
                            repeat (go_quiet (first | ((with_reducible refine gate_store (t := 3) (p := 112) rfl ?_); (try (rw [drewN_self wr]; generalize hq_ : World.drewN wr _ = wr; have n0_ := Aside0.mk (Kd.R_at hq_ HO_15.out); have n1_ := Aside0.mk (below_at hq_ HB.out); clear hq_ HO_15 HB; have HO_15 := n0_; have HB := n1_; clear n0_ n1_; (try (have HP29 := Kd.R_putg HO_15.out ((ji23) : Int) (wrap64 ((rd x15_2 (ji23)) - x11_1)))))); refine store_event (t := 3) (p := 112) (v := ?vo_w30) (w1 := (wr.setCell ⟨go26, ((ji23) : Int).toNat, none⟩ (.int .i64 (wrap64 ((rd x15_2 (ji23)) - x11_1))))) ?hg ?ho ?hn ?hr ?_; (case ho => rfl); (case hg => rfl); (case hn => rfl); (case hr => first | (go_simp; done) | (go_simp; rfl)); intro w30 hw; have hg : wr.grownBy w30 (some go26) := (by rw [hw]; exact HP29.2); have hp_ : Kd.R (Kd.int .i64) 3 w30 w.heap.size (fun _ => True) (.slice (some ⟨go26, 0, none⟩) x15_2.length co28) y217 := (by rw [hw, Ny217.out]; exact HP29.1); clear HP29; have n0_ := Aside0.mk (hp_); have n1_ := Aside0.mk ((by rw [hw]; exact below_set (HB.out) GB26.out : Below w.heap.size w w30)); clear HO_15; clear HB; have HO_15 := n0_; have HB := n1_; clear n0_ n1_; clear hg hw hp_; have p218 : 0 ≤ ((ji23) : Int) := of_decide_eq_true (by first | (with_reducible assumption) | assumption); have q218 : (ji23) < (l0.length : Int) := of_decide_eq_true (by first | (with_reducible assumption) | assumption); obtain ⟨ad218, e218, hx218_0, hx218_1, hx218_2⟩ := at_T61 HR0.out (ji23) p218 q218; cases e218; replace hx218_0 := (HB.out.cell (World.block_lt_of_cell? w _ hx218_0)).trans hx218_0; replace hx218_1 := (HB.out.cell (World.block_lt_of_cell? w _ hx218_1)).trans hx218_1; replace hx218_2 := (HB.out.cell (World.block_lt_of_cell? w _ hx218_2)).trans hx218_2; replace p218 := eq_true p218; replace q218 := eq_true q218)); try go_wp2_with (first | ((with_reducible refine gate_store (t := 3) (p := 112) rfl ?_); (try (rw [drewN_self wr]; generalize hq_ : World.drewN wr _ = wr; have n0_ := Aside0.mk (Kd.R_at hq_ HO_15.out); have n1_ := Aside0.mk (below_at hq_ HB.out); clear hq_ HO_15 HB; have HO_15 := n0_; have HB := n1_; clear n0_ n1_; (try (have HP29 := Kd.R_putg HO_15.out ((ji23) : Int) (wrap64 ((rd x15_2 (ji23)) - x11_1)))))); refine store_event (t := 3) (p := 112) (v := ?vo_w30) (w1 := (wr.setCell ⟨go26, ((ji23) : Int).toNat, none⟩ (.int .i64 (wrap64 ((rd x15_2 (ji23)) - x11_1))))) ?hg ?ho ?hn ?hr ?_; (case ho => rfl); (case hg => rfl); (case hn => rfl); (case hr => first | (go_simp; done) | (go_simp; rfl)); intro w30 hw; have hg : wr.grownBy w30 (some go26) := (by rw [hw]; exact HP29.2); have hp_ : Kd.R (Kd.int .i64) 3 w30 w.heap.size (fun _ => True) (.slice (some ⟨go26, 0, none⟩) x15_2.length co28) y217 := (by rw [hw, Ny217.out]; exact HP29.1); clear HP29; have n0_ := Aside0.mk (hp_); have n1_ := Aside0.mk ((by rw [hw]; exact below_set (HB.out) GB26.out : Below w.heap.size w w30)); clear HO_15; clear HB; have HO_15 := n0_; have HB := n1_; clear n0_ n1_; clear hg hw hp_; have p218 : 0 ≤ ((ji23) : Int) := of_decide_eq_true (by first | (with_reducible assumption) | assumption); have q218 : (ji23) < (l0.length : Int) := of_decide_eq_true (by first | (with_reducible assumption) | assumption); obtain ⟨ad218, e218, hx218_0, hx218_1, hx218_2⟩ := at_T61 HR0.out (ji23) p218 q218; cases e218; replace hx218_0 := (HB.out.cell (World.block_lt_of_cell? w _ hx218_0)).trans hx218_0; replace hx218_1 := (HB.out.cell (World.block_lt_of_cell? w _ hx218_1)).trans hx218_1; replace hx218_2 := (HB.out.cell (World.block_lt_of_cell? w _ hx218_2)).trans hx218_2; replace p218 := eq_true p218; replace q218 := eq_true q218)))
                            go_roundg k2
                            case measure => have := HK1.out; have := HK2.out; omega
                            case rel => exact ⟨(y217), ((rd_T61 l0 (ji23)).f1), (by first | rfl | (simp; done) | (simp only [← hji23] <;> (first | rfl | simp)) | (simp [*]; done)), H', ⟨by have := HK1.out; have := HK2.out; omega⟩, ⟨by (with_reducible repeat (first | apply Kd.R_alloc | apply Kd.R_drewN | apply Kd.R_drew)); exact HO_15.out⟩, ⟨by repeat (first | (with_reducible first | exact HB.out | apply below_alloc | apply pw_below_drewN | apply below_drew1) | exact HB.out)⟩⟩
                          · rw [if_neg c27] at H
                            exact absurd H (by simp)
                        · rw [if_neg c25] at H
                          exact absurd H (by simp)
                      · rw [if_neg c24] at H
                        exact absurd H (by simp)
                  · rw [if_neg c13] at H
                    exact absurd H (by simp)
                · rw [if_neg c12] at H
                  exact absurd H (by simp)
        · rw [if_neg c7] at H
          exact absurd H (by simp)
      · rw [if_neg c6] at H
        have c6b0 : (x12_1 == a3) = false := beq_eq_false_iff_ne.mpr c6
        have c6b1 : (x12_1 != a3) = true := bne_iff_ne.mpr c6
        by_cases c31 : 0 ≤ x12_1
        · rw [if_pos c31] at H
          have c31b0 : decide (0 ≤ x12_1) = true := decide_eq_true c31
          clear c31
          by_cases c32 : x12_1 < (l2.length : Int)
          · rw [if_pos c32] at H
            have c32b0 : decide (x12_1 < (l2.length : Int)) = true := decide_eq_true c32
            clear c32
            by_cases c33 : (rd l2 x12_1) > 0
            · rw [if_pos c33] at H
              have c33b0 : decide (0 < (rd l2 x12_1)) = true := decide_eq_true c33
              clear c33
              obtain ⟨ji34, hji34⟩ : ∃ j_ : Int, (wrap64 ((rd l2 x12_1) - 1)) = j_ := ⟨_, rfl⟩
              replace H : (if 0 ≤ (ji34) then (if (ji34) < (l0.length : Int) then (if (ji34) < (l1.length : Int) then (sizarref18_augment.l0 k1 l0 l1 l2 a3 a4 (mn x11_1 (wrap64 (((rd_T61 l0 (ji34)).f2) - (rd l1 (ji34))))) ((rd_T61 l0 (ji34)).f0)) else (none)) else (none)) else (none)) = some r := by first | (rw [hji34] at H; exact H) | (simp only [hji34] at H ⊢; exact H)
              have hji34w : (IntKind.i64.wrap ((rd l2 x12_1) - 1)) = ji34 := (i64_w _).trans hji34
              by_cases c35 : 0 ≤ (ji34)
              · rw [if_pos c35] at H
                have c35b0 : decide (0 ≤ (ji34)) = true := decide_eq_true c35
                clear c35
                by_cases c36 : (ji34) < (l0.length : Int)
                · rw [if_pos c36] at H
                  have c36b0 : decide ((ji34) < (l0.length : Int)) = true := decide_eq_true c36
                  clear c36
                  by_cases c37 : (ji34) < (l1.length : Int)
                  · rw [if_pos c37] at H
                    have c37b0 : decide ((ji34) < (l1.length : Int)) = true := decide_eq_true c37
                    clear c37
                    obtain ⟨ji38, hji38⟩ : ∃ j_ : Int, (mn x11_1 (wrap64 (((rd_T61 l0 (ji34)).f2) - (rd l1 (ji34))))) = j_ := ⟨_, rfl⟩
                    replace H : (sizarref18_augment.l0 k1 l0 l1 l2 a3 a4 ji38 ((rd_T61 l0 (ji34)).f0)) = some r := by first | (rw [hji38] at H; exact H) | (simp only [hji38] at H ⊢; exact H)
                    have hji38_ : (if (wrap64 (((rd_T61 l0 (ji34)).f2) - (rd l1 (ji34)))) < x11_1 then (wrap64 (((rd_T61 l0 (ji34)).f2) - (rd l1 (ji34)))) else x11_1) = ji38 := hji38
                    have H' := Aside0.mk H
                    clear H
                    have p196 : 0 ≤ (x12_1 : Int) := of_decide_eq_true (by first | (with_reducible assumption) | assumption)
                    have q196 : x12_1 < (l2.length : Int) := of_decide_eq_true (by first | (with_reducible assumption) | assumption)
                    obtain ⟨ad196, e196, hx196_0⟩ := Kd.at_int HR2.out x12_1 p196 q196
                    cases e196
                    replace hx196_0 := (HB.out.cell (World.block_lt_of_cell? w _ hx196_0)).trans hx196_0
                    replace p196 := eq_true p196
                    replace q196 := eq_true q196
                    have p197 : 0 ≤ (x12_1 : Int) := of_decide_eq_true (by first | (with_reducible assumption) | assumption)
                    have q197 : x12_1 < (l2.length : Int) := of_decide_eq_true (by first | (with_reducible assumption) | assumption)
                    obtain ⟨ad197, e197, hx197_0⟩ := Kd.at_int HR2.out x12_1 p197 q197
                    obtain rfl : ad196 = ad197 := (by injection e197)
                    replace hx197_0 := (HB.out.cell (World.block_lt_of_cell? w _ hx197_0)).trans hx197_0
                    replace p197 := eq_true p197
                    replace q197 := eq_true q197
                    have p198 : 0 ≤ ((ji34) : Int) := of_decide_eq_true (by first | (with_reducible assumption) | assumption)
                    have q198 : (ji34) < (l0.length : Int) := of_decide_eq_true (by first | (with_reducible assumption) | assumption)
                    obtain ⟨ad198, e198, hx198_0, hx198_1, hx198_2⟩ := at_T61 HR0.out (ji34) p198 q198
                    cases e198
                    replace hx198_0 := (HB.out.cell (World.block_lt_of_cell? w _ hx198_0)).trans hx198_0
                    replace hx198_1 := (HB.out.cell (World.block_lt_of_cell? w _ hx198_1)).trans hx198_1
                    replace hx198_2 := (HB.out.cell (World.block_lt_of_cell? w _ hx198_2)).trans hx198_2
                    replace p198 := eq_true p198
                    replace q198 := eq_true q198
                    have p199 : 0 ≤ ((ji34) : Int) := of_decide_eq_true (by first | (with_reducible assumption) | assumption)
                    have q199 : (ji34) < (l1.length : Int) := of_decide_eq_true (by first | (with_reducible assumption) | assumption)
                    obtain ⟨ad199, e199, hx199_0⟩ := Kd.at_int HR1.out (ji34) p199 q199
                    cases e199
                    replace hx199_0 := (HB.out.cell (World.block_lt_of_cell? w _ hx199_0)).trans hx199_0
                    replace p199 := eq_true p199
                    replace q199 := eq_true q199
                    have p200 : 0 ≤ ((ji34) : Int) := of_decide_eq_true (by first | (with_reducible assumption) | assumption)
                    have q200 : (ji34) < (l0.length : Int) := of_decide_eq_true (by first | (with_reducible assumption) | assumption)
                    obtain ⟨ad200, e200, hx200_0, hx200_1, hx200_2⟩ := at_T61 HR0.out (ji34) p200 q200
                    obtain rfl : ad198 = ad200 := (by injection e200)
                    replace hx200_0 := (HB.out.cell (World.block_lt_of_cell? w _ hx200_0)).trans hx200_0
                    replace hx200_1 := (HB.out.cell (World.block_lt_of_cell? w _ hx200_1)).trans hx200_1
                    replace hx200_2 := (HB.out.cell (World.block_lt_of_cell? w _ hx200_2)).trans hx200_2
                    replace p200 := eq_true p200
                    replace q200 := eq_true q200
                    go_wp2
                    repeat (go_quiet (fail); try go_wp2)
                    go_roundg k1
                    case measure => have := HK1.out; omega
                    case rel => exact ⟨(ji38), ((rd_T61 l0 (ji34)).f0), (by first | rfl | (simp; done) | (simp only [← hji38] <;> (first | rfl | simp)) | (simp [*]; done)), (by first | rfl | (simp; done) | (simp only [← hji34] <;> (first | rfl | simp)) | (simp [*]; done)), H', ⟨by have := HK1.out; omega⟩, ⟨by repeat (first | (with_reducible first | exact HB.out | apply below_alloc | apply pw_below_drewN | apply below_drew1) | exact HB.out)⟩⟩
                  · rw [if_neg c37] at H
                    exact absurd H (by simp)
                · rw [if_neg c36] at H
                  exact absurd H (by simp)
              · rw [if_neg c35] at H
                exact absurd H (by simp)
            · rw [if_neg c33] at H
              have c33b0 : decide (0 < (rd l2 x12_1)) = false := decide_eq_false c33
              clear c33
              obtain ⟨ji39, hji39⟩ : ∃ j_ : Int, (wrap64 ((wrap64 (-(rd l2 x12_1))) - 1)) = j_ := ⟨_, rfl⟩
              replace H : (if 0 ≤ (ji39) then (if (ji39) < (l1.length : Int) then (if (ji39) < (l0.length : Int) then (sizarref18_augment.l0 k1 l0 l1 l2 a3 a4 (mn x11_1 (rd l1 (ji39))) ((rd_T61 l0 (ji39)).f1)) else (none)) else (none)) else (none)) = some r := by first | (rw [hji39] at H; exact H) | (simp only [hji39] at H ⊢; exact H)
              have hji39w : (IntKind.i64.wrap ((wrap64 (-(rd l2 x12_1))) - 1)) = ji39 := (i64_w _).trans hji39
              by_cases c40 : 0 ≤ (ji39)
              · rw [if_pos c40] at H
                have c40b0 : decide (0 ≤ (ji39)) = true := decide_eq_true c40
                clear c40
                by_cases c41 : (ji39) < (l1.length : Int)
                · rw [if_pos c41] at H
                  have c41b0 : decide ((ji39) < (l1.length : Int)) = true := decide_eq_true c41
                  clear c41
                  obtain ⟨ji42, hji42⟩ : ∃ j_ : Int, (mn x11_1 (rd l1 (ji39))) = j_ := ⟨_, rfl⟩
                  replace H : (if (ji39) < (l0.length : Int) then (sizarref18_augment.l0 k1 l0 l1 l2 a3 a4 ji42 ((rd_T61 l0 (ji39)).f1)) else (none)) = some r := by first | (rw [hji42] at H; exact H) | (simp only [hji42] at H ⊢; exact H)
                  have hji42_ : (if (rd l1 (ji39)) < x11_1 then (rd l1 (ji39)) else x11_1) = ji42 := hji42
                  by_cases c43 : (ji39) < (l0.length : Int)
                  · rw [if_pos c43] at H
                    have c43b0 : decide ((ji39) < (l0.length : Int)) = true := decide_eq_true c43
                    clear c43
                    have H' := Aside0.mk H
                    clear H
                    have p196 : 0 ≤ (x12_1 : Int) := of_decide_eq_true (by first | (with_reducible assumption) | assumption)
                    have q196 : x12_1 < (l2.length : Int) := of_decide_eq_true (by first | (with_reducible assumption) | assumption)
                    obtain ⟨ad196, e196, hx196_0⟩ := Kd.at_int HR2.out x12_1 p196 q196
                    cases e196
                    replace hx196_0 := (HB.out.cell (World.block_lt_of_cell? w _ hx196_0)).trans hx196_0
                    replace p196 := eq_true p196
                    replace q196 := eq_true q196
                    have p201 : 0 ≤ (x12_1 : Int) := of_decide_eq_true (by first | (with_reducible assumption) | assumption)
                    have q201 : x12_1 < (l2.length : Int) := of_decide_eq_true (by first | (with_reducible assumption) | assumption)
                    obtain ⟨ad201, e201, hx201_0⟩ := Kd.at_int HR2.out x12_1 p201 q201
                    obtain rfl : ad196 = ad201 := (by injection e201)
                    replace hx201_0 := (HB.out.cell (World.block_lt_of_cell? w _ hx201_0)).trans hx201_0
                    replace p201 := eq_true p201
                    replace q201 := eq_true q201
                    have p202 : 0 ≤ ((ji39) : Int) := of_decide_eq_true (by first | (with_reducible assumption) | assumption)
                    have q202 : (ji39) < (l1.length : Int) := of_decide_eq_true (by first | (with_reducible assumption) | assumption)
                    obtain ⟨ad202, e202, hx202_0⟩ := Kd.at_int HR1.out (ji39) p202 q202
                    cases e202
                    replace hx202_0 := (HB.out.cell (World.block_lt_of_cell? w _ hx202_0)).trans hx202_0
                    replace p202 := eq_true p202
                    replace q202 := eq_true q202
                    have p203 : 0 ≤ ((ji39) : Int) := of_decide_eq_true (by first | (with_reducible assumption) | assumption)
                    have q203 : (ji39) < (l0.length : Int) := of_decide_eq_true (by first | (with_reducible assumption) | assumption)
                    obtain ⟨ad203, e203, hx203_0, hx203_1, hx203_2⟩ := at_T61 HR0.out (ji39) p203 q203
                    cases e203
                    replace hx203_0 := (HB.out.cell (World.block_lt_of_cell? w _ hx203_0)).trans hx203_0
                    replace hx203_1 := (HB.out.cell (World.block_lt_of_cell? w _ hx203_1)).trans hx203_1
                    replace hx203_2 := (HB.out.cell (World.block_lt_of_cell? w _ hx203_2)).trans hx203_2
                    replace p203 := eq_true p203
                    replace q203 := eq_true q203
                    go_wp2
                    repeat (go_quiet (fail); try go_wp2)
                    go_roundg k1
                    case measure => have := HK1.out; omega
                    case rel => exact ⟨(ji42), ((rd_T61 l0 (ji39)).f1), (by first | rfl | (simp; done) | (simp only [← hji42] <;> (first | rfl | simp)) | (simp [*]; done)), (by first | rfl | (simp; done) | (simp only [← hji39] <;> (first | rfl | simp)) | (simp [*]; done)), H', ⟨by have := HK1.out; omega⟩, ⟨by repeat (first | (with_reducible first | exact HB.out | apply below_alloc | apply pw_below_drewN | apply below_drew1) | exact HB.out)⟩⟩
                  · rw [if_neg c43] at H
                    exact absurd H (by simp)
                · rw [if_neg c41] at H
                  exact absurd H (by simp)
              · rw [if_neg c40] at H
                exact absurd H (by simp)
          · rw [if_neg c32] at H
            exact absurd H (by simp)
        · rw [if_neg c31] at H
          exact absurd H (by simp)
def sizarref18_Max.l0 : Nat → Int → List (S61) → Int → Int → List Int → Option (List Int × List Bool × Int)
  | 0, _, _, _, _, _ => none
  | k + 1, x0, x1, x2, x3, x11 => (sizarref18_search.f k x0 x1 x11 x2).bind fun bt223 => (if 0 ≤ x3 then (if x3 < (bt223.1.length : Int) then (if rdOf false bt223.1 x3 = true then ((sizarref18_augment.f k x1 x11 bt223.2 x2 x3).bind fun t230 => (sizarref18_Max.l0 k x0 x1 x2 x3 t230)) else (some (x11, bt223.1, 0))) else (none)) else (none))
def sizarref18_Max.f (k : Nat) (a0 : Int) (l1 : List (S61)) (a2 : Int) (a3 : Int) : Option (List Int × List Bool × Int) := (sizarref18_ends.f k a0 l1 a2 a3).bind fun t219 => (if t219 = true then (if 0 ≤ (l1.length : Int) then (if ((l1.length : Int) : Int).toNat ≤ 35184372088832 then (sizarref18_Max.l0 k a0 l1 a2 a3 (List.replicate ((l1.length : Int) : Int).toNat 0)) else (none)) else (none)) else (some (([] : List Int), ([] : List Bool), 180)))
set_option maxHeartbeats 8000000 in
set_option maxRecDepth 100000 in
theorem sizarref18_Max.calls (k : Nat) (a0 : Int) (A1 : Option Addr) (c1 : Nat) (l1 : List (S61)) (a2 : Int) (a3 : Int) (r1 : List Int) (r2 : List Bool) (r3 : Int) (w : World) (hr1 : Kd.C k61 w A1 l1.length l1) (hc1 : l1.length ≤ c1) (h : sizarref18_Max.f k a0 l1 a2 a3 = some (r1, r2, r3)) :
    Calls Try.prog 28 #[.int .i64 a0, .slice A1 l1.length c1, .int .i64 a2, .int .i64 a3] w fun e w' => ∃ v0_ v1_ : Value, e = .returned (.tuple #[v0_, v1_, .int .i64 r3]) ∧ Kd.R (Kd.int .i64) 3 w' w.heap.size (fun _ => True) v0_ r1 ∧ Kd.R Kd.bool 4 w' w.heap.size (fun _ => True) v1_ r2 ∧ Below w.heap.size w w' := by
  have HR1 := Aside0.mk hr1
  have HC1 := Aside0.mk hc1
  clear hr1 hc1
  have HB := Aside0.mk (Below.refl w.heap.size w)
  have H : ((sizarref18_ends.f k a0 l1 a2 a3).bind fun t219 => (if t219 = true then (if 0 ≤ (l1.length : Int) then (if ((l1.length : Int) : Int).toNat ≤ 35184372088832 then (sizarref18_Max.l0 k a0 l1 a2 a3 (List.replicate ((l1.length : Int) : Int).toNat 0)) else (none)) else (none)) else (some (([] : List Int), ([] : List Bool), 180)))) = some (r1, r2, r3) := h
  clear h
  replace H := Option.bind_eq_some_iff.mp H
  obtain ⟨t219, A50, H⟩ := H
  replace H : (if t219 = true then (if 0 ≤ (l1.length : Int) then (if ((l1.length : Int) : Int).toNat ≤ 35184372088832 then (sizarref18_Max.l0 k a0 l1 a2 a3 (List.replicate ((l1.length : Int) : Int).toNat 0)) else (none)) else (none)) else (some (([] : List Int), ([] : List Bool), 180))) = some (r1, r2, r3) := H
  have A5 := Aside0.mk A50
  clear A50
  by_cases c6 : t219 = true
  · subst c6
    have H1 : (if 0 ≤ (l1.length : Int) then (if ((l1.length : Int) : Int).toNat ≤ 35184372088832 then (sizarref18_Max.l0 k a0 l1 a2 a3 (List.replicate ((l1.length : Int) : Int).toNat 0)) else (none)) else (none)) = some (r1, r2, r3) := by rw [if_pos rfl] at H; exact H
    clear H
    have H := H1
    clear H1
    by_cases c7 : 0 ≤ (l1.length : Int)
    · rw [if_pos c7] at H
      have c7b0 := eq_true c7
      have c7b1 : decide (0 ≤ (l1.length : Int)) = true := decide_eq_true c7
      clear c7
      by_cases c8 : ((l1.length : Int) : Int).toNat ≤ 35184372088832
      · rw [if_pos c8] at H
        have c8b0 := eq_true c8
        have c8b1 : decide (((l1.length : Int) : Int).toNat ≤ 35184372088832) = true := decide_eq_true c8
        clear c8
        obtain ⟨y220, hy220⟩ : ∃ y_ : List Int, y_ = (List.replicate ((l1.length : Int) : Int).toNat 0) := ⟨_, rfl⟩
        replace H : (sizarref18_Max.l0 k a0 l1 a2 a3 y220) = some (r1, r2, r3) := by first | (rw [hy220]; with_reducible exact H) | (have H2_ := (Option.bind_some _ _).symm.trans H; rw [hy220]; with_reducible exact H2_) | (have H2_ := (Option.bind_some _ _).symm.trans H; with_reducible exact H2_) | with_reducible exact H | (rw [hy220]; exact H) | exact H
        have Ny220 := Aside0.mk hy220
        clear hy220
        have H' := Aside0.mk H
        clear H
        go_enter Try.func28, Try.ntmps28
        go_wp2_with (first | ((with_reducible refine gate_callee (f := 43) rfl ?_); refine goesL_ (some 18) rfl rfl Try.func43 (by kernel_rfl) rfl #[.int .i64 a0, .slice A1 l1.length c1, .int .i64 a2, .int .i64 a3] rfl (by (try simp only [List.map_toArray, List.map_cons, List.map_nil]); first | done | rfl | (simp only [List.length_drop, List.length_take]; rfl)) ?_; (with_reducible refine (sizarref18_ends.calls k a0 _ _ l1 a2 a3 true _ ?side1 ?side2 A5.out).mono ?_); (case side1 => repeat (first | exact HR1.out | (with_reducible refine Kd.C_alloc ?_ _) | (with_reducible refine Kd.C_drewN ?_ _) | (with_reducible refine Kd.C_drew ?_))); (case side2 => exact HC1.out); rintro e w9 ⟨rfl, hb⟩; refine ⟨_, rfl, ?_⟩; have n0_ := Aside0.mk (below_step (by repeat (first | (with_reducible first | exact HB.out | apply below_alloc | apply pw_below_drewN | apply below_drew1) | exact HB.out)) hb); clear HB; have HB := n0_; clear n0_; (try clear hb); (try clear hb2); (try clear hk); (try clear hi)) | ((with_reducible refine gate_dst (N := 22) rfl ?_); refine Kd.R_make (Kd.int .i64) _ 3 rfl (N := 22) rfl 23 _ _ rfl (l1.length : Int) rfl rfl Try.underlying23 (.int .i64 0) 8 info3 rfl (by decide) (by omega) 0 (ok := fun _ => True) (okp := fun _ => True) rfl (fun _ hk => hk) trivial (of_decide_eq_true (by first | (with_reducible assumption) | assumption)) (Nat.le_trans (Nat.mul_le_mul_right _ (of_decide_eq_true (by first | (with_reducible assumption) | assumption) : (l1.length : Int).toNat ≤ 35184372088832)) (by omega)) (Below.refl _ _) (Nat.le_refl _) ?_; intro v221 w10 ho11 hb hg_ hnew_; clear hg_ hnew_; (first | rw [← Ny220.out] at ho11 | (simp only [Int.reduceToNat] at ho11; rw [← Ny220.out] at ho11)); have n0_ := Aside0.mk (Kd.R_lower ho11 (below_size (by repeat (first | (with_reducible first | exact HB.out | apply below_alloc | apply pw_below_drewN | apply below_drew1) | exact HB.out)))); have n1_ := Aside0.mk (below_step (by repeat (first | (with_reducible first | exact HB.out | apply below_alloc | apply pw_below_drewN | apply below_drew1) | exact HB.out)) hb); clear HB; have HO222 := n0_; have HB := n1_; clear n0_ n1_; clear hb ho11))
        go_loopg [11] k (fun kq v11 w' => ∃ (x11_1 : List Int), Aside0 (sizarref18_Max.l0 kq a0 l1 a2 a3 x11_1 = some (r1, r2, r3)) ∧ Aside0 (kq ≤ k) ∧ Aside0 (Kd.R (Kd.int .i64) 3 w' w.heap.size (fun _ => True) v11 x11_1) ∧ Aside0 (Below w.heap.size w w'))
        case atStart => exact ⟨(y220), H', ⟨Nat.le_refl _⟩, ⟨by (with_reducible repeat (first | apply Kd.R_alloc | apply Kd.R_drewN | apply Kd.R_drew)); exact HO222.out⟩, ⟨by repeat (first | (with_reducible first | exact HB.out | apply below_alloc | apply pw_below_drewN | apply below_drew1) | exact HB.out)⟩⟩
        case round =>
          clear H'
          try clear c1
          try clear c2
          try clear p2
          try clear c4
          try clear c6
          try clear c7
          try clear c7b0
          try clear c7b1
          try clear c8
          try clear c8b0
          try clear c8b1
          obtain ⟨x11_1, HA, HK1, HO_11, HB⟩ := hrel
          cases gk with
          | zero => exact absurd HA.out (by simp [sizarref18_Max.l0])
          | succ k1 =>
            have H := HA.out
            clear HA
            simp only [sizarref18_Max.l0] at H
            replace H := Option.bind_eq_some_iff.mp H
            obtain ⟨⟨t223, t224⟩, A120, H⟩ := H
            replace H : (if 0 ≤ a3 then (if a3 < (t223.length : Int) then (if rdOf false t223 a3 = true then ((sizarref18_augment.f k1 l1 x11_1 t224 a2 a3).bind fun t230 => (sizarref18_Max.l0 k1 a0 l1 a2 a3 t230)) else (some (x11_1, t223, 0))) else (none)) else (none)) = some (r1, r2, r3) := H
            have A12 := Aside0.mk A120
            clear A120
            by_cases c13 : 0 ≤ a3
            · rw [if_pos c13] at H
              have c13b0 : decide (0 ≤ a3) = true := decide_eq_true c13
              clear c13
              by_cases c14 : a3 < (t223.length : Int)
              · rw [if_pos c14] at H
                have c14b0 : decide (a3 < (t223.length : Int)) = true := decide_eq_true c14
                clear c14
                obtain ⟨bq15, hbq15⟩ : ∃ b_ : Bool, b_ = (rdOf false t223 a3) := ⟨_, rfl⟩
                replace H : (if bq15 = true then ((sizarref18_augment.f k1 l1 x11_1 t224 a2 a3).bind fun t230 => (sizarref18_Max.l0 k1 a0 l1 a2 a3 t230)) else (some (x11_1, t223, 0))) = some (r1, r2, r3) := by rw [← hbq15] at H; exact H
                have Nbq15 := Aside0.mk hbq15
                clear hbq15
                by_cases c16 : bq15 = true
                · subst c16
                  have H1 : ((sizarref18_augment.f k1 l1 x11_1 t224 a2 a3).bind fun t230 => (sizarref18_Max.l0 k1 a0 l1 a2 a3 t230)) = some (r1, r2, r3) := by rw [if_pos rfl] at H; exact H
                  clear H
                  have H := H1
                  clear H1
                  replace H := Option.bind_eq_some_iff.mp H
                  obtain ⟨t230, A170, H⟩ := H
                  replace H : (sizarref18_Max.l0 k1 a0 l1 a2 a3 t230) = some (r1, r2, r3) := H
                  have A17 := Aside0.mk A170
                  clear A170
                  have H' := Aside0.mk H
                  clear H
                  obtain ⟨Ao18, co18, eo18⟩ := Kd.R_slice HO_11.out
                  subst eo18
                  go_wp2_with (first | ((with_reducible refine gate_callee (f := 56) rfl ?_); refine goesL_ (some 28) rfl rfl Try.func56 (by kernel_rfl) rfl #[.int .i64 a0, .slice A1 l1.length c1, .slice Ao18 x11_1.length co18, .int .i64 a2] rfl (by (try simp only [List.map_toArray, List.map_cons, List.map_nil]); first | done | rfl | (simp only [List.length_drop, List.length_take]; rfl)) ?_; (with_reducible refine (sizarref18_search.calls k1 a0 _ _ l1 _ _ x11_1 a2 t223 t224 _ ?side1 ?side2 ?side3 ?side4 A12.out).mono ?_); (case side1 => repeat (first | exact (Kd.C_below HR1.out HB.out) | (with_reducible refine Kd.C_alloc ?_ _) | (with_reducible refine Kd.C_drewN ?_ _) | (with_reducible refine Kd.C_drew ?_))); (case side2 => exact HC1.out); (case side3 => repeat (first | exact (Kd.R_reads' HO_11.out).2.2 | (with_reducible refine Kd.C_alloc ?_ _) | (with_reducible refine Kd.C_drewN ?_ _) | (with_reducible refine Kd.C_drew ?_))); (case side4 => exact (Kd.R_reads' HO_11.out).2.1); rintro e w19 ⟨v225, v227, rfl, ho0, ho1, hb⟩; refine ⟨_, rfl, ?_⟩; have n0_ := Aside0.mk (Kd.R_elder' (by (with_reducible repeat (first | apply Kd.R_alloc | apply Kd.R_drewN | apply Kd.R_drew)); exact HO_11.out) (Kd.R_base ho1) hb); have n1_ := Aside0.mk (Kd.R_lower ho0 (below_size (by repeat (first | (with_reducible first | exact HB.out | apply below_alloc | apply pw_below_drewN | apply below_drew1) | exact HB.out)))); have n2_ := Aside0.mk (Kd.R_lower (Kd.R_new' ho1 (Kd.R_lt (by (with_reducible repeat (first | apply Kd.R_alloc | apply Kd.R_drewN | apply Kd.R_drew)); exact HO_11.out))) (below_size (by repeat (first | (with_reducible first | exact HB.out | apply below_alloc | apply pw_below_drewN | apply below_drew1) | exact HB.out)))); have n3_ := Aside0.mk (below_step (by repeat (first | (with_reducible first | exact HB.out | apply below_alloc | apply pw_below_drewN | apply below_drew1) | exact HB.out)) hb); clear HO_11; clear HB; have HO_11 := n0_; have HO226 := n1_; have HO228 := n2_; have HB := n3_; clear n0_ n1_ n2_ n3_; (try clear hb); (try clear hb2); (try clear hk); (try clear hi); (try clear ho0); (try clear ho1); obtain ⟨Ao20, co20, eo20⟩ := Kd.R_slice HO226.out; subst eo20; have p229 : 0 ≤ (a3 : Int) := of_decide_eq_true (by first | (with_reducible assumption) | assumption); have q229 : a3 < (t223.length : Int) := of_decide_eq_true (by first | (with_reducible assumption) | assumption); obtain ⟨ad229, e229, hx229_0⟩ := Kd.at_bool (Kd.R_reads' HO226.out).2.2 a3 p229 q229; (try rw [← Nbq15.out] at hx229_0); cases e229; replace p229 := eq_true p229; replace q229 := eq_true q229; obtain ⟨Ao21, co21, eo21⟩ := Kd.R_slice HO228.out; subst eo21) | ((with_reducible refine gate_callee (f := 57) rfl ?_); refine goesL_ (some 43) rfl rfl Try.func57 (by kernel_rfl) rfl #[.slice A1 l1.length c1, .slice Ao18 x11_1.length co18, .slice Ao21 t224.length co21, .int .i64 a2, .int .i64 a3] rfl (by (try simp only [List.map_toArray, List.map_cons, List.map_nil]); first | done | rfl | (simp only [List.length_drop, List.length_take]; rfl)) ?_; (with_reducible refine (sizarref18_augment.calls k1 _ _ l1 _ _ x11_1 _ _ t224 a2 a3 t230 _ ?side1 ?side2 ?side3 ?side4 ?side5 ?side6 A17.out).mono ?_); (case side1 => repeat (first | exact (Kd.C_below HR1.out HB.out) | (with_reducible refine Kd.C_alloc ?_ _) | (with_reducible refine Kd.C_drewN ?_ _) | (with_reducible refine Kd.C_drew ?_))); (case side2 => exact HC1.out); (case side3 => repeat (first | exact (Kd.R_reads' HO_11.out).2.2 | (with_reducible refine Kd.C_alloc ?_ _) | (with_reducible refine Kd.C_drewN ?_ _) | (with_reducible refine Kd.C_drew ?_))); (case side4 => exact (Kd.R_reads' HO_11.out).2.1); (case side5 => repeat (first | exact (Kd.R_reads' HO228.out).2.2 | (with_reducible refine Kd.C_alloc ?_ _) | (with_reducible refine Kd.C_drewN ?_ _) | (with_reducible refine Kd.C_drew ?_))); (case side6 => exact (Kd.R_reads' HO228.out).2.1); rintro e w22 ⟨v231, rfl, ho0, hb⟩; refine ⟨_, rfl, ?_⟩; have n0_ := Aside0.mk (Kd.R_elder' (by (with_reducible repeat (first | apply Kd.R_alloc | apply Kd.R_drewN | apply Kd.R_drew)); exact HO_11.out) (Kd.R_base ho0) hb); have n1_ := Aside0.mk (Kd.R_below (by (with_reducible repeat (first | apply Kd.R_alloc | apply Kd.R_drewN | apply Kd.R_drew)); exact HO226.out) hb); have n2_ := Aside0.mk (Kd.R_elder' (by (with_reducible repeat (first | apply Kd.R_alloc | apply Kd.R_drewN | apply Kd.R_drew)); exact HO228.out) (Kd.R_base ho0) hb); have n3_ := Aside0.mk (Kd.R_lower (Kd.R_new' (Kd.R_new' ho0 (Kd.R_lt (by (with_reducible repeat (first | apply Kd.R_alloc | apply Kd.R_drewN | apply Kd.R_drew)); exact HO_11.out))) (Kd.R_lt (by (with_reducible repeat (first | apply Kd.R_alloc | apply Kd.R_drewN | apply Kd.R_drew)); exact HO228.out))) (below_size (by repeat (first | (with_reducible first | exact HB.out | apply below_alloc | apply pw_below_drewN | apply below_drew1) | exact HB.out)))); have n4_ := Aside0.mk (below_step (by repeat (first | (with_reducible first | exact HB.out | apply below_alloc | apply pw_below_drewN | apply below_drew1) | exact HB.out)) hb); clear HO_11; clear HO226; clear HO228; clear HB; have HO_11 := n0_; have HO226 := n1_; have HO228 := n2_; have HO232 := n3_; have HB := n4_; clear n0_ n1_ n2_ n3_ n4_; (try clear hb); (try clear hb2); (try clear hk); (try clear hi); (try clear ho0)))
                  go_roundg k1
                  case measure => have := HK1.out; omega
                  case rel => exact ⟨(t230), H', ⟨by have := HK1.out; omega⟩, ⟨by (with_reducible repeat (first | apply Kd.R_alloc | apply Kd.R_drewN | apply Kd.R_drew)); exact Kd.R_mono HO232.out (fun _ hk => trivial)⟩, ⟨by repeat (first | (with_reducible first | exact HB.out | apply below_alloc | apply pw_below_drewN | apply below_drew1) | exact HB.out)⟩⟩
                · replace c16 := Bool.eq_false_iff.mpr c16
                  subst c16
                  have H1 : (some (x11_1, t223, 0)) = some (r1, r2, r3) := by rw [if_neg (show ¬ (false = true) by decide)] at H; exact H
                  clear H
                  have H := H1
                  clear H1
                  simp only [Option.some.injEq, Prod.mk.injEq] at H
                  obtain ⟨rfl, rfl, rfl⟩ := H
                  obtain ⟨Ao23, co23, eo23⟩ := Kd.R_slice HO_11.out
                  subst eo23
                  go_wp2_with (first | ((with_reducible refine gate_callee (f := 56) rfl ?_); refine goesL_ (some 28) rfl rfl Try.func56 (by kernel_rfl) rfl #[.int .i64 a0, .slice A1 l1.length c1, .slice Ao23 x11_1.length co23, .int .i64 a2] rfl (by (try simp only [List.map_toArray, List.map_cons, List.map_nil]); first | done | rfl | (simp only [List.length_drop, List.length_take]; rfl)) ?_; (with_reducible refine (sizarref18_search.calls k1 a0 _ _ l1 _ _ x11_1 a2 t223 t224 _ ?side1 ?side2 ?side3 ?side4 A12.out).mono ?_); (case side1 => repeat (first | exact (Kd.C_below HR1.out HB.out) | (with_reducible refine Kd.C_alloc ?_ _) | (with_reducible refine Kd.C_drewN ?_ _) | (with_reducible refine Kd.C_drew ?_))); (case side2 => exact HC1.out); (case side3 => repeat (first | exact (Kd.R_reads' HO_11.out).2.2 | (with_reducible refine Kd.C_alloc ?_ _) | (with_reducible refine Kd.C_drewN ?_ _) | (with_reducible refine Kd.C_drew ?_))); (case side4 => exact (Kd.R_reads' HO_11.out).2.1); rintro e w24 ⟨v225, v227, rfl, ho0, ho1, hb⟩; refine ⟨_, rfl, ?_⟩; have n0_ := Aside0.mk (Kd.R_elder' (by (with_reducible repeat (first | apply Kd.R_alloc | apply Kd.R_drewN | apply Kd.R_drew)); exact HO_11.out) (Kd.R_base ho1) hb); have n1_ := Aside0.mk (Kd.R_lower ho0 (below_size (by repeat (first | (with_reducible first | exact HB.out | apply below_alloc | apply pw_below_drewN | apply below_drew1) | exact HB.out)))); have n2_ := Aside0.mk (Kd.R_lower (Kd.R_new' ho1 (Kd.R_lt (by (with_reducible repeat (first | apply Kd.R_alloc | apply Kd.R_drewN | apply Kd.R_drew)); exact HO_11.out))) (below_size (by repeat (first | (with_reducible first | exact HB.out | apply below_alloc | apply pw_below_drewN | apply below_drew1) | exact HB.out)))); have n3_ := Aside0.mk (below_step (by repeat (first | (with_reducible first | exact HB.out | apply below_alloc | apply pw_below_drewN | apply below_drew1) | exact HB.out)) hb); clear HO_11; clear HB; have HO_11 := n0_; have HO226 := n1_; have HO228 := n2_; have HB := n3_; clear n0_ n1_ n2_ n3_; (try clear hb); (try clear hb2); (try clear hk); (try clear hi); (try clear ho0); (try clear ho1); obtain ⟨Ao25, co25, eo25⟩ := Kd.R_slice HO226.out; subst eo25; have p229 : 0 ≤ (a3 : Int) := of_decide_eq_true (by first | (with_reducible assumption) | assumption); have q229 : a3 < (t223.length : Int) := of_decide_eq_true (by first | (with_reducible assumption) | assumption); obtain ⟨ad229, e229, hx229_0⟩ := Kd.at_bool (Kd.R_reads' HO226.out).2.2 a3 p229 q229; (try rw [← Nbq15.out] at hx229_0); cases e229; replace p229 := eq_true p229; replace q229 := eq_true q229))
                  go_ret3
                  exact ⟨_, _, by first | rfl | (simp [errW_none, errW_some] <;> rfl) | (simp [*, errW_none, errW_some] <;> rfl), by (with_reducible repeat (first | apply Kd.R_alloc | apply Kd.R_drewN | apply Kd.R_drew)); exact Kd.R_mono HO_11.out (fun _ hk => trivial), by (with_reducible repeat (first | apply Kd.R_alloc | apply Kd.R_drewN | apply Kd.R_drew)); exact HO226.out, by repeat (first | (with_reducible first | exact HB.out | apply below_alloc | apply pw_below_drewN | apply below_drew1) | exact HB.out)⟩
              · rw [if_neg c14] at H
                exact absurd H (by simp)
            · rw [if_neg c13] at H
              exact absurd H (by simp)
      · rw [if_neg c8] at H
        exact absurd H (by simp)
    · rw [if_neg c7] at H
      exact absurd H (by simp)
  · replace c6 := Bool.eq_false_iff.mpr c6
    subst c6
    have H1 : (some (([] : List Int), ([] : List Bool), 180)) = some (r1, r2, r3) := by rw [if_neg (show ¬ (false = true) by decide)] at H; exact H
    clear H
    have H := H1
    clear H1
    simp only [Option.some.injEq, Prod.mk.injEq] at H
    obtain ⟨rfl, rfl, rfl⟩ := H
    go_enter Try.func28, Try.ntmps28
    go_wp2_with (first | ((with_reducible refine gate_callee (f := 43) rfl ?_); refine goesL_ (some 18) rfl rfl Try.func43 (by kernel_rfl) rfl #[.int .i64 a0, .slice A1 l1.length c1, .int .i64 a2, .int .i64 a3] rfl (by (try simp only [List.map_toArray, List.map_cons, List.map_nil]); first | done | rfl | (simp only [List.length_drop, List.length_take]; rfl)) ?_; (with_reducible refine (sizarref18_ends.calls k a0 _ _ l1 a2 a3 false _ ?side1 ?side2 A5.out).mono ?_); (case side1 => repeat (first | exact HR1.out | (with_reducible refine Kd.C_alloc ?_ _) | (with_reducible refine Kd.C_drewN ?_ _) | (with_reducible refine Kd.C_drew ?_))); (case side2 => exact HC1.out); rintro e w26 ⟨rfl, hb⟩; refine ⟨_, rfl, ?_⟩; have n0_ := Aside0.mk (below_step (by repeat (first | (with_reducible first | exact HB.out | apply below_alloc | apply pw_below_drewN | apply below_drew1) | exact HB.out)) hb); clear HB; have HB := n0_; clear n0_; (try clear hb); (try clear hb2); (try clear hk); (try clear hi)))
    go_ret3
    exact ⟨_, _, by first | rfl | (simp [errW_none, errW_some] <;> rfl) | (simp [*, errW_none, errW_some] <;> rfl), by first | exact Kd.R_nil _ _ _ _ _ | exact Kd.N_nil _ _ _ _ _ | exact Kd.V_nil _ _ _ _ _ | exact Kd.Q_nil _ _ _ _ _ | exact Kd.S_nil _ _ _ _ _, by first | exact Kd.R_nil _ _ _ _ _ | exact Kd.N_nil _ _ _ _ _ | exact Kd.V_nil _ _ _ _ _ | exact Kd.Q_nil _ _ _ _ _ | exact Kd.S_nil _ _ _ _ _, by repeat (first | (with_reducible first | exact HB.out | apply below_alloc | apply pw_below_drewN | apply below_drew1) | exact HB.out)⟩
def sizarlaw18_FlowMaxSpec.j0 : Nat → Int → List (S61) → Int → Int → List Int → List Int → Bool → Option (Bool)
  | 0, _, _, _, _, _, _, _ => none
  | k + 1, x0, x1, x2, x3, x9, x12, x58 => if x58 = true then (some false) else ((sizarref18_Value.f k x0 x1 x2 x3 x9).bind fun bt250 => ((sizarref18_Value.f k x0 x1 x2 x3 x12).bind fun bt252 => (if bt250.2 = bt252.2 then (some (bt250.1 == bt252.1)) else (some false))))
def sizarlaw18_FlowMaxSpec.f (k : Nat) (a0 : Int) (l1 : List (S61)) (a2 : Int) (a3 : Int) : Option (Bool) := (sizarlaw18_sane.f).bind fun t233 => (if t233 = true then ((sizarref18_Few.f a0 l1).bind fun t234 => (if t234 = true then ((flow_Max.f k a0 l1 a2 a3).bind fun bt235 => ((sizarref18_Max.f k a0 l1 a2 a3).bind fun bt242 => (if bt235.2.2 = bt242.2.2 then ((sizarref18_SameCut.f k bt235.2.1 bt242.2.1).bind fun t249 => (if t249 = true then (sizarlaw18_FlowMaxSpec.j0 k a0 l1 a2 a3 bt235.1 bt242.1 ((bt235.1.length : Int) != (bt242.1.length : Int))) else (sizarlaw18_FlowMaxSpec.j0 k a0 l1 a2 a3 bt235.1 bt242.1 true))) else (sizarlaw18_FlowMaxSpec.j0 k a0 l1 a2 a3 bt235.1 bt242.1 true)))) else (some true))) else (some false))
set_option maxHeartbeats 8000000 in
set_option maxRecDepth 100000 in
theorem sizarlaw18_FlowMaxSpec.calls (k : Nat) (a0 : Int) (A1 : Option Addr) (c1 : Nat) (l1 : List (S61)) (a2 : Int) (a3 : Int) (r : Bool) (w : World) (hr1 : Kd.C k61 w A1 l1.length l1) (hc1 : l1.length ≤ c1) (h : sizarlaw18_FlowMaxSpec.f k a0 l1 a2 a3 = some r) :
    Calls Try.prog 4 #[.int .i64 a0, .slice A1 l1.length c1, .int .i64 a2, .int .i64 a3] w fun e w' => e = .returned (.bool r) ∧ Below w.heap.size w w' := by
  have HR1 := Aside0.mk hr1
  have HC1 := Aside0.mk hc1
  clear hr1 hc1
  have HB := Aside0.mk (Below.refl w.heap.size w)
  have H : ((sizarlaw18_sane.f).bind fun t233 => (if t233 = true then ((sizarref18_Few.f a0 l1).bind fun t234 => (if t234 = true then ((flow_Max.f k a0 l1 a2 a3).bind fun bt235 => ((sizarref18_Max.f k a0 l1 a2 a3).bind fun bt242 => (if bt235.2.2 = bt242.2.2 then ((sizarref18_SameCut.f k bt235.2.1 bt242.2.1).bind fun t249 => (if t249 = true then (sizarlaw18_FlowMaxSpec.j0 k a0 l1 a2 a3 bt235.1 bt242.1 ((bt235.1.length : Int) != (bt242.1.length : Int))) else (sizarlaw18_FlowMaxSpec.j0 k a0 l1 a2 a3 bt235.1 bt242.1 true))) else (sizarlaw18_FlowMaxSpec.j0 k a0 l1 a2 a3 bt235.1 bt242.1 true)))) else (some true))) else (some false))) = some r := h
  clear h
  replace H := Option.bind_eq_some_iff.mp H
  obtain ⟨t233, A50, H⟩ := H
  replace H : (if t233 = true then ((sizarref18_Few.f a0 l1).bind fun t234 => (if t234 = true then ((flow_Max.f k a0 l1 a2 a3).bind fun bt235 => ((sizarref18_Max.f k a0 l1 a2 a3).bind fun bt242 => (if bt235.2.2 = bt242.2.2 then ((sizarref18_SameCut.f k bt235.2.1 bt242.2.1).bind fun t249 => (if t249 = true then (sizarlaw18_FlowMaxSpec.j0 k a0 l1 a2 a3 bt235.1 bt242.1 ((bt235.1.length : Int) != (bt242.1.length : Int))) else (sizarlaw18_FlowMaxSpec.j0 k a0 l1 a2 a3 bt235.1 bt242.1 true))) else (sizarlaw18_FlowMaxSpec.j0 k a0 l1 a2 a3 bt235.1 bt242.1 true)))) else (some true))) else (some false)) = some r := H
  have A5 := Aside0.mk A50
  clear A50
  by_cases c6 : t233 = true
  · subst c6
    have H1 : ((sizarref18_Few.f a0 l1).bind fun t234 => (if t234 = true then ((flow_Max.f k a0 l1 a2 a3).bind fun bt235 => ((sizarref18_Max.f k a0 l1 a2 a3).bind fun bt242 => (if bt235.2.2 = bt242.2.2 then ((sizarref18_SameCut.f k bt235.2.1 bt242.2.1).bind fun t249 => (if t249 = true then (sizarlaw18_FlowMaxSpec.j0 k a0 l1 a2 a3 bt235.1 bt242.1 ((bt235.1.length : Int) != (bt242.1.length : Int))) else (sizarlaw18_FlowMaxSpec.j0 k a0 l1 a2 a3 bt235.1 bt242.1 true))) else (sizarlaw18_FlowMaxSpec.j0 k a0 l1 a2 a3 bt235.1 bt242.1 true)))) else (some true))) = some r := by rw [if_pos rfl] at H; exact H
    clear H
    have H := H1
    clear H1
    replace H := Option.bind_eq_some_iff.mp H
    obtain ⟨t234, A70, H⟩ := H
    replace H : (if t234 = true then ((flow_Max.f k a0 l1 a2 a3).bind fun bt235 => ((sizarref18_Max.f k a0 l1 a2 a3).bind fun bt242 => (if bt235.2.2 = bt242.2.2 then ((sizarref18_SameCut.f k bt235.2.1 bt242.2.1).bind fun t249 => (if t249 = true then (sizarlaw18_FlowMaxSpec.j0 k a0 l1 a2 a3 bt235.1 bt242.1 ((bt235.1.length : Int) != (bt242.1.length : Int))) else (sizarlaw18_FlowMaxSpec.j0 k a0 l1 a2 a3 bt235.1 bt242.1 true))) else (sizarlaw18_FlowMaxSpec.j0 k a0 l1 a2 a3 bt235.1 bt242.1 true)))) else (some true)) = some r := H
    have A7 := Aside0.mk A70
    clear A70
    by_cases c8 : t234 = true
    · subst c8
      have H1 : ((flow_Max.f k a0 l1 a2 a3).bind fun bt235 => ((sizarref18_Max.f k a0 l1 a2 a3).bind fun bt242 => (if bt235.2.2 = bt242.2.2 then ((sizarref18_SameCut.f k bt235.2.1 bt242.2.1).bind fun t249 => (if t249 = true then (sizarlaw18_FlowMaxSpec.j0 k a0 l1 a2 a3 bt235.1 bt242.1 ((bt235.1.length : Int) != (bt242.1.length : Int))) else (sizarlaw18_FlowMaxSpec.j0 k a0 l1 a2 a3 bt235.1 bt242.1 true))) else (sizarlaw18_FlowMaxSpec.j0 k a0 l1 a2 a3 bt235.1 bt242.1 true)))) = some r := by rw [if_pos rfl] at H; exact H
      clear H
      have H := H1
      clear H1
      replace H := Option.bind_eq_some_iff.mp H
      obtain ⟨⟨t235, t236, t237⟩, A90, H⟩ := H
      replace H : ((sizarref18_Max.f k a0 l1 a2 a3).bind fun bt242 => (if t237 = bt242.2.2 then ((sizarref18_SameCut.f k t236 bt242.2.1).bind fun t249 => (if t249 = true then (sizarlaw18_FlowMaxSpec.j0 k a0 l1 a2 a3 t235 bt242.1 ((t235.length : Int) != (bt242.1.length : Int))) else (sizarlaw18_FlowMaxSpec.j0 k a0 l1 a2 a3 t235 bt242.1 true))) else (sizarlaw18_FlowMaxSpec.j0 k a0 l1 a2 a3 t235 bt242.1 true))) = some r := H
      have A9 := Aside0.mk A90
      clear A90
      replace H := Option.bind_eq_some_iff.mp H
      obtain ⟨⟨t242, t243, t244⟩, A100, H⟩ := H
      replace H : (if t237 = t244 then ((sizarref18_SameCut.f k t236 t243).bind fun t249 => (if t249 = true then (sizarlaw18_FlowMaxSpec.j0 k a0 l1 a2 a3 t235 t242 ((t235.length : Int) != (t242.length : Int))) else (sizarlaw18_FlowMaxSpec.j0 k a0 l1 a2 a3 t235 t242 true))) else (sizarlaw18_FlowMaxSpec.j0 k a0 l1 a2 a3 t235 t242 true)) = some r := H
      have A10 := Aside0.mk A100
      clear A100
      have HC11 := Aside0.mk H
      clear H
      go_enter Try.func4, Try.ntmps4
      go_upto_region 7 with (first | ((with_reducible refine gate_callee (f := 19) rfl ?_); refine goesL_ (some 19) rfl rfl Try.func19 (by kernel_rfl) rfl #[] rfl (by (try simp only [List.map_toArray, List.map_cons, List.map_nil]); first | done | rfl | (simp only [List.length_drop, List.length_take]; rfl)) ?_; (with_reducible refine (sizarlaw18_sane.calls  true _ A5.out).mono ?_); rintro e w12 ⟨rfl, hb⟩; refine ⟨_, rfl, ?_⟩; have n0_ := Aside0.mk (below_step (by repeat (first | (with_reducible first | exact HB.out | apply below_alloc | apply pw_below_drewN | apply below_drew1) | exact HB.out)) hb); clear HB; have HB := n0_; clear n0_; (try clear hb); (try clear hb2); (try clear hk); (try clear hi)) | ((with_reducible refine gate_callee (f := 20) rfl ?_); refine goesL_ (some 23) rfl rfl Try.func20 (by kernel_rfl) rfl #[.int .i64 a0, .slice A1 l1.length c1] rfl (by (try simp only [List.map_toArray, List.map_cons, List.map_nil]); first | done | rfl | (simp only [List.length_drop, List.length_take]; rfl)) ?_; (with_reducible refine (sizarref18_Few.calls a0 _ _ l1 true _ ?side1 ?side2 A7.out).mono ?_); (case side1 => repeat (first | exact (Kd.C_below HR1.out HB.out) | (with_reducible refine Kd.C_alloc ?_ _) | (with_reducible refine Kd.C_drewN ?_ _) | (with_reducible refine Kd.C_drew ?_))); (case side2 => exact HC1.out); rintro e w' ⟨rfl, ⟨nd, rfl⟩⟩; refine ⟨_, rfl, ?_⟩) | ((with_reducible refine gate_callee (f := 27) rfl ?_); refine goesL_ (some 30) rfl rfl Try.func27 (by kernel_rfl) rfl #[.int .i64 a0, .slice A1 l1.length c1, .int .i64 a2, .int .i64 a3] rfl (by (try simp only [List.map_toArray, List.map_cons, List.map_nil]); first | done | rfl | (simp only [List.length_drop, List.length_take]; rfl)) ?_; (with_reducible refine (flow_Max.calls k a0 _ _ l1 a2 a3 t235 t236 t237 _ ?side1 ?side2 A9.out).mono ?_); (case side1 => repeat (first | exact (Kd.C_below HR1.out (by repeat (first | (with_reducible first | exact HB.out | apply below_alloc | apply pw_below_drewN | apply below_drew1) | exact HB.out))) | (with_reducible refine Kd.C_alloc ?_ _) | (with_reducible refine Kd.C_drewN ?_ _) | (with_reducible refine Kd.C_drew ?_))); (case side2 => exact HC1.out); rintro e w13 ⟨v238, v240, rfl, ho0, ho1, hb⟩; refine ⟨_, rfl, ?_⟩; have n0_ := Aside0.mk (Kd.R_lower ho0 (below_size (by repeat (first | (with_reducible first | exact HB.out | apply below_alloc | apply pw_below_drewN | apply below_drew1) | exact HB.out)))); have n1_ := Aside0.mk (Kd.R_lower ho1 (below_size (by repeat (first | (with_reducible first | exact HB.out | apply below_alloc | apply pw_below_drewN | apply below_drew1) | exact HB.out)))); have n2_ := Aside0.mk (below_step (by repeat (first | (with_reducible first | exact HB.out | apply below_alloc | apply pw_below_drewN | apply below_drew1) | exact HB.out)) hb); clear HB; have HO239 := n0_; have HO241 := n1_; have HB := n2_; clear n0_ n1_ n2_; (try clear hb); (try clear hb2); (try clear hk); (try clear hi); (try clear ho0); (try clear ho1)) | ((with_reducible refine gate_callee (f := 28) rfl ?_); refine goesL_ (some 39) rfl rfl Try.func28 (by kernel_rfl) rfl #[.int .i64 a0, .slice A1 l1.length c1, .int .i64 a2, .int .i64 a3] rfl (by (try simp only [List.map_toArray, List.map_cons, List.map_nil]); first | done | rfl | (simp only [List.length_drop, List.length_take]; rfl)) ?_; (with_reducible refine (sizarref18_Max.calls k a0 _ _ l1 a2 a3 t242 t243 t244 _ ?side1 ?side2 A10.out).mono ?_); (case side1 => repeat (first | exact (Kd.C_below HR1.out HB.out) | (with_reducible refine Kd.C_alloc ?_ _) | (with_reducible refine Kd.C_drewN ?_ _) | (with_reducible refine Kd.C_drew ?_))); (case side2 => exact HC1.out); rintro e w14 ⟨v245, v247, rfl, ho0, ho1, hb⟩; refine ⟨_, rfl, ?_⟩; have n0_ := Aside0.mk (Kd.R_elder' (by (with_reducible repeat (first | apply Kd.R_alloc | apply Kd.R_drewN | apply Kd.R_drew)); exact HO239.out) (Kd.R_base ho0) hb); have n1_ := Aside0.mk (Kd.R_elder' (by (with_reducible repeat (first | apply Kd.R_alloc | apply Kd.R_drewN | apply Kd.R_drew)); exact HO241.out) (Kd.R_base ho1) hb); have n2_ := Aside0.mk (Kd.R_lower (Kd.R_new' ho0 (Kd.R_lt (by (with_reducible repeat (first | apply Kd.R_alloc | apply Kd.R_drewN | apply Kd.R_drew)); exact HO239.out))) (below_size (by repeat (first | (with_reducible first | exact HB.out | apply below_alloc | apply pw_below_drewN | apply below_drew1) | exact HB.out)))); have n3_ := Aside0.mk (Kd.R_lower (Kd.R_new' ho1 (Kd.R_lt (by (with_reducible repeat (first | apply Kd.R_alloc | apply Kd.R_drewN | apply Kd.R_drew)); exact HO241.out))) (below_size (by repeat (first | (with_reducible first | exact HB.out | apply below_alloc | apply pw_below_drewN | apply below_drew1) | exact HB.out)))); have n4_ := Aside0.mk (below_step (by repeat (first | (with_reducible first | exact HB.out | apply below_alloc | apply pw_below_drewN | apply below_drew1) | exact HB.out)) hb); clear HO239; clear HO241; clear HB; have HO239 := n0_; have HO241 := n1_; have HO246 := n2_; have HO248 := n3_; have HB := n4_; clear n0_ n1_ n2_ n3_ n4_; (try clear hb); (try clear hb2); (try clear hk); (try clear hi); (try clear ho0); (try clear ho1)))
      (try simp only [Act.put, List.setIfInBounds_toArray, List.set_cons_zero, List.set_cons_succ])
      go_cut [58] (fun v58 wc => ∃ (kq : Nat) (x58_10 : Bool), v58 = .bool x58_10 ∧ Aside0 (sizarlaw18_FlowMaxSpec.j0 kq a0 l1 a2 a3 t235 t242 x58_10 = some r) ∧ Aside0 (kq ≤ k) ∧ Aside0 (Kd.R (Kd.int .i64) 3 wc w.heap.size (fun k_ => some k_ ≠ (v245 : Value).ownBlock) v238 t235) ∧ Aside0 (Kd.R (Kd.int .i64) 3 wc w.heap.size (fun k_ => some k_ ≠ (v238 : Value).ownBlock) v245 t242) ∧ Aside0 (Below w.heap.size w wc))
      case first =>
        have H := HC11.out
        clear HC11
        by_cases c15 : t237 = t244
        · rw [if_pos c15] at H
          have c15b0 : (t237 == t244) = true := beq_iff_eq.mpr c15
          have c15b1 : (t237 != t244) = false := bne_eq_false_iff_eq.mpr c15
          clear c15
          (first | rw [c15b0] | (simp only [i64_w, i32_w]; rw [c15b0]) | skip)
          replace H := Option.bind_eq_some_iff.mp H
          obtain ⟨t249, A160, H⟩ := H
          replace H : (if t249 = true then (sizarlaw18_FlowMaxSpec.j0 k a0 l1 a2 a3 t235 t242 ((t235.length : Int) != (t242.length : Int))) else (sizarlaw18_FlowMaxSpec.j0 k a0 l1 a2 a3 t235 t242 true)) = some r := H
          have A16 := Aside0.mk A160
          clear A160
          by_cases c17 : t249 = true
          · subst c17
            have H1 : (sizarlaw18_FlowMaxSpec.j0 k a0 l1 a2 a3 t235 t242 ((t235.length : Int) != (t242.length : Int))) = some r := by rw [if_pos rfl] at H; exact H
            clear H
            have H := H1
            clear H1
            have H' := Aside0.mk H
            clear H
            obtain ⟨Ao18, co18, eo18⟩ := Kd.R_slice HO241.out
            subst eo18
            obtain ⟨Ao19, co19, eo19⟩ := Kd.R_slice HO248.out
            subst eo19
            go_wp2_with (first | (go_at_call 29; (with_reducible refine (sizarref18_SameCut.calls k _ _ t236 _ _ t243 true _ ?side1 ?side2 ?side3 ?side4 A16.out).mono ?_); (case side1 => repeat (first | exact (Kd.R_reads' HO241.out).2.2 | (with_reducible refine Kd.C_alloc ?_ _) | (with_reducible refine Kd.C_drewN ?_ _) | (with_reducible refine Kd.C_drew ?_))); (case side2 => exact (Kd.R_reads' HO241.out).2.1); (case side3 => repeat (first | exact (Kd.R_reads' HO248.out).2.2 | (with_reducible refine Kd.C_alloc ?_ _) | (with_reducible refine Kd.C_drewN ?_ _) | (with_reducible refine Kd.C_drew ?_))); (case side4 => exact (Kd.R_reads' HO248.out).2.1); rintro e w' ⟨rfl, ⟨nd, rfl⟩⟩; obtain ⟨Ao20, co20, eo20⟩ := Kd.R_slice HO239.out; subst eo20; obtain ⟨Ao21, co21, eo21⟩ := Kd.R_slice HO246.out; subst eo21))
            go_meet
            case rel => exact ⟨_, (((t235.length : Int) != (t242.length : Int))), (by first | rfl | (simp; done) | (simp [*]; done)), H', ⟨by first | omega | exact Nat.le_refl _⟩, ⟨by (with_reducible repeat (first | apply Kd.R_alloc | apply Kd.R_drewN | apply Kd.R_drew)); exact Kd.R_mono HO239.out (fun _ hk => hk.2)⟩, ⟨by (with_reducible repeat (first | apply Kd.R_alloc | apply Kd.R_drewN | apply Kd.R_drew)); exact Kd.R_mono HO246.out (fun _ hk => hk.2)⟩, ⟨by repeat (first | (with_reducible first | exact HB.out | apply below_alloc | apply pw_below_drewN | apply below_drew1) | exact HB.out)⟩⟩
          · replace c17 := Bool.eq_false_iff.mpr c17
            subst c17
            have H1 : (sizarlaw18_FlowMaxSpec.j0 k a0 l1 a2 a3 t235 t242 true) = some r := by rw [if_neg (show ¬ (false = true) by decide)] at H; exact H
            clear H
            have H := H1
            clear H1
            have H' := Aside0.mk H
            clear H
            obtain ⟨Ao22, co22, eo22⟩ := Kd.R_slice HO241.out
            subst eo22
            obtain ⟨Ao23, co23, eo23⟩ := Kd.R_slice HO248.out
            subst eo23
            go_wp2_with (first | (go_at_call 29; (with_reducible refine (sizarref18_SameCut.calls k _ _ t236 _ _ t243 false _ ?side1 ?side2 ?side3 ?side4 A16.out).mono ?_); (case side1 => repeat (first | exact (Kd.R_reads' HO241.out).2.2 | (with_reducible refine Kd.C_alloc ?_ _) | (with_reducible refine Kd.C_drewN ?_ _) | (with_reducible refine Kd.C_drew ?_))); (case side2 => exact (Kd.R_reads' HO241.out).2.1); (case side3 => repeat (first | exact (Kd.R_reads' HO248.out).2.2 | (with_reducible refine Kd.C_alloc ?_ _) | (with_reducible refine Kd.C_drewN ?_ _) | (with_reducible refine Kd.C_drew ?_))); (case side4 => exact (Kd.R_reads' HO248.out).2.1); rintro e w' ⟨rfl, ⟨nd, rfl⟩⟩))
            go_meet
            case rel => exact ⟨_, (true), (by first | rfl | (simp; done) | (simp [*]; done)), H', ⟨by first | omega | exact Nat.le_refl _⟩, ⟨by (with_reducible repeat (first | apply Kd.R_alloc | apply Kd.R_drewN | apply Kd.R_drew)); exact Kd.R_mono HO239.out (fun _ hk => hk.2)⟩, ⟨by (with_reducible repeat (first | apply Kd.R_alloc | apply Kd.R_drewN | apply Kd.R_drew)); exact Kd.R_mono HO246.out (fun _ hk => hk.2)⟩, ⟨by repeat (first | (with_reducible first | exact HB.out | apply below_alloc | apply pw_below_drewN | apply below_drew1) | exact HB.out)⟩⟩
        · rw [if_neg c15] at H
          have c15b0 : (t237 == t244) = false := beq_eq_false_iff_ne.mpr c15
          have c15b1 : (t237 != t244) = true := bne_iff_ne.mpr c15
          (first | rw [c15b0] | (simp only [i64_w, i32_w]; rw [c15b0]) | skip)
          have H' := Aside0.mk H
          clear H
          go_wp2
          go_meet
          case rel => exact ⟨_, (true), (by first | rfl | (simp; done) | (simp [*]; done)), H', ⟨by first | omega | exact Nat.le_refl _⟩, ⟨by (with_reducible repeat (first | apply Kd.R_alloc | apply Kd.R_drewN | apply Kd.R_drew)); exact Kd.R_mono HO239.out (fun _ hk => hk.2)⟩, ⟨by (with_reducible repeat (first | apply Kd.R_alloc | apply Kd.R_drewN | apply Kd.R_drew)); exact Kd.R_mono HO246.out (fun _ hk => hk.2)⟩, ⟨by repeat (first | (with_reducible first | exact HB.out | apply below_alloc | apply pw_below_drewN | apply below_drew1) | exact HB.out)⟩⟩
      case rest =>
        clear HC11
        try clear c1
        try clear c2
        try clear p2
        try clear c4
        try clear c6
        try clear c8
        try clear c15
        try clear c15b0
        try clear c15b1
        try clear c17
        try clear c19
        try clear c20
        obtain ⟨kq, x58_10, rfl, HA, HJ10, HO_9, HO_12, HB⟩ := hcut
        cases kq with
        | zero => exact absurd HA.out (by simp [sizarlaw18_FlowMaxSpec.j0])
        | succ kj10 =>
          have H := HA.out
          clear HA
          simp only [sizarlaw18_FlowMaxSpec.j0] at H
          by_cases c24 : x58_10 = true
          · subst c24
            have H1 : (some false) = some r := by rw [if_pos rfl] at H; exact H
            clear H
            have H := H1
            clear H1
            obtain rfl := Option.some.inj H
            go_wp2
            go_ret
            exact ⟨by first | rfl | (simp [errW_none, errW_some] <;> rfl) | (simp [*, errW_none, errW_some] <;> rfl), by repeat (first | (with_reducible first | exact HB.out | apply below_alloc | apply pw_below_drewN | apply below_drew1) | exact HB.out)⟩
          · replace c24 := Bool.eq_false_iff.mpr c24
            subst c24
            have H1 : ((sizarref18_Value.f kj10 a0 l1 a2 a3 t235).bind fun bt250 => ((sizarref18_Value.f kj10 a0 l1 a2 a3 t242).bind fun bt252 => (if bt250.2 = bt252.2 then (some (bt250.1 == bt252.1)) else (some false)))) = some r := by rw [if_neg (show ¬ (false = true) by decide)] at H; exact H
            clear H
            have H := H1
            clear H1
            replace H := Option.bind_eq_some_iff.mp H
            obtain ⟨⟨t250, t251⟩, A250, H⟩ := H
            replace H : ((sizarref18_Value.f kj10 a0 l1 a2 a3 t242).bind fun bt252 => (if t251 = bt252.2 then (some (t250 == bt252.1)) else (some false))) = some r := H
            have A25 := Aside0.mk A250
            clear A250
            replace H := Option.bind_eq_some_iff.mp H
            obtain ⟨⟨t252, t253⟩, A260, H⟩ := H
            replace H : (if t251 = t253 then (some (t250 == t252)) else (some false)) = some r := H
            have A26 := Aside0.mk A260
            clear A260
            by_cases c27 : t251 = t253
            · rw [if_pos c27] at H
              have c27b0 : (t251 == t253) = true := beq_iff_eq.mpr c27
              have c27b1 : (t251 != t253) = false := bne_eq_false_iff_eq.mpr c27
              clear c27
              obtain rfl := Option.some.inj H
              obtain ⟨Ao28, co28, eo28⟩ := Kd.R_slice HO_9.out
              subst eo28
              go_wp2_with (first | ((with_reducible refine gate_callee (f := 22) rfl ?_); refine goesL_ (some 65) rfl rfl Try.func22 (by kernel_rfl) rfl #[.int .i64 a0, .slice A1 l1.length c1, .int .i64 a2, .int .i64 a3, .slice Ao28 t235.length co28] rfl (by (try simp only [List.map_toArray, List.map_cons, List.map_nil]); first | done | rfl | (simp only [List.length_drop, List.length_take]; rfl)) ?_; (with_reducible refine (sizarref18_Value.calls kj10 a0 _ _ l1 a2 a3 _ _ t235 t250 t251 _ ?side1 ?side2 ?side3 ?side4 A25.out).mono ?_); (case side1 => repeat (first | exact (Kd.C_below HR1.out HB.out) | (with_reducible refine Kd.C_alloc ?_ _) | (with_reducible refine Kd.C_drewN ?_ _) | (with_reducible refine Kd.C_drew ?_))); (case side2 => exact HC1.out); (case side3 => repeat (first | exact (Kd.R_reads' HO_9.out).2.2 | (with_reducible refine Kd.C_alloc ?_ _) | (with_reducible refine Kd.C_drewN ?_ _) | (with_reducible refine Kd.C_drew ?_))); (case side4 => exact (Kd.R_reads' HO_9.out).2.1); rintro e w29 ⟨rfl, hb⟩; refine ⟨_, rfl, ?_⟩; have n0_ := Aside0.mk (Kd.R_below (by (with_reducible repeat (first | apply Kd.R_alloc | apply Kd.R_drewN | apply Kd.R_drew)); exact HO_9.out) hb); have n1_ := Aside0.mk (Kd.R_below (by (with_reducible repeat (first | apply Kd.R_alloc | apply Kd.R_drewN | apply Kd.R_drew)); exact HO_12.out) hb); have n2_ := Aside0.mk (below_step (by repeat (first | (with_reducible first | exact HB.out | apply below_alloc | apply pw_below_drewN | apply below_drew1) | exact HB.out)) hb); clear HO_9; clear HO_12; clear HB; have HO_9 := n0_; have HO_12 := n1_; have HB := n2_; clear n0_ n1_ n2_; (try clear hb); (try clear hb2); (try clear hk); (try clear hi); obtain ⟨Ao30, co30, eo30⟩ := Kd.R_slice HO_12.out; subst eo30) | ((with_reducible refine gate_callee (f := 22) rfl ?_); refine goesL_ (some 74) rfl rfl Try.func22 (by kernel_rfl) rfl #[.int .i64 a0, .slice A1 l1.length c1, .int .i64 a2, .int .i64 a3, .slice Ao30 t242.length co30] rfl (by (try simp only [List.map_toArray, List.map_cons, List.map_nil]); first | done | rfl | (simp only [List.length_drop, List.length_take]; rfl)) ?_; (with_reducible refine (sizarref18_Value.calls kj10 a0 _ _ l1 a2 a3 _ _ t242 t252 t253 _ ?side1 ?side2 ?side3 ?side4 A26.out).mono ?_); (case side1 => repeat (first | exact (Kd.C_below HR1.out HB.out) | (with_reducible refine Kd.C_alloc ?_ _) | (with_reducible refine Kd.C_drewN ?_ _) | (with_reducible refine Kd.C_drew ?_))); (case side2 => exact HC1.out); (case side3 => repeat (first | exact (Kd.R_reads' HO_12.out).2.2 | (with_reducible refine Kd.C_alloc ?_ _) | (with_reducible refine Kd.C_drewN ?_ _) | (with_reducible refine Kd.C_drew ?_))); (case side4 => exact (Kd.R_reads' HO_12.out).2.1); rintro e w31 ⟨rfl, hb⟩; refine ⟨_, rfl, ?_⟩; have n0_ := Aside0.mk (Kd.R_below (by (with_reducible repeat (first | apply Kd.R_alloc | apply Kd.R_drewN | apply Kd.R_drew)); exact HO_9.out) hb); have n1_ := Aside0.mk (Kd.R_below (by (with_reducible repeat (first | apply Kd.R_alloc | apply Kd.R_drewN | apply Kd.R_drew)); exact HO_12.out) hb); have n2_ := Aside0.mk (below_step (by repeat (first | (with_reducible first | exact HB.out | apply below_alloc | apply pw_below_drewN | apply below_drew1) | exact HB.out)) hb); clear HO_9; clear HO_12; clear HB; have HO_9 := n0_; have HO_12 := n1_; have HB := n2_; clear n0_ n1_ n2_; (try clear hb); (try clear hb2); (try clear hk); (try clear hi)))
              go_ret
              exact ⟨by first | rfl | (simp [errW_none, errW_some] <;> rfl) | (simp [*, errW_none, errW_some] <;> rfl), by repeat (first | (with_reducible first | exact HB.out | apply below_alloc | apply pw_below_drewN | apply below_drew1) | exact HB.out)⟩
            · rw [if_neg c27] at H
              have c27b0 : (t251 == t253) = false := beq_eq_false_iff_ne.mpr c27
              have c27b1 : (t251 != t253) = true := bne_iff_ne.mpr c27
              obtain rfl := Option.some.inj H
              obtain ⟨Ao32, co32, eo32⟩ := Kd.R_slice HO_9.out
              subst eo32
              go_wp2_with (first | ((with_reducible refine gate_callee (f := 22) rfl ?_); refine goesL_ (some 65) rfl rfl Try.func22 (by kernel_rfl) rfl #[.int .i64 a0, .slice A1 l1.length c1, .int .i64 a2, .int .i64 a3, .slice Ao32 t235.length co32] rfl (by (try simp only [List.map_toArray, List.map_cons, List.map_nil]); first | done | rfl | (simp only [List.length_drop, List.length_take]; rfl)) ?_; (with_reducible refine (sizarref18_Value.calls kj10 a0 _ _ l1 a2 a3 _ _ t235 t250 t251 _ ?side1 ?side2 ?side3 ?side4 A25.out).mono ?_); (case side1 => repeat (first | exact (Kd.C_below HR1.out HB.out) | (with_reducible refine Kd.C_alloc ?_ _) | (with_reducible refine Kd.C_drewN ?_ _) | (with_reducible refine Kd.C_drew ?_))); (case side2 => exact HC1.out); (case side3 => repeat (first | exact (Kd.R_reads' HO_9.out).2.2 | (with_reducible refine Kd.C_alloc ?_ _) | (with_reducible refine Kd.C_drewN ?_ _) | (with_reducible refine Kd.C_drew ?_))); (case side4 => exact (Kd.R_reads' HO_9.out).2.1); rintro e w33 ⟨rfl, hb⟩; refine ⟨_, rfl, ?_⟩; have n0_ := Aside0.mk (Kd.R_below (by (with_reducible repeat (first | apply Kd.R_alloc | apply Kd.R_drewN | apply Kd.R_drew)); exact HO_9.out) hb); have n1_ := Aside0.mk (Kd.R_below (by (with_reducible repeat (first | apply Kd.R_alloc | apply Kd.R_drewN | apply Kd.R_drew)); exact HO_12.out) hb); have n2_ := Aside0.mk (below_step (by repeat (first | (with_reducible first | exact HB.out | apply below_alloc | apply pw_below_drewN | apply below_drew1) | exact HB.out)) hb); clear HO_9; clear HO_12; clear HB; have HO_9 := n0_; have HO_12 := n1_; have HB := n2_; clear n0_ n1_ n2_; (try clear hb); (try clear hb2); (try clear hk); (try clear hi); obtain ⟨Ao34, co34, eo34⟩ := Kd.R_slice HO_12.out; subst eo34) | ((with_reducible refine gate_callee (f := 22) rfl ?_); refine goesL_ (some 74) rfl rfl Try.func22 (by kernel_rfl) rfl #[.int .i64 a0, .slice A1 l1.length c1, .int .i64 a2, .int .i64 a3, .slice Ao34 t242.length co34] rfl (by (try simp only [List.map_toArray, List.map_cons, List.map_nil]); first | done | rfl | (simp only [List.length_drop, List.length_take]; rfl)) ?_; (with_reducible refine (sizarref18_Value.calls kj10 a0 _ _ l1 a2 a3 _ _ t242 t252 t253 _ ?side1 ?side2 ?side3 ?side4 A26.out).mono ?_); (case side1 => repeat (first | exact (Kd.C_below HR1.out HB.out) | (with_reducible refine Kd.C_alloc ?_ _) | (with_reducible refine Kd.C_drewN ?_ _) | (with_reducible refine Kd.C_drew ?_))); (case side2 => exact HC1.out); (case side3 => repeat (first | exact (Kd.R_reads' HO_12.out).2.2 | (with_reducible refine Kd.C_alloc ?_ _) | (with_reducible refine Kd.C_drewN ?_ _) | (with_reducible refine Kd.C_drew ?_))); (case side4 => exact (Kd.R_reads' HO_12.out).2.1); rintro e w35 ⟨rfl, hb⟩; refine ⟨_, rfl, ?_⟩; have n0_ := Aside0.mk (Kd.R_below (by (with_reducible repeat (first | apply Kd.R_alloc | apply Kd.R_drewN | apply Kd.R_drew)); exact HO_9.out) hb); have n1_ := Aside0.mk (Kd.R_below (by (with_reducible repeat (first | apply Kd.R_alloc | apply Kd.R_drewN | apply Kd.R_drew)); exact HO_12.out) hb); have n2_ := Aside0.mk (below_step (by repeat (first | (with_reducible first | exact HB.out | apply below_alloc | apply pw_below_drewN | apply below_drew1) | exact HB.out)) hb); clear HO_9; clear HO_12; clear HB; have HO_9 := n0_; have HO_12 := n1_; have HB := n2_; clear n0_ n1_ n2_; (try clear hb); (try clear hb2); (try clear hk); (try clear hi)))
              go_ret
              exact ⟨by first | rfl | (simp [errW_none, errW_some] <;> rfl) | (simp [*, errW_none, errW_some] <;> rfl), by repeat (first | (with_reducible first | exact HB.out | apply below_alloc | apply pw_below_drewN | apply below_drew1) | exact HB.out)⟩
    · replace c8 := Bool.eq_false_iff.mpr c8
      subst c8
      have H1 : (some true) = some r := by rw [if_neg (show ¬ (false = true) by decide)] at H; exact H
      clear H
      have H := H1
      clear H1
      obtain rfl := Option.some.inj H
      go_enter Try.func4, Try.ntmps4
      go_wp2_with (first | ((with_reducible refine gate_callee (f := 19) rfl ?_); refine goesL_ (some 19) rfl rfl Try.func19 (by kernel_rfl) rfl #[] rfl (by (try simp only [List.map_toArray, List.map_cons, List.map_nil]); first | done | rfl | (simp only [List.length_drop, List.length_take]; rfl)) ?_; (with_reducible refine (sizarlaw18_sane.calls  true _ A5.out).mono ?_); rintro e w36 ⟨rfl, hb⟩; refine ⟨_, rfl, ?_⟩; have n0_ := Aside0.mk (below_step (by repeat (first | (with_reducible first | exact HB.out | apply below_alloc | apply pw_below_drewN | apply below_drew1) | exact HB.out)) hb); clear HB; have HB := n0_; clear n0_; (try clear hb); (try clear hb2); (try clear hk); (try clear hi)) | ((with_reducible refine gate_callee (f := 20) rfl ?_); refine goesL_ (some 23) rfl rfl Try.func20 (by kernel_rfl) rfl #[.int .i64 a0, .slice A1 l1.length c1] rfl (by (try simp only [List.map_toArray, List.map_cons, List.map_nil]); first | done | rfl | (simp only [List.length_drop, List.length_take]; rfl)) ?_; (with_reducible refine (sizarref18_Few.calls a0 _ _ l1 false _ ?side1 ?side2 A7.out).mono ?_); (case side1 => repeat (first | exact (Kd.C_below HR1.out HB.out) | (with_reducible refine Kd.C_alloc ?_ _) | (with_reducible refine Kd.C_drewN ?_ _) | (with_reducible refine Kd.C_drew ?_))); (case side2 => exact HC1.out); rintro e w' ⟨rfl, ⟨nd, rfl⟩⟩; refine ⟨_, rfl, ?_⟩))
      go_ret
      exact ⟨by first | rfl | (simp [errW_none, errW_some] <;> rfl) | (simp [*, errW_none, errW_some] <;> rfl), by repeat (first | (with_reducible first | exact HB.out | apply below_alloc | apply pw_below_drewN | apply below_drew1) | exact HB.out)⟩
  · replace c6 := Bool.eq_false_iff.mpr c6
    subst c6
    have H1 : (some false) = some r := by rw [if_neg (show ¬ (false = true) by decide)] at H; exact H
    clear H
    have H := H1
    clear H1
    obtain rfl := Option.some.inj H
    go_enter Try.func4, Try.ntmps4
    go_wp2_with (first | ((with_reducible refine gate_callee (f := 19) rfl ?_); refine goesL_ (some 19) rfl rfl Try.func19 (by kernel_rfl) rfl #[] rfl (by (try simp only [List.map_toArray, List.map_cons, List.map_nil]); first | done | rfl | (simp only [List.length_drop, List.length_take]; rfl)) ?_; (with_reducible refine (sizarlaw18_sane.calls  false _ A5.out).mono ?_); rintro e w37 ⟨rfl, hb⟩; refine ⟨_, rfl, ?_⟩; have n0_ := Aside0.mk (below_step (by repeat (first | (with_reducible first | exact HB.out | apply below_alloc | apply pw_below_drewN | apply below_drew1) | exact HB.out)) hb); clear HB; have HB := n0_; clear n0_; (try clear hb); (try clear hb2); (try clear hk); (try clear hi)))
    go_ret
    exact ⟨by first | rfl | (simp [errW_none, errW_some] <;> rfl) | (simp [*, errW_none, errW_some] <;> rfl), by repeat (first | (with_reducible first | exact HB.out | apply below_alloc | apply pw_below_drewN | apply below_drew1) | exact HB.out)⟩
end
end Go.Proofs.Ytadeidhefjifaaa.Px
end
section
set_option linter.unusedVariables false
set_option linter.unusedSimpArgs false
namespace Go.Proofs.Ytadeidhefjifaaa.Px
open Go.RowKit Go.Shelf Go.Proofs.YtadeidhefjifaaaW.PrintWords Go.Proofs.YtadeidhefjifaaaW.PrintLast Go.Proofs.YtadeidhefjifaaaW.PrintMore
/-- from some number of rounds on -/
def Ev {α : Type} (f : Nat → Option α) (r : α) : Prop := ∃ K, ∀ k, K ≤ k → f k = some r
section
variable {α β : Type} {f F A B : Nat → Option α} {r x : α} {y : β} {g : Nat → α → Option β} {c : Prop} [Decidable c]
theorem Ev.of (r : α) : Ev (fun _ => some r) r := ⟨0, fun _ _ => rfl⟩
theorem Ev.step (h : Ev F r) (e : ∀ k, f (k + 1) = F k) : Ev f r := by
  obtain ⟨K, h⟩ := h
  refine ⟨K + 1, fun k hk => ?_⟩
  obtain ⟨j, rfl⟩ : ∃ j, k = j + 1 := ⟨k - 1, by omega⟩
  rw [e]; exact h j (by omega)
theorem Ev.congr (h : Ev F r) (e : ∀ k, f k = F k) : Ev f r := by
  obtain ⟨K, h⟩ := h
  exact ⟨K, fun k hk => by rw [e]; exact h k hk⟩
theorem Ev.bind (h : Ev f x) (k : Ev (fun j => g j x) y) : Ev (fun j => (f j).bind (g j)) y := by
  obtain ⟨K, h⟩ := h
  obtain ⟨L, k⟩ := k
  exact ⟨K + L, fun j hj => by show (f j).bind (g j) = _; rw [h j (by omega)]; exact k j (by omega)⟩
theorem Ev.pos (hc : c) (h : Ev A r) : Ev (fun k => if c then A k else B k) r := h.congr fun k => if_pos hc
theorem Ev.neg (hc : ¬ c) (h : Ev B r) : Ev (fun k => if c then A k else B k) r := h.congr fun k => if_neg hc
theorem Ev.eq {r' : α} (h : Ev f r) (e : r = r') : Ev f r' := e ▸ h
theorem Ev.at (h : Ev f r) : ∃ k, f k = some r := by
  obtain ⟨K, h⟩ := h
  exact ⟨K, h K (Nat.le_refl _)⟩
end
theorem wrap_id (x : Int) (h0 : -9223372036854775808 ≤ x) (h1 : x ≤ 9223372036854775807) : wrap64 x = x := by
  unfold wrap64; omega
theorem drop_cons {l : List S61} {i : Int} (h0 : 0 ≤ i) (h : i < l.length) : l.drop i.toNat = rd_T61 l i :: l.drop (i + 1).toNat := drop_rd l i h0 h
theorem drop_consI {l : List Int} {i : Int} (h0 : 0 ≤ i) (h : i < l.length) : l.drop i.toNat = rd l i :: l.drop (i + 1).toNat := by
  rw [List.drop_eq_getElem_cons (show i.toNat < l.length by omega), show (i + 1).toNat = i.toNat + 1 by omega]
  simp [rd, List.getD, show i.toNat < l.length by omega]
theorem badE_dec (n : Int) (x : S61) : badE n x = decide (x.f0 < 0 ∨ x.f0 ≥ n ∨ x.f1 < 0 ∨ x.f1 ≥ n ∨ x.f0 = x.f1 ∨ x.f2 < 0 ∨ x.f2 > 1073741824) := by
  cases h : badE n x with
  | false => have := (badE_iff n x).1 h; symm; exact decide_eq_false (by omega)
  | true =>
    symm; refine decide_eq_true ?_
    by_cases hc : (x.f0 < 0 ∨ x.f0 ≥ n ∨ x.f1 < 0 ∨ x.f1 ≥ n ∨ x.f0 = x.f1 ∨ x.f2 < 0 ∨ x.f2 > 1073741824)
    · exact hc
    · have := (badE_iff n x).2 (by omega)
      rw [this] at h; cases h
theorem ref_check_l0 (n : Int) (l : List S61) (hm : l.length ≤ 65536) : ∀ (g : Nat) (i : Int), 0 ≤ i → i ≤ l.length → (l.length - i).toNat ≤ g → Ev (fun k => sizarref18_Check.l0 k n l i) (if (l.drop i.toNat).any (badE n) = true then 180 else 0) := by
  intro g
  induction g with
  | zero =>
    intro i i0 i1 hg
    rw [List.drop_eq_nil_of_le (by omega)]
    refine Ev.step ?_ (fun k => by rw [sizarref18_Check.l0])
    refine Ev.neg (by omega) ?_
    exact Ev.of _
  | succ g ih =>
    intro i i0 i1 hg
    by_cases hlt : i < l.length
    · rw [drop_cons i0 hlt, List.any_cons]
      refine Ev.step ?_ (fun k => by rw [sizarref18_Check.l0])
      refine Ev.pos hlt (Ev.pos i0 ?_)
      have hj : Ev (fun k => sizarref18_Check.j2 k n l i (badE n (rd_T61 l i))) (if (badE n (rd_T61 l i) || (l.drop (i + 1).toNat).any (badE n)) = true then 180 else 0) := by
        refine Ev.step ?_ (fun k => by rw [sizarref18_Check.j2])
        cases hb : badE n (rd_T61 l i) with
        | true => exact Ev.pos rfl (Ev.of _)
        | false =>
          refine Ev.neg (by decide) ?_
          rw [wrap_id (i + 1) (by omega) (by omega), Bool.false_or]
          exact ih (i + 1) (by omega) (by omega) (by omega)
      refine hj.congr fun k => ?_
      rw [badE_dec]
      by_cases h1 : (rd_T61 l i).f0 < 0
      · rw [if_pos h1, decide_eq_true (by omega)]
      · rw [if_neg h1]
        by_cases h2 : (rd_T61 l i).f0 ≥ n
        · rw [if_pos h2, decide_eq_true (by omega)]
        · rw [if_neg h2]
          by_cases h3 : (rd_T61 l i).f1 < 0
          · rw [if_pos h3, decide_eq_true (by omega)]
          · rw [if_neg h3]
            by_cases h4 : (rd_T61 l i).f1 ≥ n
            · rw [if_pos h4, decide_eq_true (by omega)]
            · rw [if_neg h4]
              by_cases h5 : (rd_T61 l i).f0 = (rd_T61 l i).f1
              · rw [if_pos h5, decide_eq_true (by omega)]
              · rw [if_neg h5]
                by_cases h6 : (rd_T61 l i).f2 < 0
                · rw [if_pos h6, decide_eq_true (by omega)]
                · rw [if_neg h6]
                  congr 1
                  exact decide_eq_decide.2 (by omega)
    · rw [List.drop_eq_nil_of_le (by omega)]
      refine Ev.step ?_ (fun k => by rw [sizarref18_Check.l0])
      exact Ev.neg hlt (Ev.of _)
theorem ref_check (n : Int) (l : List S61) : Ev (fun k => sizarref18_Check.f k n l) (chkV n l) := by
  have hj : Ev (fun k => sizarref18_Check.j0 k n l (decide (n < 2 ∨ 4096 < n ∨ 65536 < (l.length : Int)))) (chkV n l) := by
    unfold chkV
    refine Ev.step ?_ (fun k => by rw [sizarref18_Check.j0])
    by_cases h : n < 2 ∨ 4096 < n ∨ 65536 < (l.length : Int)
    · rw [if_pos h]; exact Ev.pos (decide_eq_true h) (Ev.of _)
    · rw [if_neg h]
      refine Ev.neg (by simp only [decide_eq_true_eq]; exact h) ?_
      exact ref_check_l0 n l (by omega) _ 0 (by omega) (by omega) (Nat.le_refl _)
  refine hj.congr fun k => ?_
  unfold sizarref18_Check.f
  by_cases h1 : n < 2
  · rw [if_pos h1, decide_eq_true (by omega)]
  · rw [if_neg h1]
    by_cases h2 : n > 4096
    · rw [if_pos h2, decide_eq_true (by omega)]
    · rw [if_neg h2]
      congr 1
      exact decide_eq_decide.2 (by omega)
open Classical in
theorem ref_ends (n : Int) (l : List S61) (s t : Int) : Ev (fun k => sizarref18_ends.f k n l s t) (decide (Good n l s t)) := by
  unfold sizarref18_ends.f
  refine Ev.bind (ref_check n l) ?_
  by_cases h0 : chkV n l = 0
  · refine Ev.pos h0 ?_
    by_cases h1 : s ≥ 0
    · refine Ev.pos h1 ?_
      by_cases h2 : s < n
      · refine Ev.pos h2 ?_
        by_cases h3 : t ≥ 0
        · refine Ev.pos h3 ?_
          by_cases h4 : t < n
          · refine Ev.pos h4 ((Ev.of _).eq ?_)
            by_cases h5 : s = t
            · rw [decide_eq_false (fun h => h.ne h5)]; simp [h5]
            · rw [decide_eq_true ((good_iff n l s t).1 ⟨h0, h1, h2, h3, h4, h5⟩)]; simp [h5]
          · exact Ev.neg h4 ((Ev.of _).eq (decide_eq_false (fun h => h4 h.t1)).symm)
        · exact Ev.neg h3 ((Ev.of _).eq (decide_eq_false (fun h => h3 h.t0)).symm)
      · exact Ev.neg h2 ((Ev.of _).eq (decide_eq_false (fun h => h2 h.f1)).symm)
    · exact Ev.neg h1 ((Ev.of _).eq (decide_eq_false (fun h => h1 h.f0)).symm)
  · exact Ev.neg h0 ((Ev.of _).eq (decide_eq_false (fun h => h0 ((good_iff n l s t).2 h).1)).symm)
end Go.Proofs.Ytadeidhefjifaaa.Px
end
section
set_option linter.unusedVariables false
set_option linter.unusedSimpArgs false
namespace Go.Proofs.Ytadeidhefjifaaa.Px
open Go.RowKit Go.Shelf Go.Proofs.YtadeidhefjifaaaW.PrintWords Go.Proofs.YtadeidhefjifaaaW.PrintLast Go.Proofs.YtadeidhefjifaaaW.PrintMore
abbrev BndG (l : List S61) (fl : List Int) : Prop := FlowM.Bnd S61.f2 l fl
/-- the reference's sum at a node -/
theorem ref_out_l0 (l : List S61) (fl : List Int) (v : Int) (hl : fl.length = l.length) (hm : l.length ≤ 65536) (hb : ∀ i : Int, 0 ≤ i → i < l.length → 0 ≤ rd fl i ∧ rd fl i ≤ 1073741824) :
    ∀ (g : Nat) (i acc : Int), 0 ≤ i → i ≤ l.length → (l.length - i).toNat ≤ g → -(1073741824 * i) ≤ acc → acc ≤ 1073741824 * i →
      Ev (fun k => sizarref18_out.l0 k l fl v acc i) (acc + outsG (l.drop i.toNat) (fl.drop i.toNat) v) := by
  intro g
  induction g with
  | zero =>
    intro i acc i0 i1 hg ha hb'
    rw [List.drop_eq_nil_of_le (by omega)]
    refine Ev.step ?_ (fun k => by rw [sizarref18_out.l0])
    refine Ev.neg (by omega) ((Ev.of _).eq ?_)
    simp [outsG, FlowM.outs]
  | succ g ih =>
    intro i acc i0 i1 hg ha hb'
    by_cases hlt : i < l.length
    · rw [drop_cons i0 hlt, drop_consI i0 (by omega)]
      have hf := hb i i0 hlt
      refine Ev.step ?_ (fun k => by rw [sizarref18_out.l0])
      refine Ev.pos hlt (Ev.pos i0 ?_)
      have hj : ∀ a : Int, -(1073741824 * i) ≤ a → a ≤ 1073741824 * i + 1073741824 → (a - rd fl i ≥ -(1073741824 * (i + 1))) → Ev (fun k => sizarref18_out.j1 k l fl v a i) ((a - if (rd_T61 l i).f1 = v then rd fl i else 0) + outsG (l.drop (i + 1).toNat) (fl.drop (i + 1).toNat) v) := by
        intro a h1 h2 h3
        refine Ev.step ?_ (fun k => by rw [sizarref18_out.j1])
        refine Ev.pos i0 (Ev.pos hlt ?_)
        by_cases hv : (rd_T61 l i).f1 = v
        · refine Ev.pos hv (Ev.pos (by omega) ?_)
          rw [if_pos hv, wrap_id (a - rd fl i) (by omega) (by omega), wrap_id (i + 1) (by omega) (by omega)]
          exact ih (i + 1) (a - rd fl i) (by omega) (by omega) (by omega) (by omega) (by omega)
        · refine Ev.neg hv ?_
          rw [if_neg hv, wrap_id (i + 1) (by omega) (by omega)]
          refine (ih (i + 1) a (by omega) (by omega) (by omega) (by omega) (by omega)).eq (by omega)
      by_cases hu : (rd_T61 l i).f0 = v
      · refine Ev.pos hu (Ev.pos (by omega) ?_)
        rw [wrap_id (acc + rd fl i) (by omega) (by omega)]
        refine (hj (acc + rd fl i) (by omega) (by omega) (by omega)).eq ?_
        simp only [outsG, FlowM.outs, if_pos hu]; omega
      · refine Ev.neg hu ?_
        refine (hj acc (by omega) (by omega) (by omega)).eq ?_
        simp only [outsG, FlowM.outs, if_neg hu]; omega
    · rw [List.drop_eq_nil_of_le (by omega)]
      refine Ev.step ?_ (fun k => by rw [sizarref18_out.l0])
      refine Ev.neg hlt ((Ev.of _).eq ?_)
      simp [outsG, FlowM.outs]
theorem ref_out (l : List S61) (fl : List Int) (v : Int) (hm : l.length ≤ 65536) (hc : ∀ x ∈ l, x.f2 ≤ 1073741824) (h : BndG l fl) : Ev (fun k => sizarref18_out.f k l fl v) (outsG l fl v) := by
  have hb := (bd_iff l fl).1 h
  refine (ref_out_l0 l fl v hb.1 hm (fun i i0 i1 => ⟨(hb.2 i i0 i1).1, by have := (hb.2 i i0 i1).2; have := hc _ (rdT_mem l i i0 i1); omega⟩) _ 0 0 (by omega) (by omega) (Nat.le_refl _) (by omega) (by omega)).eq ?_
  simp
open Classical in
/-- the value of a flow -/
noncomputable def valV (n : Int) (l : List S61) (s t : Int) (fl : List Int) : Int × Int := if Good n l s t ∧ FlowM.Flow S61.f0 S61.f1 S61.f2 n l s t fl then (outsG l fl s, 0) else (0, 180)
theorem val_pos {n : Int} {l : List S61} {s t : Int} {fl : List Int} (h : Good n l s t) (hf : FlowM.Flow S61.f0 S61.f1 S61.f2 n l s t fl) : valV n l s t fl = (outsG l fl s, 0) := if_pos ⟨h, hf⟩
theorem val_neg {n : Int} {l : List S61} {s t : Int} {fl : List Int} (h : ¬ (Good n l s t ∧ FlowM.Flow S61.f0 S61.f1 S61.f2 n l s t fl)) : valV n l s t fl = (0, 180) := if_neg h
open Classical in
/-- the end of both: is what is out zero at every inner node? -/
noncomputable def finV (n s t : Int) (o : Int → Int) (i : Int) : Int × Int := if ∀ v : Int, i ≤ v → v < n → v ≠ s → v ≠ t → o v = 0 then (o s, 0) else (0, 180)
theorem finV_step {n s t : Int} {o : Int → Int} {i : Int} (h : i = s ∨ i = t ∨ o i = 0) : finV n s t o i = finV n s t o (i + 1) := by
  unfold finV
  have : (∀ v : Int, i ≤ v → v < n → v ≠ s → v ≠ t → o v = 0) ↔ (∀ v : Int, i + 1 ≤ v → v < n → v ≠ s → v ≠ t → o v = 0) := by
    refine ⟨fun hh v h1 h2 h3 h4 => hh v (by omega) h2 h3 h4, fun hh v h1 h2 h3 h4 => ?_⟩
    by_cases e : v = i
    · subst e; rcases h with h | h | h
      · exact absurd h h3
      · exact absurd h h4
      · exact h
    · exact hh v (by omega) h2 h3 h4
  by_cases hh : ∀ v : Int, i ≤ v → v < n → v ≠ s → v ≠ t → o v = 0
  · rw [if_pos hh, if_pos (this.1 hh)]
  · rw [if_neg hh, if_neg (fun e => hh (this.2 e))]
theorem finV_bad {n s t : Int} {o : Int → Int} {i : Int} (h1 : i < n) (h2 : i ≠ s) (h3 : i ≠ t) (h4 : o i ≠ 0) : finV n s t o i = (0, 180) := if_neg fun h => h4 (h i (by omega) h1 h2 h3)
theorem finV_end {n s t : Int} {o : Int → Int} {i : Int} (h : n ≤ i) : finV n s t o i = (o s, 0) := if_pos fun v h1 h2 _ _ => by omega
theorem fin_val {n : Int} {l : List S61} {s t : Int} {fl : List Int} (h : Good n l s t) (hb : BndG l fl) : finV n s t (outsG l fl) 0 = valV n l s t fl := by
  by_cases hc : ∀ v : Int, 0 ≤ v → v < n → v ≠ s → v ≠ t → outsG l fl v = 0
  · rw [val_pos h ⟨hb, hc⟩]; exact if_pos hc
  · rw [val_neg (fun hf => hc hf.2.cons)]; exact if_neg hc
end Go.Proofs.Ytadeidhefjifaaa.Px
end
section
set_option linter.unusedVariables false
set_option linter.unusedSimpArgs false
namespace Go.Proofs.Ytadeidhefjifaaa.Px
open Go.RowKit Go.Shelf Go.Proofs.YtadeidhefjifaaaW.PrintWords Go.Proofs.YtadeidhefjifaaaW.PrintLast Go.Proofs.YtadeidhefjifaaaW.PrintMore
theorem ref_val_l1 (n s t : Int) (l : List S61) (fl : List Int) (h : Good n l s t) (hb : BndG l fl) : ∀ (g : Nat) (i : Int), 0 ≤ i → i ≤ n → (n - i).toNat ≤ g →
    Ev (fun k => sizarref18_Value.l1 k n l s t fl i) (finV n s t (outsG l fl) i) := by
  have n4 := h.n4
  have hc : ∀ x ∈ l, x.f2 ≤ 1073741824 := fun x hx => (h.ends x hx).2.2.2.2
  intro g
  induction g with
  | zero =>
    intro i i0 i1 hg
    refine Ev.step ?_ (fun k => by rw [sizarref18_Value.l1])
    refine Ev.neg (by omega) (Ev.bind (ref_out l fl s h.m hc hb) ((Ev.of _).eq ?_))
    rw [finV_end (by omega)]
  | succ g ih =>
    intro i i0 i1 hg
    refine Ev.step ?_ (fun k => by rw [sizarref18_Value.l1])
    by_cases hlt : i < n
    · refine Ev.pos hlt ?_
      have hj : ∀ b : Bool, (b = false → i = s ∨ i = t ∨ outsG l fl i = 0) → (b = true → i ≠ s ∧ i ≠ t ∧ outsG l fl i ≠ 0) → Ev (fun k => sizarref18_Value.j3 k n l s t fl i b) (finV n s t (outsG l fl) i) := by
        intro b h1 h2
        refine Ev.step ?_ (fun k => by rw [sizarref18_Value.j3])
        cases b with
        | true => exact Ev.pos rfl ((Ev.of _).eq (finV_bad hlt (h2 rfl).1 (h2 rfl).2.1 (h2 rfl).2.2).symm)
        | false =>
          refine Ev.neg (by decide) ?_
          rw [wrap_id (i + 1) (by omega) (by omega), finV_step (h1 rfl)]
          exact ih (i + 1) (by omega) (by omega) (by omega)
      by_cases hs : i = s
      · exact Ev.pos hs (hj false (fun _ => .inl hs) (fun h => by cases h))
      · refine Ev.neg hs ?_
        by_cases ht : i = t
        · exact Ev.pos ht (hj false (fun _ => .inr (.inl ht)) (fun h => by cases h))
        · exact Ev.neg ht (Ev.bind (ref_out l fl i h.m hc hb) (hj _ (fun h => .inr (.inr (by simpa using h))) (fun h => ⟨hs, ht, by simpa using h⟩)))
    · refine Ev.neg hlt (Ev.bind (ref_out l fl s h.m hc hb) ((Ev.of _).eq ?_))
      rw [finV_end (by omega)]
theorem ref_val_l0 (n s t : Int) (l : List S61) (fl : List Int) (h : Good n l s t) (hl : fl.length = l.length) : ∀ (g : Nat) (i : Int), 0 ≤ i → i ≤ l.length → (l.length - i).toNat ≤ g →
    (∀ j : Int, 0 ≤ j → j < i → 0 ≤ rd fl j ∧ rd fl j ≤ (rd_T61 l j).f2) →
    Ev (fun k => sizarref18_Value.l0 k n l s t fl i) (valV n l s t fl) := by
  have hm := h.m
  have n2 := h.n2
  have hend : ∀ (i : Int), 0 ≤ i → ¬ i < l.length → (∀ j : Int, 0 ≤ j → j < i → 0 ≤ rd fl j ∧ rd fl j ≤ (rd_T61 l j).f2) → Ev (fun k => sizarref18_Value.l0 k n l s t fl i) (valV n l s t fl) := by
    intro i i0 hlt hpre
    have hb : BndG l fl := (bd_iff l fl).2 ⟨hl, fun j j0 j1 => hpre j j0 (by omega)⟩
    refine Ev.step ?_ (fun k => by rw [sizarref18_Value.l0])
    refine Ev.neg hlt ?_
    rw [← fin_val h hb]
    exact ref_val_l1 n s t l fl h hb _ 0 (by omega) (by omega) (Nat.le_refl _)
  intro g
  induction g with
  | zero => intro i i0 i1 hg hpre; exact hend i i0 (by omega) hpre
  | succ g ih =>
    intro i i0 i1 hg hpre
    by_cases hlt : i < l.length
    · refine Ev.step ?_ (fun k => by rw [sizarref18_Value.l0])
      refine Ev.pos hlt (Ev.pos i0 (Ev.pos (by omega) ?_))
      by_cases h1 : rd fl i < 0
      · exact Ev.pos h1 ((Ev.of _).eq (val_neg (fun hf => by have := ((bd_iff l fl).1 hf.2.bnd).2 i i0 hlt; omega)).symm)
      · refine Ev.neg h1 ?_
        by_cases h2 : rd fl i > (rd_T61 l i).f2
        · exact Ev.pos h2 ((Ev.of _).eq (val_neg (fun hf => by have := ((bd_iff l fl).1 hf.2.bnd).2 i i0 hlt; omega)).symm)
        · refine Ev.neg h2 ?_
          rw [wrap_id (i + 1) (by omega) (by omega)]
          refine ih (i + 1) (by omega) (by omega) (by omega) (fun j j0 j1 => ?_)
          by_cases e : j = i
          · subst e; omega
          · exact hpre j j0 (by omega)
    · exact hend i i0 hlt hpre
open Classical in
theorem ref_val (n s t : Int) (l : List S61) (fl : List Int) : Ev (fun k => sizarref18_Value.f k n l s t fl) (valV n l s t fl) := by
  unfold sizarref18_Value.f
  refine Ev.bind (ref_ends n l s t) ?_
  by_cases h : Good n l s t
  · refine Ev.pos (decide_eq_true h) ?_
    refine Ev.step ?_ (fun k => by rw [sizarref18_Value.j0])
    by_cases hl : fl.length = l.length
    · refine Ev.neg (by simp [hl]) ?_
      exact ref_val_l0 n s t l fl h hl _ 0 (by omega) (by omega) (Nat.le_refl _) (fun j j0 j1 => by omega)
    · exact Ev.pos (by simp; omega) ((Ev.of _).eq (val_neg (fun hf => hl hf.2.bnd.length)).symm)
  · refine Ev.neg (by simp [h]) ?_
    refine Ev.step ?_ (fun k => by rw [sizarref18_Value.j0])
    exact Ev.pos rfl ((Ev.of _).eq (val_neg (fun hf => h hf.1)).symm)
theorem cof_rd (c : List Bool) (v : Int) : rdOf false c v = Cof c v := rfl
end Go.Proofs.Ytadeidhefjifaaa.Px
end
section
set_option linter.unusedVariables false
set_option linter.unusedSimpArgs false
namespace Go.Proofs.Ytadeidhefjifaaa.Px
open Go.RowKit Go.Shelf Go.Proofs.YtadeidhefjifaaaW.PrintWords Go.Proofs.YtadeidhefjifaaaW.PrintLast Go.Proofs.YtadeidhefjifaaaW.PrintMore
/-- the residual edge that an entry of the specification's search names -/
def rOf (y : Int) : Int := if y > 0 then 2 * (y - 1) else 2 * (-y - 1) + 1
/-- the specification's two lists say what one list of residual edges says -/
structure RM (n : Nat) (frm : Int) (met : List Bool) (by_ b : List Int) : Prop where
  lm : met.length = n
  ly : by_.length = n
  lb : b.length = n
  mt : ∀ v : Int, 0 ≤ v → v < n → rdOf false met v = decide (0 ≤ rd b v)
  by' : ∀ v : Int, 0 ≤ v → v < n → v ≠ frm → 0 ≤ rd b v → rd by_ v ≠ 0 ∧ rOf (rd by_ v) = rd b v
theorem rdB_set {b : List Bool} {n : Nat} (hb : b.length = n) (u v : Int) (x : Bool) (u0 : 0 ≤ u) (u1 : u < n) (v0 : 0 ≤ v) : rdOf false (b.set u.toNat x) v = if v = u then x else rdOf false b v := by
  unfold rdOf
  by_cases e : v = u
  · subst e; rw [if_pos rfl]; simp [List.getD, show v.toNat < b.length by omega]
  · rw [if_neg e]
    have : v.toNat ≠ u.toNat := by omega
    simp [List.getD, List.getElem?_set_ne (Ne.symm this)]
theorem RM.set {n : Nat} {frm : Int} {met : List Bool} {by_ b : List Int} (h : RM n frm met by_ b) (u y : Int) (u0 : 0 ≤ u) (u1 : u < n) (hy : y ≠ 0) (hr : 0 ≤ rOf y) : RM n frm (met.set u.toNat true) (by_.set u.toNat y) (b.set u.toNat (rOf y)) where
  lm := by simp [h.lm]
  ly := by simp [h.ly]
  lb := by simp [h.lb]
  mt := fun v v0 v1 => by
    rw [rdB_set h.lm u v true u0 u1 v0, rd_set h.lb u _ v u0 u1 v0]
    by_cases e : v = u
    · rw [if_pos e, if_pos e]; simp [hr]
    · rw [if_neg e, if_neg e]; exact h.mt v v0 v1
  by' := fun v v0 v1 hv hb => by
    rw [rd_set h.lb u _ v u0 u1 v0] at hb ⊢
    rw [rd_set h.ly u _ v u0 u1 v0]
    by_cases e : v = u
    · rw [if_pos e, if_pos e]; exact ⟨hy, rfl⟩
    · rw [if_neg e, if_neg e]; rw [if_neg e] at hb; exact h.by' v v0 v1 hv hb
/-- what a part of a round keeps -/
structure StepOK (n : Nat) (l : List S61) (fl : List Int) (frm : Int) (b q b' q' : List Int) : Prop where
  inv : SInv n l fl frm b' q'
  keep : ∀ u : Int, 0 ≤ u → u < n → 0 ≤ rd b u → rd b' u = rd b u
  sub : ∀ x ∈ q, x ∈ q'
  new : ∀ u : Int, 0 ≤ u → u < n → 0 ≤ rd b' u → 0 ≤ rd b u ∨ u ∈ q'
  mea : 2 * unset b' + q'.length ≤ 2 * unset b + q.length
theorem StepOK.refl {n : Nat} {l : List S61} {fl : List Int} {frm : Int} {b q : List Int} (h : SInv n l fl frm b q) : StepOK n l fl frm b q b q :=
  ⟨h, fun _ _ _ _ => rfl, fun _ h => h, fun _ _ _ h => .inl h, Nat.le_refl _⟩
theorem StepOK.trans {n : Nat} {l : List S61} {fl : List Int} {frm : Int} {b q b' q' b'' q'' : List Int} (h : StepOK n l fl frm b q b' q') (k : StepOK n l fl frm b' q' b'' q'') : StepOK n l fl frm b q b'' q'' :=
  ⟨k.inv, fun u u0 u1 hu => by rw [k.keep u u0 u1 (by rw [h.keep u u0 u1 hu]; exact hu), h.keep u u0 u1 hu], fun x hx => k.sub x (h.sub x hx),
    fun u u0 u1 hu => by
      rcases k.new u u0 u1 hu with h1 | h1
      · rcases h.new u u0 u1 h1 with h2 | h2
        · exact .inl h2
        · exact .inr (k.sub u h2)
      · exact .inr h1, Nat.le_trans k.mea h.mea⟩
/-- one usable residual edge -/
theorem step_one {n : Nat} {l : List S61} {fl : List Int} {frm : Int} {b q : List Int} (hg : GoodL n l) (v r : Int) (v0 : 0 ≤ v) (v1 : v < n) (hI : SInv n l fl frm b q) (hv : 0 ≤ rd b v)
    (r0 : 0 ≤ r) (r1 : r < 2 * l.length) (hb : begR l r = v) (hc : capR l fl r > 0) :
    (0 ≤ rd b (endR l r) → StepOK n l fl frm b q b q) ∧ (¬ 0 ≤ rd b (endR l r) → StepOK n l fl frm b q (b.set (endR l r).toNat r) (q ++ [endR l r]) ∧ 0 ≤ rd (b.set (endR l r).toNat r) (endR l r)) := by
  have he := endR_in n l hg r r0 r1
  refine ⟨fun _ => StepOK.refl hI, fun h => ?_⟩
  have hx : (⟨(r, endR l r), he⟩ : RE n) ∈ useG n l fl v := (use_iff n l fl hg v v0 _).2 ⟨r0, r1, hb, hc, rfl⟩
  have hs : scanU (-1) b q [(⟨(r, endR l r), he⟩ : RE n)] = (b.set (endR l r).toNat r, q ++ [endR l r], false) := by
    rw [scan_new _ _ _ _ _ h (by show ¬ endR l r = -1; omega)]; rfl
  obtain ⟨i1, i2, i3, i4⟩ := scan_inv n l hg fl frm (-1) v v0 v1 _ b q _ _ _ (fun x hx' => by obtain rfl := List.mem_singleton.1 hx'; exact hx) hI hv hs
  obtain ⟨f1, f2, f3⟩ := scan_facts (-1) _ b q _ _ _ hs hI.len (fun x hx => (hI.que x hx).1) (fun e he => by obtain rfl := List.mem_singleton.1 he; exact r0)
  exact ⟨⟨i1, i2, (i4 rfl).2.1, (i4 rfl).2.2, f3⟩, (i4 rfl).1 ⟨(r, endR l r), he⟩ (by simp)⟩
theorem rof_pos (i : Int) (h : 0 ≤ i) : rOf (i + 1) = 2 * i := by unfold rOf; rw [if_pos (by omega)]; omega
theorem rof_neg (i : Int) (h : 0 ≤ i) : rOf (-(i + 1)) = 2 * i + 1 := by unfold rOf; rw [if_neg (by omega)]; omega
section
variable {n : Nat} {l : List S61} {fl : List Int} {frm : Int}
/-- what the rest of a round needs: all of it -/
abbrev Post (n : Nat) (l : List S61) (fl : List Int) (frm : Int) (x : List Bool × List Int) : Prop := ∃ b, RM n frm x.1 x.2 b ∧ 0 ≤ rd b frm ∧ (∀ v : Int, 0 ≤ v → v < n → 0 ≤ rd b v → ∃ p, GP n l fl b frm v p) ∧ (∀ v : Int, 0 ≤ v → v < n → 0 ≤ rd b v → Shut n l fl b v)
/-- the inner loop: all residual edges of a node -/
theorem inner (hg : GoodL n l) (hm : l.length ≤ 65536) (hn : n ≤ 4096) (hfl : fl.length = l.length) (j v : Int) (v0 : 0 ≤ v) (v1 : v < n) (j0 : 0 ≤ j) (b0 : List Int) (qu0 : List Int) (hj : j < qu0.length) (hq0 : 2 * unset b0 + qu0.length ≤ 2 * n + 1) :
    ∀ (g : Nat) (i : Int) (met : List Bool) (by_ b qu : List Int), 0 ≤ i → i ≤ l.length → (l.length - i).toNat ≤ g → RM n frm met by_ b → qu0.take (j + 1).toNat = qu.take (j + 1).toNat → (j + 1).toNat ≤ qu.length → SInv n l fl frm b (qu.drop (j + 1).toNat) → 0 ≤ rd b v →
      StepOK n l fl frm b0 (qu0.drop (j + 1).toNat) b (qu.drop (j + 1).toNat) → (∀ r : Int, 0 ≤ r → r < 2 * i → begR l r = v → capR l fl r > 0 → 0 ≤ rd b (endR l r)) →
      (∀ (met' : List Bool) (by' b' qu' : List Int), RM n frm met' by' b' → (j + 1).toNat ≤ qu'.length → StepOK n l fl frm b0 (qu0.drop (j + 1).toNat) b' (qu'.drop (j + 1).toNat) → Shut n l fl b' v → ∃ R, Ev (fun k => sizarref18_search.l0 k l fl met' by' qu' (j + 1)) R ∧ Post n l fl frm R) →
      ∃ R, Ev (fun k => sizarref18_search.l1 k l fl met by_ qu j v i) R ∧ Post n l fl frm R := by
  have hend : ∀ (i : Int) (met : List Bool) (by_ b qu : List Int), 0 ≤ i → i ≤ l.length → ¬ i < l.length → RM n frm met by_ b → (j + 1).toNat ≤ qu.length → StepOK n l fl frm b0 (qu0.drop (j + 1).toNat) b (qu.drop (j + 1).toNat) → (∀ r : Int, 0 ≤ r → r < 2 * i → begR l r = v → capR l fl r > 0 → 0 ≤ rd b (endR l r)) →
      (∀ (met' : List Bool) (by' b' qu' : List Int), RM n frm met' by' b' → (j + 1).toNat ≤ qu'.length → StepOK n l fl frm b0 (qu0.drop (j + 1).toNat) b' (qu'.drop (j + 1).toNat) → Shut n l fl b' v → ∃ R, Ev (fun k => sizarref18_search.l0 k l fl met' by' qu' (j + 1)) R ∧ Post n l fl frm R) →
      ∃ R, Ev (fun k => sizarref18_search.l1 k l fl met by_ qu j v i) R ∧ Post n l fl frm R := by
    intro i met by_ b qu i0 i1 hlt hR hql hS hu hk
    obtain ⟨R, h1, h2⟩ := hk met by_ b qu hR hql hS (fun x hx => by
      obtain ⟨a1, a2, a3, a4, a5⟩ := (use_iff n l fl hg v v0 x).1 hx
      rw [a5]; exact hu _ a1 (by omega) a3 a4)
    refine ⟨R, Ev.step ?_ (fun k => by rw [sizarref18_search.l1]), h2⟩
    refine Ev.neg hlt ?_
    rw [wrap_id (j + 1) (by omega) (by have := hS.mea; simp at this; omega)]
    exact h1
  intro g
  induction g with
  | zero => intro i met by_ b qu i0 i1 hg' hR ht hql hI hv hS hu hk; exact hend i met by_ b qu i0 i1 (by omega) hR hql hS hu hk
  | succ g ih =>
    intro i met by_ b qu i0 i1 hg' hR ht hql hI hv hS hu hk
    by_cases hlt : i < l.length
    · have hx := hg _ (rdT_mem l i i0 hlt)
      -- the lengths of the queue
      have hlq : ∀ (b' qu' : List Int), (j + 1).toNat ≤ qu'.length → StepOK n l fl frm b0 (qu0.drop (j + 1).toNat) b' (qu'.drop (j + 1).toNat) → qu'.length ≤ 12288 := by
        intro b' qu' h1 h2
        have := h2.mea
        simp only [List.length_drop] at this
        omega
      -- the second test, and what follows it
      have second : ∀ (met : List Bool) (by_ b qu : List Int), RM n frm met by_ b → qu0.take (j + 1).toNat = qu.take (j + 1).toNat → (j + 1).toNat ≤ qu.length → SInv n l fl frm b (qu.drop (j + 1).toNat) → 0 ≤ rd b v →
          StepOK n l fl frm b0 (qu0.drop (j + 1).toNat) b (qu.drop (j + 1).toNat) → (∀ r : Int, 0 ≤ r → r < 2 * i + 1 → begR l r = v → capR l fl r > 0 → 0 ≤ rd b (endR l r)) →
          ∃ R, Ev (fun k => sizarref18_search.j3 k l fl met by_ qu j v i) R ∧ Post n l fl frm R := by
        intro met by_ b qu hR ht hql hI hv hS hu
        have hb1 : begR l (2 * i + 1) = (rd_T61 l i).f1 := by unfold begR; rw [if_neg (by omega), show (2 * i + 1) / 2 = i by omega]
        have he1 : endR l (2 * i + 1) = (rd_T61 l i).f0 := by unfold endR; rw [if_neg (by omega), show (2 * i + 1) / 2 = i by omega]
        have hc1 : capR l fl (2 * i + 1) = rd fl i := by unfold capR; rw [if_neg (by omega), show (2 * i + 1) / 2 = i by omega]
        -- nothing is found
        have none_ : (begR l (2 * i + 1) = v → capR l fl (2 * i + 1) > 0 → 0 ≤ rd b (endR l (2 * i + 1))) → ∃ R, Ev (fun k => sizarref18_search.j4 k l fl met by_ qu j v i false) R ∧ Post n l fl frm R := by
          intro hno
          obtain ⟨R, h1, h2⟩ := ih (i + 1) met by_ b qu (by omega) (by omega) (by omega) hR ht hql hI hv hS (fun r r0 r1 hb hc => by
            by_cases e : r = 2 * i + 1
            · subst e; exact hno hb hc
            · exact hu r r0 (by omega) hb hc) hk
          refine ⟨R, Ev.step ?_ (fun k => by rw [sizarref18_search.j4]), h2⟩
          refine Ev.neg (by decide) ?_
          rw [wrap_id (i + 1) (by omega) (by omega)]; exact h1
        by_cases h1 : (rd_T61 l i).f1 = v
        · by_cases h2 : rd fl i > 0
          · by_cases h3 : 0 ≤ rd b (rd_T61 l i).f0
            · obtain ⟨R, e1, e2⟩ := none_ (fun _ _ => by rw [he1]; exact h3)
              refine ⟨R, Ev.step ?_ (fun k => by rw [sizarref18_search.j3]), e2⟩
              refine Ev.pos i0 (Ev.pos hlt (Ev.pos h1 (Ev.pos (by omega) (Ev.pos h2 (Ev.pos hx.1.1 (Ev.pos (by rw [hR.lm]; exact hx.1.2) ?_))))))
              rw [hR.mt _ hx.1.1 hx.1.2, decide_eq_true h3]; exact e1
            · obtain ⟨hS2, hnew⟩ := (step_one hg v (2 * i + 1) v0 v1 hI hv (by omega) (by omega) (hb1.trans h1) (by rw [hc1]; exact h2)).2 (by rw [he1]; exact h3)
              rw [he1] at hS2 hnew
              have hR2 := hR.set (rd_T61 l i).f0 (-(i + 1)) hx.1.1 hx.1.2 (by omega) (by rw [rof_neg i i0]; omega)
              rw [rof_neg i i0] at hR2
              have hd : (qu ++ [(rd_T61 l i).f0]).drop (j + 1).toNat = qu.drop (j + 1).toNat ++ [(rd_T61 l i).f0] := List.drop_append_of_le_length hql
              rw [← hd] at hS2
              have hS3 := hS.trans hS2
              obtain ⟨R, e1, e2⟩ := ih (i + 1) _ _ _ (qu ++ [(rd_T61 l i).f0]) (by omega) (by omega) (by omega) hR2 (by rw [List.take_append_of_le_length hql]; exact ht) (by simp; omega) hS2.inv (by rw [hS2.keep v v0 v1 hv]; exact hv) hS3 (fun r r0 r1 hb hc => by
                by_cases e : r = 2 * i + 1
                · subst e; rw [he1]; exact hnew
                · have := hu r r0 (by omega) hb hc
                  have he := endR_in n l hg r r0 (by omega)
                  rw [hS2.keep _ he.1 he.2 this]; exact this) hk
              refine ⟨R, Ev.step ?_ (fun k => by rw [sizarref18_search.j3]), e2⟩
              refine Ev.pos i0 (Ev.pos hlt (Ev.pos h1 (Ev.pos (by omega) (Ev.pos h2 (Ev.pos hx.1.1 (Ev.pos (by rw [hR.lm]; exact hx.1.2) ?_))))))
              rw [hR.mt _ hx.1.1 hx.1.2, decide_eq_false h3]
              refine Ev.step ?_ (fun k => by rw [sizarref18_search.j4])
              have := hlq b qu hql hS
              refine Ev.pos rfl (Ev.pos i0 (Ev.pos hlt (Ev.pos hx.1.1 (Ev.pos (by rw [hR.lm]; exact hx.1.2) (Ev.pos (by rw [hR.ly]; exact hx.1.2) (Ev.pos (by omega) ?_))))))
              rw [wrap_id (i + 1) (by omega) (by omega), wrap_id (-(i + 1)) (by omega) (by omega)]; exact e1
          · obtain ⟨R, e1, e2⟩ := none_ (fun _ hc => by rw [hc1] at hc; exact absurd hc h2)
            refine ⟨R, Ev.step ?_ (fun k => by rw [sizarref18_search.j3]), e2⟩
            exact Ev.pos i0 (Ev.pos hlt (Ev.pos h1 (Ev.pos (by omega) (Ev.neg h2 e1))))
        · obtain ⟨R, e1, e2⟩ := none_ (fun hb _ => absurd (hb1.symm.trans hb) h1)
          refine ⟨R, Ev.step ?_ (fun k => by rw [sizarref18_search.j3]), e2⟩
          exact Ev.pos i0 (Ev.pos hlt (Ev.neg h1 e1))
      have hb0 : begR l (2 * i) = (rd_T61 l i).f0 := by unfold begR; rw [if_pos (by omega), show (2 * i) / 2 = i by omega]
      have he0 : endR l (2 * i) = (rd_T61 l i).f1 := by unfold endR; rw [if_pos (by omega), show (2 * i) / 2 = i by omega]
      have hc0 : capR l fl (2 * i) = (rd_T61 l i).f2 - rd fl i := by unfold capR; rw [if_pos (by omega), show (2 * i) / 2 = i by omega]
      have none_ : (begR l (2 * i) = v → capR l fl (2 * i) > 0 → 0 ≤ rd b (endR l (2 * i))) → ∃ R, Ev (fun k => sizarref18_search.j2 k l fl met by_ qu j v i false) R ∧ Post n l fl frm R := by
        intro hno
        obtain ⟨R, h1, h2⟩ := second met by_ b qu hR ht hql hI hv hS (fun r r0 r1 hb hc => by
          by_cases e : r = 2 * i
          · subst e; exact hno hb hc
          · exact hu r r0 (by omega) hb hc)
        refine ⟨R, Ev.step ?_ (fun k => by rw [sizarref18_search.j2]), h2⟩
        exact Ev.neg (by decide) h1
      by_cases h1 : (rd_T61 l i).f0 = v
      · by_cases h2 : rd fl i < (rd_T61 l i).f2
        · by_cases h3 : 0 ≤ rd b (rd_T61 l i).f1
          · obtain ⟨R, e1, e2⟩ := none_ (fun _ _ => by rw [he0]; exact h3)
            refine ⟨R, Ev.step ?_ (fun k => by rw [sizarref18_search.l1]), e2⟩
            refine Ev.pos hlt (Ev.pos i0 (Ev.pos h1 (Ev.pos (by omega) (Ev.pos h2 (Ev.pos hx.2.1.1 (Ev.pos (by rw [hR.lm]; exact hx.2.1.2) ?_))))))
            rw [hR.mt _ hx.2.1.1 hx.2.1.2, decide_eq_true h3]; exact e1
          · obtain ⟨hS2, hnew⟩ := (step_one hg v (2 * i) v0 v1 hI hv (by omega) (by omega) (hb0.trans h1) (by rw [hc0]; omega)).2 (by rw [he0]; exact h3)
            rw [he0] at hS2 hnew
            have hR2 := hR.set (rd_T61 l i).f1 (i + 1) hx.2.1.1 hx.2.1.2 (by omega) (by rw [rof_pos i i0]; omega)
            rw [rof_pos i i0] at hR2
            have hd : (qu ++ [(rd_T61 l i).f1]).drop (j + 1).toNat = qu.drop (j + 1).toNat ++ [(rd_T61 l i).f1] := List.drop_append_of_le_length hql
            rw [← hd] at hS2
            have hS3 := hS.trans hS2
            obtain ⟨R, e1, e2⟩ := second _ _ _ (qu ++ [(rd_T61 l i).f1]) hR2 (by rw [List.take_append_of_le_length hql]; exact ht) (by simp; omega) hS2.inv (by rw [hS2.keep v v0 v1 hv]; exact hv) hS3 (fun r r0 r1 hb hc => by
              by_cases e : r = 2 * i
              · subst e; rw [he0]; exact hnew
              · have := hu r r0 (by omega) hb hc
                have he := endR_in n l hg r r0 (by omega)
                rw [hS2.keep _ he.1 he.2 this]; exact this)
            refine ⟨R, Ev.step ?_ (fun k => by rw [sizarref18_search.l1]), e2⟩
            refine Ev.pos hlt (Ev.pos i0 (Ev.pos h1 (Ev.pos (by omega) (Ev.pos h2 (Ev.pos hx.2.1.1 (Ev.pos (by rw [hR.lm]; exact hx.2.1.2) ?_))))))
            rw [hR.mt _ hx.2.1.1 hx.2.1.2, decide_eq_false h3]
            refine Ev.step ?_ (fun k => by rw [sizarref18_search.j2])
            have := hlq b qu hql hS
            refine Ev.pos rfl (Ev.pos i0 (Ev.pos hlt (Ev.pos hx.2.1.1 (Ev.pos (by rw [hR.lm]; exact hx.2.1.2) (Ev.pos (by rw [hR.ly]; exact hx.2.1.2) (Ev.pos (by omega) ?_))))))
            rw [wrap_id (i + 1) (by omega) (by omega)]; exact e1
        · obtain ⟨R, e1, e2⟩ := none_ (fun _ hc => by rw [hc0] at hc; omega)
          refine ⟨R, Ev.step ?_ (fun k => by rw [sizarref18_search.l1]), e2⟩
          exact Ev.pos hlt (Ev.pos i0 (Ev.pos h1 (Ev.pos (by omega) (Ev.neg h2 e1))))
      · obtain ⟨R, e1, e2⟩ := none_ (fun hb _ => absurd (hb0.symm.trans hb) h1)
        refine ⟨R, Ev.step ?_ (fun k => by rw [sizarref18_search.l1]), e2⟩
        exact Ev.pos hlt (Ev.pos i0 (Ev.neg h1 e1))
    · exact hend i met by_ b qu i0 i1 hlt hR hql hS hu hk
/-- the outer loop -/
theorem outer (hg : GoodL n l) (hm : l.length ≤ 65536) (hn : n ≤ 4096) (hfl : fl.length = l.length) : ∀ (g : Nat) (j : Int) (met : List Bool) (by_ b qu : List Int), 0 ≤ j → j ≤ qu.length → 2 * unset b + qu.length ≤ 2 * n + 1 → (2 * unset b + qu.length - j).toNat ≤ g → RM n frm met by_ b → SInv n l fl frm b (qu.drop j.toNat) →
    (∀ v : Int, 0 ≤ v → v < n → 0 ≤ rd b v → v ∈ qu.drop j.toNat ∨ Shut n l fl b v) → ∃ R, Ev (fun k => sizarref18_search.l0 k l fl met by_ qu j) R ∧ Post n l fl frm R := by
  have hend : ∀ (j : Int) (met : List Bool) (by_ b qu : List Int), 0 ≤ j → j ≤ qu.length → ¬ j < qu.length → RM n frm met by_ b → SInv n l fl frm b (qu.drop j.toNat) →
      (∀ v : Int, 0 ≤ v → v < n → 0 ≤ rd b v → v ∈ qu.drop j.toNat ∨ Shut n l fl b v) → ∃ R, Ev (fun k => sizarref18_search.l0 k l fl met by_ qu j) R ∧ Post n l fl frm R := by
    intro j met by_ b qu j0 j1 hlt hR hI hs
    refine ⟨(met, by_), Ev.step (Ev.neg hlt (Ev.of _)) (fun k => by rw [sizarref18_search.l0]), b, hR, hI.root, hI.path, fun v v0 v1 hv => ?_⟩
    rcases hs v v0 v1 hv with h | h
    · rw [List.drop_eq_nil_of_le (by omega)] at h; cases h
    · exact h
  intro g
  induction g with
  | zero => intro j met by_ b qu j0 j1 hq hg' hR hI hs; exact hend j met by_ b qu j0 j1 (by omega) hR hI hs
  | succ g ih =>
    intro j met by_ b qu j0 j1 hq hg' hR hI hs
    by_cases hlt : j < qu.length
    · have hd : qu.drop j.toNat = rd qu j :: qu.drop (j + 1).toNat := drop_consI j0 hlt
      rw [hd] at hI hs
      obtain ⟨⟨v0, v1⟩, hv⟩ := hI.que (rd qu j) (by simp)
      have hI2 : SInv n l fl frm b (qu.drop (j + 1).toNat) := ⟨hI.len, hI.root, hI.path, fun x hx => hI.que x (by simp [hx])⟩
      obtain ⟨R, h1, h2⟩ := inner hg hm hn hfl j (rd qu j) v0 v1 j0 b qu hlt hq _ 0 met by_ b qu (by omega) (by omega) (Nat.le_refl _) hR rfl (by omega) hI2 hv (StepOK.refl hI2) (fun r r0 r1 => by omega) (fun met' by' b' qu' hR' hl' hS' hsh => by
        have hme := hS'.mea
        simp only [List.length_drop] at hme
        refine ih (j + 1) met' by' b' qu' (by omega) (by omega) (by omega) (by omega) hR' hS'.inv (fun u u0 u1 hu => ?_)
        rcases hS'.new u u0 u1 hu with h | h
        · rcases hs u u0 u1 h with h | h
          · rcases List.mem_cons.1 h with rfl | h
            · exact .inr hsh
            · exact .inl (hS'.sub u h)
          · refine .inr fun x hx => ?_
            have := h x hx
            have hx2 := x.2
            rw [hS'.keep _ hx2.1 hx2.2 this]; exact this
        · exact .inl h)
      refine ⟨R, Ev.step (Ev.pos hlt (Ev.pos j0 h1)) (fun k => by rw [sizarref18_search.l0]), h2⟩
    · exact hend j met by_ b qu j0 j1 hlt hR (hI) hs
theorem rm_start (frm : Int) (f0 : 0 ≤ frm) (f1 : frm < n) : RM n frm ((List.replicate n false).set frm.toNat true) (List.replicate n 0) (bys0 n l frm) where
  lm := by simp
  ly := by simp
  lb := by simp
  mt := fun v v0 v1 => by
    rw [rdB_set (n := n) (by simp) frm v true f0 f1 v0, rd_bys0 n l frm v f0 f1 v0 v1]
    by_cases e : v = frm
    · rw [if_pos e, if_pos e]; symm; exact decide_eq_true (by omega)
    · rw [if_neg e, if_neg e]; simp [rdOf, List.getD, show v.toNat < n by omega]
  by' := fun v v0 v1 hv hb => by rw [rd_bys0 n l frm v f0 f1 v0 v1, if_neg hv] at hb; omega
/-- the specification's search -/
theorem ref_search (hg : GoodL n l) (hm : l.length ≤ 65536) (hn : n ≤ 4096) (hfl : fl.length = l.length) (f0 : 0 ≤ frm) (f1 : frm < n) : ∃ R, Ev (fun k => sizarref18_search.f k n l fl frm) R ∧ Post n l fl frm R := by
  have hI := sinv0 n l fl frm f0 f1
  have hun : unset (bys0 n l frm) ≤ n := Nat.le_trans (List.length_filter_le _ _) (by simp)
  obtain ⟨R, h1, h2⟩ := outer (frm := frm) hg hm hn hfl _ 0 _ _ (bys0 n l frm) [frm] (by omega) (by simp) (by simp; omega) (Nat.le_refl _) (rm_start frm f0 f1) hI (fun v v0 v1 hv => .inl (by
    rw [rd_bys0 n l frm v f0 f1 v0 v1] at hv
    by_cases e : v = frm
    · simp [e]
    · rw [if_neg e] at hv; omega))
  refine ⟨R, ?_, h2⟩
  unfold sizarref18_search.f
  rw [Int.toNat_natCast]
  exact Ev.pos (by omega) (Ev.pos (by omega) (Ev.bind (Ev.of _) (Ev.pos (by omega) (Ev.pos f0 (Ev.pos (by simp; omega) h1)))))
/-- the specification's way along a path -/
theorem aug_l1 {by_ b : List Int} {met : List Bool} (hR : RM n frm met by_ b) (hg : GoodL n l) (hm : l.length ≤ 65536) (m : Int) (m0 : 0 ≤ m) (m1 : m ≤ 1073741824) : ∀ (p : List Int) (v : Int) (x : List Int), GP n l fl b frm v p → Bd l x → (∀ r ∈ p, m ≤ capR l x r) → (p.map (· / 2)).Nodup →
    Ev (fun k => sizarref18_augment.l1 k l by_ frm m x v) (aug x p m)
  | [], v, x, h, _, _, _ => by
    have h : v = frm := h
    refine Ev.step ?_ (fun k => by rw [sizarref18_augment.l1])
    exact Ev.pos h (Ev.of _)
  | r :: p, v, x, h, hb, hc, hn => by
    obtain ⟨h1, ⟨h2, h3⟩, h4, h5, h6, h7, h8⟩ := h.1
    have hby := hR.by' v h2 h3 h1 (by omega)
    rw [← h4] at hby
    rw [List.map_cons, List.nodup_cons] at hn
    have hcr := hc r (by simp)
    have ih := aug_l1 hR hg hm m m0 m1 p (begR l r) (pushF x r m) h.2 (bd_push hb h5 h6 m0 hcr) (fun s hs => by
      rw [cap_push hb.1 h5 h6 (h.2.mem s hs).1 (fun he => hn.1 (by rw [← he]; exact List.mem_map.2 ⟨s, hs, rfl⟩))]
      exact hc s (by simp [hs])) hn.2
    have hbd := hb.2 (r / 2) (by omega) (by omega)
    have hcx := (hg _ (rdT_mem l (r / 2) (by omega) (by omega))).2.2.2
    have hlx := hb.1
    refine Ev.step ?_ (fun k => by rw [sizarref18_augment.l1])
    refine Ev.neg h1 (Ev.pos h2 (Ev.pos (by rw [hR.ly]; exact h3) ?_))
    by_cases hp : rd by_ v > 0
    · refine Ev.pos hp ?_
      have e : r = 2 * (rd by_ v - 1) := by rw [← hby.2]; unfold rOf; rw [if_pos hp]
      have e2 : rd by_ v - 1 = r / 2 := by omega
      rw [wrap_id (rd by_ v - 1) (by omega) (by omega), e2]
      refine Ev.pos (by omega) (Ev.pos (by omega) (Ev.pos (by omega) ?_))
      rw [wrap_id (rd x (r / 2) + m) (by omega) (by omega)]
      have e3 : x.set (r / 2).toNat (rd x (r / 2) + m) = pushF x r m := by unfold pushF; rw [if_neg (by omega)]
      have e4 : (rd_T61 l (r / 2)).f0 = begR l r := by unfold begR; rw [if_pos (by omega)]
      rw [e3, e4]; exact ih
    · refine Ev.neg hp ?_
      have hne := hby.1
      have e : r = 2 * (-rd by_ v - 1) + 1 := by rw [← hby.2]; unfold rOf; rw [if_neg hp]
      have e2 : -rd by_ v - 1 = r / 2 := by omega
      rw [wrap_id (-rd by_ v) (by omega) (by omega), wrap_id (-rd by_ v - 1) (by omega) (by omega), e2]
      refine Ev.pos (by omega) (Ev.pos (by omega) (Ev.pos (by omega) ?_))
      rw [wrap_id (rd x (r / 2) - m) (by omega) (by omega)]
      have e3 : x.set (r / 2).toNat (rd x (r / 2) - m) = pushF x r m := by unfold pushF; rw [if_pos (by omega)]
      have e4 : (rd_T61 l (r / 2)).f1 = begR l r := by unfold begR; rw [if_neg (by omega)]
      rw [e3, e4]; exact ih
theorem aug_l0 {by_ b : List Int} {met : List Bool} (hR : RM n frm met by_ b) (hg : GoodL n l) (hm : l.length ≤ 65536) (hb : Bd l fl) (tt : Int) (R : List Int) : ∀ (p : List Int) (v acc : Int), GP n l fl b frm v p → Ev (fun k => sizarref18_augment.l1 k l by_ frm (p.foldl (fun m r => mn m (capR l fl r)) acc) fl tt) R →
    Ev (fun k => sizarref18_augment.l0 k l fl by_ frm tt acc v) R
  | [], v, acc, h, h1 => by
    have h : v = frm := h
    have := hb.1
    refine Ev.step ?_ (fun k => by rw [sizarref18_augment.l0])
    refine Ev.pos h (Ev.bind (Ev.of _) (Ev.pos (by simp; omega) ?_))
    exact h1
  | r :: p, v, acc, h, hf => by
    obtain ⟨h1, ⟨h2, h3⟩, h4, h5, h6, h7, h8⟩ := h.1
    have hby := hR.by' v h2 h3 h1 (by omega)
    rw [← h4] at hby
    have ih := aug_l0 hR hg hm hb tt R p (begR l r) (mn acc (capR l fl r)) h.2 hf
    have hbd := hb.2 (r / 2) (by omega) (by omega)
    have hcx := (hg _ (rdT_mem l (r / 2) (by omega) (by omega))).2.2.2
    have hlx := hb.1
    refine Ev.step ?_ (fun k => by rw [sizarref18_augment.l0])
    refine Ev.neg h1 (Ev.pos h2 (Ev.pos (by rw [hR.ly]; exact h3) ?_))
    by_cases hp : rd by_ v > 0
    · refine Ev.pos hp ?_
      have e : r = 2 * (rd by_ v - 1) := by rw [← hby.2]; unfold rOf; rw [if_pos hp]
      have e2 : rd by_ v - 1 = r / 2 := by omega
      rw [wrap_id (rd by_ v - 1) (by omega) (by omega), e2]
      refine Ev.pos (by omega) (Ev.pos (by omega) (Ev.pos (by omega) ?_))
      rw [wrap_id ((rd_T61 l (r / 2)).f2 - rd fl (r / 2)) (by omega) (by omega)]
      have e3 : (rd_T61 l (r / 2)).f2 - rd fl (r / 2) = capR l fl r := by unfold capR; rw [if_pos (by omega)]
      have e4 : (rd_T61 l (r / 2)).f0 = begR l r := by unfold begR; rw [if_pos (by omega)]
      rw [e3, e4]; exact ih
    · refine Ev.neg hp ?_
      have hne := hby.1
      have e : r = 2 * (-rd by_ v - 1) + 1 := by rw [← hby.2]; unfold rOf; rw [if_neg hp]
      have e2 : -rd by_ v - 1 = r / 2 := by omega
      rw [wrap_id (-rd by_ v) (by omega) (by omega), wrap_id (-rd by_ v - 1) (by omega) (by omega), e2]
      refine Ev.pos (by omega) (Ev.pos (by omega) (Ev.pos (by omega) ?_))
      have e3 : rd fl (r / 2) = capR l fl r := by unfold capR; rw [if_neg (by omega)]
      have e4 : (rd_T61 l (r / 2)).f1 = begR l r := by unfold begR; rw [if_neg (by omega)]
      rw [e3, e4]; exact ih
/-- the specification's augmentation -/
theorem ref_augment {by_ b : List Int} {met : List Bool} (hR : RM n frm met by_ b) (hg : GoodL n l) (hm : l.length ≤ 65536) (hb : Bd l fl) (tt : Int) (p : List Int) (hp : GP n l fl b frm tt p) : Ev (fun k => sizarref18_augment.f k l fl by_ frm tt) (aug fl p (leastP l fl p)) := by
  obtain ⟨a, a2, c⟩ := leastP_ok hp
  unfold sizarref18_augment.f
  exact aug_l0 hR hg hm hb tt _ p tt 1073741824 hp (aug_l1 hR hg hm _ (by omega) a2 p tt fl hp hb c hp.nodup)
/-- one round -/
theorem round_ (hg : GoodL n l) (hm : l.length ≤ 65536) (hn : n ≤ 4096) (f0 : 0 ≤ frm) (f1 : frm < n) {tt : Int} (t0 : 0 ≤ tt) (t1 : tt < n) (hne : frm ≠ tt) (fl : List Int) (hf : FlowG n l frm tt fl)
    (next : ∀ fl', FlowG n l frm tt fl' → outsG l fl frm + 1 ≤ outsG l fl' frm → ∃ r c, Ev (fun k => sizarref18_Max.l0 k n l frm tt fl') (r, c, 0) ∧ OptG n l frm tt r (Cof c) ∧ c.length = n) :
    ∃ r c, Ev (fun k => sizarref18_Max.l0 k n l frm tt fl) (r, c, 0) ∧ OptG n l frm tt r (Cof c) ∧ c.length = n := by
  have hb := (bd_iff l fl).1 hf.bnd
  obtain ⟨⟨met, by_⟩, h1, b, hR, hroot, hpath, hshut⟩ := ref_search (frm := frm) hg hm hn hb.1 f0 f1
  have hR : RM n frm met by_ b := hR
  have hlt : tt < (met.length : Int) := by rw [hR.lm]; exact t1
  by_cases ht : rd b tt < 0
  · refine ⟨fl, met, Ev.step (Ev.bind h1 (Ev.pos t0 (Ev.pos hlt (Ev.neg ?_ (Ev.of _))))) (fun k => by rw [sizarref18_Max.l0]), ?_, hR.lm⟩
    · show ¬ rdOf false met tt = true
      rw [hR.mt tt t0 t1]; simp; omega
    · exact opt_congr hg f0 f1 t0 t1 (opt_of_done hg hf f0 f1 t0 t1 hR.lb hroot hpath hshut ht) (fun v v0 v1 => (hR.mt v v0 v1).symm)
  · obtain ⟨p, hp⟩ := hpath tt t0 t1 (by omega)
    obtain ⟨k1, k2⟩ := flow_aug hne hf hp
    obtain ⟨r, c, e1, e2, e3⟩ := next _ k1 k2
    refine ⟨r, c, Ev.step (Ev.bind h1 (Ev.pos t0 (Ev.pos hlt (Ev.pos ?_ (Ev.bind (ref_augment hR hg hm hb tt p hp) e1))))) (fun k => by rw [sizarref18_Max.l0]), e2, e3⟩
    show rdOf false met tt = true
    rw [hR.mt tt t0 t1]; exact decide_eq_true (by omega)
/-- the rounds -/
theorem ref_rounds (hg : GoodL n l) (hm : l.length ≤ 65536) (hn : n ≤ 4096) (f0 : 0 ≤ frm) (f1 : frm < n) (tt : Int) (t0 : 0 ≤ tt) (t1 : tt < n) (hne : frm ≠ tt) : ∀ (g : Nat) (fl : List Int), FlowG n l frm tt fl →
    (FlowM.cap S61.f0 S61.f1 S61.f2 (fun v => decide (v = frm)) l - outsG l fl frm).toNat ≤ g → ∃ r c, Ev (fun k => sizarref18_Max.l0 k n l frm tt fl) (r, c, 0) ∧ OptG n l frm tt r (Cof c) ∧ c.length = n := by
  intro g
  induction g with
  | zero => exact fun fl hf hg0 => round_ hg hm hn f0 f1 t0 t1 hne fl hf (fun fl' h1 h2 => by
      have := FlowM.weak (C := fun v => decide (v = frm)) (by omega) hg h1 f0 f1 (by simp) (by simp; exact fun e => hne e.symm)
      simp only [outsG] at h2 hg0
      omega)
  | succ g ih => exact fun fl hf hg0 => round_ hg hm hn f0 f1 t0 t1 hne fl hf (fun fl' h1 h2 => ih fl' h1 (by simp only [outsG] at h2 hg0 ⊢; omega))
end
open Classical in
/-- what the specification's Max answers -/
theorem ref_max {n : Int} {l : List S61} {s t : Int} (h : Good n l s t) : ∃ fl c, Ev (fun k => sizarref18_Max.f k n l s t) (fl, c, 0) ∧ FlowM.Opt S61.f0 S61.f1 S61.f2 n l s t fl (Cof c) ∧ (c.length : Int) = n := by
  obtain ⟨m, rfl⟩ := Int.eq_ofNat_of_zero_le (show 0 ≤ n by have := h.n2; omega)
  have hm := h.m
  obtain ⟨r, c, h1, h2, h3⟩ := ref_rounds (n := m) h.ends h.m (by have := h.n4; omega) h.f0 h.f1 t h.t0 h.t1 h.ne _ _ (flow_zero m l s t h.ends) (Nat.le_refl _)
  refine ⟨r, c, ?_, h2, by omega⟩
  unfold sizarref18_Max.f
  refine Ev.bind (ref_ends m l s t) ?_
  rw [decide_eq_true h]
  exact Ev.pos rfl (Ev.pos (by omega) (Ev.pos (by omega) h1))
open Classical in
theorem ref_max_bad {n : Int} {l : List S61} {s t : Int} (h : ¬ Good n l s t) : Ev (fun k => sizarref18_Max.f k n l s t) ([], [], 180) := by
  unfold sizarref18_Max.f
  refine Ev.bind (ref_ends n l s t) ?_
  rw [decide_eq_false h]
  exact Ev.neg (by decide) (Ev.of _)
end Go.Proofs.Ytadeidhefjifaaa.Px
end
section
set_option linter.unusedVariables false
set_option linter.unusedSimpArgs false
namespace Go.Proofs.Ytadeidhefjifaaa.Px
open Go.RowKit Go.Deep Go.ChangeShapes Go.WideShapes Go.Proofs.YtadeidhefjifaaaW.PrintWords Go.Proofs.YtadeidhefjifaaaW.PrintLast Go.Proofs.YtadeidhefjifaaaW.PrintMore
section
variable {H : Type} {enc : TypeId × Value → H} {w : World} {base : Nat} {spare : Nat → Bool} {held : Bool}
def numAt (w : World) (a : Addr) : Int := match w.cell? a with
  | some (.int _ n) => n
  | _ => 0
theorem le64 {n : Nat} (h : n ≤ maxLen) : n ≤ 9223372036854775807 := Nat.le_trans h (by decide)
theorem numAt_eq {w : World} {a : Addr} {k : IntKind} {n : Int} (h : w.cell? a = some (.int k n)) : numAt w a = n := by unfold numAt; rw [h]
theorem len_le {fuel : Nat} {a : Option Addr} {len cap : Nat} {t e : TypeId} {x : DataW H × List MemPlace} (ht : Try.prog.underlying t = some (.slice e)) (h : DataW.trod enc Try.prog w base spare held fuel t [.slice a len cap] = some x) : len ≤ cap ∧ len ≤ maxLen := by
  rcases open_slice ht h with ⟨hc, _⟩ | ⟨ad, l, c, m, n, D, Pl, hc, hb, hl, hm, hmm, hx, hi⟩
  · cases hc; exact ⟨Nat.le_refl _, Nat.zero_le _⟩
  · cases hc; exact ⟨hl, Nat.le_trans hl hm⟩
set_option maxRecDepth 100000 in
theorem open_edges {fuel : Nat} {a : Option Addr} {len cap : Nat} {x : DataW H × List MemPlace} (h : DataW.trod enc Try.prog w base spare held fuel 22 [.slice a len cap] = some x) : ∃ l : List S61, l.length = len ∧ Kd.C k61 w a len l := by
  rcases open_slice Try.underlying22 h with ⟨hc, _⟩ | ⟨ad, l, c, m, n, D, Pl, hc, hb, hl, hm, hmm, hx, hi⟩
  · cases hc
    exact ⟨[], rfl, rfl, by omega, fun h => by omega⟩
  · cases hc
    have hlm : len ≤ m := by rw [hmm]; split <;> omega
    have hcell : ∀ i, i < len → ∃ n0 n1 n2 : Int, w.cell? (ad.add (i * 3 + 0)) = some (.int .i64 n0) ∧ w.cell? (ad.add (i * 3 + 1)) = some (.int .i64 n1) ∧ w.cell? (ad.add (i * 3 + 2)) = some (.int .i64 n2) := by
      intro i hil
      obtain ⟨cs', hcs, ht⟩ := hi i (by omega)
      have hC : Try.prog.cellsOf 61 = 3 := by kernel_rfl
      rw [hC] at hcs
      obtain ⟨_, hcl, hat⟩ := World.cells?_some hcs
      obtain ⟨ys, n', hn', hy, hlen, hyl, hf⟩ := DataW.trod_struct Try.underlying61 ht
      match cs', hcl with
      | [c0, c1, c2], _ =>
        have hc3 : Try.prog.cellsOf 3 = 1 := by kernel_rfl
        have g : ∀ (j : Nat) (f : Field) (v : Value), (match j with | 0 => c0 | 1 => c1 | _ => c2) = v → j < 3 → f.type = 3 → f.offset = j → (∃ y, ys[j]? = some y) → DataW.trod enc Try.prog w base spare held n' f.type (([c0, c1, c2].drop f.offset).take (Try.prog.cellsOf f.type)) = ys[j]? → ∃ z : Int, v = .int .i64 z := by
          intro j f v hv hj ht ho hy h
          rw [ht, ho, hc3] at h
          obtain ⟨y, hy⟩ := hy
          rw [hy] at h
          match j, hj with
          | 0, _ => obtain ⟨z, hz, _, _⟩ := DataW.trod_int Try.underlying3 h; exact ⟨z, by rw [← hv]; simpa using hz⟩
          | 1, _ => obtain ⟨z, hz, _, _⟩ := DataW.trod_int Try.underlying3 h; exact ⟨z, by rw [← hv]; simpa using hz⟩
          | 2, _ => obtain ⟨z, hz, _, _⟩ := DataW.trod_int Try.underlying3 h; exact ⟨z, by rw [← hv]; simpa using hz⟩
        have hyl' : ys.length = 3 := hyl
        have hys : ∀ j, j < 3 → ∃ y, ys[j]? = some y := fun j hj => ⟨_, List.getElem?_eq_getElem (by omega)⟩
        obtain ⟨n0, e0⟩ := g 0 _ c0 rfl (by omega) rfl rfl (hys 0 (by omega)) (hf 0 _ rfl)
        obtain ⟨n1, e1⟩ := g 1 _ c1 rfl (by omega) rfl rfl (hys 1 (by omega)) (hf 1 _ rfl)
        obtain ⟨n2, e2⟩ := g 2 _ c2 rfl (by omega) rfl rfl (hys 2 (by omega)) (hf 2 _ rfl)
        subst e0 e1 e2
        refine ⟨n0, n1, n2, ?_, ?_, ?_⟩
        · rw [← Go.Deep.add_add]; exact hat 0 (by omega)
        · rw [← Go.Deep.add_add]; exact hat 1 (by omega)
        · rw [← Go.Deep.add_add]; exact hat 2 (by omega)
    refine ⟨(List.range len).map fun i => ⟨numAt w (ad.add (i * 3 + 0)), numAt w (ad.add (i * 3 + 1)), numAt w (ad.add (i * 3 + 2))⟩, by simp, by simp, le64 (Nat.le_trans hl hm), fun _ => ⟨ad, rfl, fun j p hj => ?_⟩⟩
    obtain ⟨hjl, hp⟩ := List.getElem?_eq_some_iff.1 hj
    have hjl : j < len := by simpa using hjl
    simp only [List.getElem_map, List.getElem_range] at hp
    obtain ⟨n0, n1, n2, h0, h1, h2⟩ := hcell j hjl
    rw [numAt_eq h0, numAt_eq h1, numAt_eq h2] at hp
    subst hp
    refine ⟨_, rfl, k61_mk w _, fun i u hu => ?_⟩
    match i, hu with
    | 0, hu => simp at hu; subst hu; exact h0
    | 1, hu => simp at hu; subst hu; exact h1
    | 2, hu => simp at hu; subst hu; exact h2
end
end Go.Proofs.Ytadeidhefjifaaa.Px
end
