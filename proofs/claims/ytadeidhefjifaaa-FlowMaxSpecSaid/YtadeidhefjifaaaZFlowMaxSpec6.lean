/- Parts of the proof of FlowMaxSpec, put together from several texts (words that the printing program wrote for this claim, walks, plain facts): the declarations that this law needs. -/
import Derived.Test.YtadeidhefjifaaaZFlowMaxSpec5
section
namespace Go.Proofs.Ytadeidhefjifaaa.Px
open Go.RowKit Go.Proofs.YtadeidhefjifaaaW.PrintWords Go.Proofs.YtadeidhefjifaaaW.PrintLast Go.Proofs.YtadeidhefjifaaaW.PrintMore
attribute [local go_sem] max2_int min2_int max_two min_two max_three min_three max_four min_four   -- for this text's walks alone
set_option linter.unusedVariables false
set_option linter.unusedSimpArgs false
mutual
def flow_Value.l0 : Nat → Int → Int → List Int → List Int → List (S61) → Int → Int → Option (Int × Int)
  | 0, _, _, _, _, _, _, _ => none
  | k + 1, x2, x3, x4, x13, x33, x34, x35 => if x35 < x34 then (if 0 ≤ x35 then (if x35 < (x33.length : Int) then (if x35 < (x4.length : Int) then (if (rd x4 x35) < 0 then (some (0, 180)) else (if (rd x4 x35) > ((rd_T61 x33 x35).f2) then (some (0, 180)) else (if 0 ≤ ((rd_T61 x33 x35).f0) then (if ((rd_T61 x33 x35).f0) < (x13.length : Int) then ((some (x13.set (((rd_T61 x33 x35).f0) : Int).toNat (wrap64 ((rd x13 ((rd_T61 x33 x35).f0)) + (rd x4 x35))) : List Int)).bind fun y112 => (if 0 ≤ ((rd_T61 x33 x35).f1) then (if ((rd_T61 x33 x35).f1) < (x13.length : Int) then (flow_Value.l0 k x2 x3 x4 (y112.set (((rd_T61 x33 x35).f1) : Int).toNat (wrap64 ((rd y112 ((rd_T61 x33 x35).f1)) - (rd x4 x35)))) x33 x34 (wrap64 (x35 + 1))) else (none)) else (none))) else (none)) else (none)))) else (none)) else (none)) else (none)) else (flow_Value.l1 k x2 x3 x13 x13 (x13.length : Int) 0)
def flow_Value.l1 : Nat → Int → Int → List Int → List Int → Int → Int → Option (Int × Int)
  | 0, _, _, _, _, _, _ => none
  | k + 1, x2, x3, x13, x77, x78, x79 => if x79 < x78 then (if 0 ≤ x79 then (if x79 < (x77.length : Int) then (if x79 = x2 then (flow_Value.j2 k x2 x3 x13 x77 x78 x79 false) else (if x79 = x3 then (flow_Value.j2 k x2 x3 x13 x77 x78 x79 false) else (flow_Value.j2 k x2 x3 x13 x77 x78 x79 ((rd x77 x79) != 0)))) else (none)) else (none)) else (if 0 ≤ x2 then (if x2 < (x13.length : Int) then (some (rd x13 x2, 0)) else (none)) else (none))
def flow_Value.j2 : Nat → Int → Int → List Int → List Int → Int → Int → Bool → Option (Int × Int)
  | 0, _, _, _, _, _, _, _ => none
  | k + 1, x2, x3, x13, x77, x78, x79, x95 => if x95 = true then (some (0, 180)) else (flow_Value.l1 k x2 x3 x13 x77 x78 (wrap64 (x79 + 1)))
end
def flow_Value.f (k : Nat) (a0 : Int) (l1 : List (S61)) (a2 : Int) (a3 : Int) (l4 : List Int) : Option (Int × Int) := (flow_check.f k a0 l1 a2 a3).bind fun t102 => (if t102 = 0 then (if (l4.length : Int) = (l1.length : Int) then (if 0 ≤ a0 then (if (a0 : Int).toNat ≤ 35184372088832 then (flow_Value.l0 k a2 a3 l4 (List.replicate (a0 : Int).toNat 0) l1 (l1.length : Int) 0) else (none)) else (none)) else (some (0, 180))) else (some (0, t102)))
def flow_Value.T10 : Bool × List (List Nat × List Nat) := (true, [([], []), ([], []), ([0, 1], [0, 1]), ([2], [2]), ([3], [3]), ([4], [4]), ([5], [5]), ([5], [5]), ([6, 7, 5], [5, 6, 7]), ([8, 5], [5, 8]), ([5], [5]), ([10, 5], [5, 10]), ([9, 11, 5], [5, 9, 11]), ([5, 12], [5, 12])])
def flow_Value.B10 : List Nat := [0, 0, 3, 7, 15, 31, 63, 63, 255, 511, 63, 1087, 4095, 8191]
theorem flow_Value.tab10 : rtab .any (opsOf Try.f21 10) = flow_Value.T10 := by kernel_rfl
theorem flow_Value.bits10 : waitsOk flow_Value.T10.2 flow_Value.B10 = true := by kernel_rfl
def flow_Value.T12 : Bool × List (List Nat × List Nat) := (true, [([], []), ([], []), ([1], [1]), ([0, 2], [0, 2]), ([3], [3]), ([], []), ([], []), ([5, 6], [5, 6]), ([7], [7]), ([4, 8], [4, 8]), ([0, 2, 0, 1, 2, 3, 4, 5, 6, 7, 8, 9], [0, 2]), ([10, 9, 0, 1, 2, 3, 4, 5, 6, 7, 8, 9], [9, 10])])
def flow_Value.B12 : List Nat := [0, 0, 2, 7, 15, 0, 0, 96, 224, 511, 1023, 2047]
theorem flow_Value.tab12 : rtab .any (opsOf Try.f21 12) = flow_Value.T12 := by kernel_rfl
theorem flow_Value.bits12 : waitsOk flow_Value.T12.2 flow_Value.B12 = true := by kernel_rfl
def flow_Value.T13 : Bool × List (List Nat × List Nat) := (true, [([], []), ([], []), ([1], [1]), ([0, 2], [0, 2]), ([3], [3]), ([], []), ([], []), ([5, 6], [5, 6]), ([7], [7]), ([4, 8], [4, 8]), ([0, 2, 0, 1, 2, 3, 4, 5, 6, 7, 8, 9], [0, 2]), ([10, 9, 0, 1, 2, 3, 4, 5, 6, 7, 8, 9], [9, 10])])
def flow_Value.B13 : List Nat := [0, 0, 2, 7, 15, 0, 0, 96, 224, 511, 1023, 2047]
theorem flow_Value.tab13 : rtab .any (opsOf Try.f21 13) = flow_Value.T13 := by kernel_rfl
theorem flow_Value.bits13 : waitsOk flow_Value.T13.2 flow_Value.B13 = true := by kernel_rfl
set_option maxHeartbeats 8000000 in
set_option maxRecDepth 100000 in
theorem flow_Value.calls (k : Nat) (a0 : Int) (A1 : Option Addr) (c1 : Nat) (l1 : List (S61)) (a2 : Int) (a3 : Int) (A4 : Option Addr) (c4 : Nat) (l4 : List Int) (r1 : Int) (r2 : Int) (w : World) (hr1 : Kd.C k61 w A1 l1.length l1) (hc1 : l1.length ≤ c1) (hr4 : Kd.C (Kd.int .i64) w A4 l4.length l4) (hc4 : l4.length ≤ c4) (h : flow_Value.f k a0 l1 a2 a3 l4 = some (r1, r2)) :
    Calls Try.prog 21 #[.int .i64 a0, .slice A1 l1.length c1, .int .i64 a2, .int .i64 a3, .slice A4 l4.length c4] w fun e w' => e = .returned (.tuple #[.int .i64 r1, .int .i64 r2]) ∧ Below w.heap.size w w' := by
  have hu61 := Try.underlying61
  have HR1 := Aside0.mk hr1
  have HC1 := Aside0.mk hc1
  clear hr1 hc1
  have HR4 := Aside0.mk hr4
  have HC4 := Aside0.mk hc4
  clear hr4 hc4
  have HB := Aside0.mk (Below.refl w.heap.size w)
  have H : ((flow_check.f k a0 l1 a2 a3).bind fun t102 => (if t102 = 0 then (if (l4.length : Int) = (l1.length : Int) then (if 0 ≤ a0 then (if (a0 : Int).toNat ≤ 35184372088832 then (flow_Value.l0 k a2 a3 l4 (List.replicate (a0 : Int).toNat 0) l1 (l1.length : Int) 0) else (none)) else (none)) else (some (0, 180))) else (some (0, t102)))) = some (r1, r2) := h
  clear h
  replace H := Option.bind_eq_some_iff.mp H
  obtain ⟨t102, A60, H⟩ := H
  replace H : (if t102 = 0 then (if (l4.length : Int) = (l1.length : Int) then (if 0 ≤ a0 then (if (a0 : Int).toNat ≤ 35184372088832 then (flow_Value.l0 k a2 a3 l4 (List.replicate (a0 : Int).toNat 0) l1 (l1.length : Int) 0) else (none)) else (none)) else (some (0, 180))) else (some (0, t102))) = some (r1, r2) := H
  have A6 := Aside0.mk A60
  clear A60
  by_cases c7 : t102 = 0
  · rw [if_pos c7] at H
    have c7b0 : (t102 == 0) = true := beq_iff_eq.mpr c7
    have c7b1 : (t102 != 0) = false := bne_eq_false_iff_eq.mpr c7
    clear c7
    by_cases c8 : (l4.length : Int) = (l1.length : Int)
    · rw [if_pos c8] at H
      have c8b0 : ((l4.length : Int) == (l1.length : Int)) = true := beq_iff_eq.mpr c8
      have c8b1 : ((l4.length : Int) != (l1.length : Int)) = false := bne_eq_false_iff_eq.mpr c8
      have c8b2 : (l4.length == l1.length) = true := by first | simpa using c8 | (simp at c8 ⊢; omega)
      clear c8
      by_cases c9 : 0 ≤ a0
      · rw [if_pos c9] at H
        have c9b0 := eq_true c9
        have c9b1 : decide (0 ≤ a0) = true := decide_eq_true c9
        clear c9
        by_cases c10 : (a0 : Int).toNat ≤ 35184372088832
        · rw [if_pos c10] at H
          have c10b0 := eq_true c10
          have c10b1 : decide ((a0 : Int).toNat ≤ 35184372088832) = true := decide_eq_true c10
          clear c10
          obtain ⟨y103, hy103⟩ : ∃ y_ : List Int, y_ = (List.replicate (a0 : Int).toNat 0) := ⟨_, rfl⟩
          replace H : (flow_Value.l0 k a2 a3 l4 y103 l1 (l1.length : Int) 0) = some (r1, r2) := by first | (rw [hy103]; with_reducible exact H) | (have H2_ := (Option.bind_some _ _).symm.trans H; rw [hy103]; with_reducible exact H2_) | (have H2_ := (Option.bind_some _ _).symm.trans H; with_reducible exact H2_) | with_reducible exact H | (rw [hy103]; exact H) | exact H
          have Ny103 := Aside0.mk hy103
          clear hy103
          have H' := Aside0.mk H
          clear H
          go_enter Try.func21, Try.ntmps21
          go_wp2_with (first | ((with_reducible refine gate_callee (f := 42) rfl ?_); refine goesL_ (some 22) rfl rfl Try.func42 (by kernel_rfl) rfl #[.int .i64 a0, .slice A1 l1.length c1, .int .i64 a2, .int .i64 a3] rfl (by (try simp only [List.map_toArray, List.map_cons, List.map_nil]); first | done | rfl | (simp only [List.length_drop, List.length_take]; rfl)) ?_; (with_reducible refine (flow_check.calls k a0 _ _ l1 a2 a3 t102 _ ?side1 ?side2 A6.out).mono ?_); (case side1 => repeat (first | exact HR1.out | (with_reducible refine Kd.C_alloc ?_ _) | (with_reducible refine Kd.C_drewN ?_ _) | (with_reducible refine Kd.C_drew ?_))); (case side2 => exact HC1.out); rintro e w11 ⟨rfl, hb⟩; refine ⟨_, rfl, ?_⟩; have n0_ := Aside0.mk (below_step (by repeat (first | (with_reducible first | exact HB.out | apply below_alloc | apply pw_below_drewN | apply below_drew1) | exact HB.out)) hb); clear HB; have HB := n0_; clear n0_; (try clear hb); (try clear hb2); (try clear hk); (try clear hi)) | ((with_reducible refine gate_dst (N := 32) rfl ?_); refine Kd.R_make (Kd.int .i64) _ 3 rfl (N := 32) rfl 23 _ _ rfl a0 rfl rfl Try.underlying23 (.int .i64 0) 8 info3 rfl (by decide) (by omega) 0 (ok := fun _ => True) (okp := fun _ => True) rfl (fun _ hk => hk) trivial (of_decide_eq_true (by first | (with_reducible assumption) | assumption)) (Nat.le_trans (Nat.mul_le_mul_right _ (of_decide_eq_true (by first | (with_reducible assumption) | assumption) : a0.toNat ≤ 35184372088832)) (by omega)) (Below.refl _ _) (Nat.le_refl _) ?_; intro v104 w12 ho13 hb hg_ hnew_; clear hg_ hnew_; (first | rw [← Ny103.out] at ho13 | (simp only [Int.reduceToNat] at ho13; rw [← Ny103.out] at ho13)); have n0_ := Aside0.mk (Kd.R_lower ho13 (below_size (by repeat (first | (with_reducible first | exact HB.out | apply below_alloc | apply pw_below_drewN | apply below_drew1) | exact HB.out)))); have n1_ := Aside0.mk (below_step (by repeat (first | (with_reducible first | exact HB.out | apply below_alloc | apply pw_below_drewN | apply below_drew1) | exact HB.out)) hb); clear HB; have HO105 := n0_; have HB := n1_; clear n0_ n1_; clear hb ho13))
          go_loopg [35] k (fun kq v35 w' => ∃ (x13_1 : List Int) (x35_1 : Int), v35 = .int .i64 x35_1 ∧ Aside0 (flow_Value.l0 kq a2 a3 l4 x13_1 l1 (l1.length : Int) x35_1 = some (r1, r2)) ∧ Aside0 (kq ≤ k) ∧ Aside0 (Kd.R (Kd.int .i64) 3 w' w.heap.size (fun _ => True) v104 x13_1) ∧ Aside0 (Below w.heap.size w w'))
          case atStart => exact ⟨(y103), (0), (by first | rfl | (simp; done) | (simp [*]; done)), H', ⟨Nat.le_refl _⟩, ⟨by (with_reducible repeat (first | apply Kd.R_alloc | apply Kd.R_drewN | apply Kd.R_drew)); exact HO105.out⟩, ⟨by repeat (first | (with_reducible first | exact HB.out | apply below_alloc | apply pw_below_drewN | apply below_drew1) | exact HB.out)⟩⟩
          case round =>
            clear H'
            try clear c1
            try clear c2
            try clear p2
            try clear c4
            try clear c7
            try clear c7b0
            try clear c7b1
            try clear c8
            try clear c8b0
            try clear c8b1
            try clear c8b2
            try clear c9
            try clear c9b0
            try clear c9b1
            try clear c10
            try clear c10b0
            try clear c10b1
            obtain ⟨x13_1, x35_1, rfl, HA, HK1, HO_13, HB⟩ := hrel
            cases gk with
            | zero => exact absurd HA.out (by simp [flow_Value.l0])
            | succ k1 =>
              have H := HA.out
              clear HA
              simp only [flow_Value.l0] at H
              by_cases c14 : x35_1 < (l1.length : Int)
              · rw [if_pos c14] at H
                have c14b0 : decide (x35_1 < (l1.length : Int)) = true := decide_eq_true c14
                clear c14
                by_cases c15 : 0 ≤ x35_1
                · rw [if_pos c15] at H
                  have c15b0 : decide (0 ≤ x35_1) = true := decide_eq_true c15
                  clear c15
                  by_cases c16 : x35_1 < (l1.length : Int)
                  · rw [if_pos c16] at H
                    have c16b0 : decide (x35_1 < (l1.length : Int)) = true := decide_eq_true c16
                    clear c16
                    by_cases c17 : x35_1 < (l4.length : Int)
                    · rw [if_pos c17] at H
                      have c17b0 : decide (x35_1 < (l4.length : Int)) = true := decide_eq_true c17
                      clear c17
                      by_cases c18 : (rd l4 x35_1) < 0
                      · rw [if_pos c18] at H
                        have c18b0 : decide ((rd l4 x35_1) < 0) = true := decide_eq_true c18
                        clear c18
                        simp only [Option.some.injEq, Prod.mk.injEq] at H
                        obtain ⟨rfl, rfl⟩ := H
                        have p106 : 0 ≤ (x35_1 : Int) := of_decide_eq_true (by first | (with_reducible assumption) | assumption)
                        have q106 : x35_1 < (l1.length : Int) := of_decide_eq_true (by first | (with_reducible assumption) | assumption)
                        obtain ⟨ad106, e106, hx106_0, hx106_1, hx106_2⟩ := at_T61 HR1.out x35_1 p106 q106
                        cases e106
                        replace hx106_0 := (HB.out.cell (World.block_lt_of_cell? w _ hx106_0)).trans hx106_0
                        replace hx106_1 := (HB.out.cell (World.block_lt_of_cell? w _ hx106_1)).trans hx106_1
                        replace hx106_2 := (HB.out.cell (World.block_lt_of_cell? w _ hx106_2)).trans hx106_2
                        replace p106 := eq_true p106
                        replace q106 := eq_true q106
                        try go_wp2_with (first | ((with_reducible refine gate_dst (N := 15) rfl ?_); refine box_event ?hg (N := 15) ?hd (cs := #[.int .i64 0, .int .i64 0, .int .i64 0]) (t := 61) ?hr ?_; (case hd => rfl); (case hg => rfl); (case hr => first | (go_simp; done) | (go_simp; rfl)); intro gb107 hg w19 hbox hb; have n0_ := Aside0.mk (Kd.R_below (by (with_reducible repeat (first | apply Kd.R_alloc | apply Kd.R_drewN | apply Kd.R_drew)); exact HO_13.out) hb); have n1_ := Aside0.mk (below_step (by repeat (first | (with_reducible first | exact HB.out | apply below_alloc | apply pw_below_drewN | apply below_drew1) | exact HB.out)) hb); have n2_ := Aside0.mk (hbox); have n3_ := Aside0.mk ((by rw [hg]; exact (below_size (by repeat (first | (with_reducible first | exact HB.out | apply below_alloc | apply pw_below_drewN | apply below_drew1) | exact HB.out))) : w.heap.size ≤ gb107)); have n4_ := Aside0.mk ((by rw [hg]; exact (below_size (by repeat (first | (with_reducible first | exact HB.out | apply below_alloc | apply pw_below_drewN | apply below_drew1) | exact HB.out))) : w.heap.size ≤ gb107)); clear HO_13; clear HB; have HO_13 := n0_; have HB := n1_; have BK107 := n2_; have GW107 := n3_; have GE107 := n4_; clear n0_ n1_ n2_ n3_ n4_; clear hb hbox hg; have hcz20_0 : w19.cell? ⟨gb107, 0, none⟩ = some (.int .i64 0) := (blk_cell BK107.out 0).trans rfl; have hcz20_1 : w19.cell? ⟨gb107, 1, none⟩ = some (.int .i64 0) := (blk_cell BK107.out 1).trans rfl; have hcz20_2 : w19.cell? ⟨gb107, 2, none⟩ = some (.int .i64 0) := (blk_cell BK107.out 2).trans rfl; have hfz20_0 := blk_frozen BK107.out 0; have hfz20_1 := blk_frozen BK107.out 1; have hfz20_2 := blk_frozen BK107.out 2))
                        have n0_ : Aside0 (Kd.R (Kd.int .i64) 3 (((w19.setCell ⟨gb107, 0, none⟩ (.int .i64 ((rd_T61 l1 x35_1).f0))).setCell ⟨gb107, 1, none⟩ (.int .i64 ((rd_T61 l1 x35_1).f1))).setCell ⟨gb107, 2, none⟩ (.int .i64 ((rd_T61 l1 x35_1).f2))) w.heap.size (fun _ => True) v104 x13_1) := ⟨by (with_reducible repeat (first | apply Kd.R_alloc | apply Kd.R_drewN | apply Kd.R_drew)); exact Kd.R_mono (Kd.R_far (p := ⟨gb107, 2, none⟩) (Kd.R_far (p := ⟨gb107, 1, none⟩) (Kd.R_far (p := ⟨gb107, 0, none⟩) (Kd.R_types HO_13.out BK107.out (by decide)) (fun _ hk => hk.2) (.int .i64 ((rd_T61 l1 x35_1).f0))) (fun _ hk => hk.2) (.int .i64 ((rd_T61 l1 x35_1).f1))) (fun _ hk => hk.2) (.int .i64 ((rd_T61 l1 x35_1).f2))) (fun _ hk => trivial)⟩
                        have n1_ : Aside0 ((((w19.setCell ⟨gb107, 0, none⟩ (.int .i64 ((rd_T61 l1 x35_1).f0))).setCell ⟨gb107, 1, none⟩ (.int .i64 ((rd_T61 l1 x35_1).f1))).setCell ⟨gb107, 2, none⟩ (.int .i64 ((rd_T61 l1 x35_1).f2))).heap[gb107]? = some (.cells #[.int .i64 ((rd_T61 l1 x35_1).f0), .int .i64 ((rd_T61 l1 x35_1).f1), .int .i64 ((rd_T61 l1 x35_1).f2)] 61 (0, 0))) := ⟨by (with_reducible repeat (first | refine blk_drewN ?_ _ | refine blk_drew ?_ | refine blk_alloc ?_ _)); refine blk_put (cs := #[.int .i64 ((rd_T61 l1 x35_1).f0), .int .i64 ((rd_T61 l1 x35_1).f1), .int .i64 0]) ?_ 2 _ rfl; (with_reducible repeat (first | refine blk_drewN ?_ _ | refine blk_drew ?_ | refine blk_alloc ?_ _)); refine blk_put (cs := #[.int .i64 ((rd_T61 l1 x35_1).f0), .int .i64 0, .int .i64 0]) ?_ 1 _ rfl; (with_reducible repeat (first | refine blk_drewN ?_ _ | refine blk_drew ?_ | refine blk_alloc ?_ _)); refine blk_put (cs := #[.int .i64 0, .int .i64 0, .int .i64 0]) ?_ 0 _ rfl; (with_reducible repeat (first | refine blk_drewN ?_ _ | refine blk_drew ?_ | refine blk_alloc ?_ _)); exact BK107.out⟩
                        have n2_ : Aside0 (Below w.heap.size w (((w19.setCell ⟨gb107, 0, none⟩ (.int .i64 ((rd_T61 l1 x35_1).f0))).setCell ⟨gb107, 1, none⟩ (.int .i64 ((rd_T61 l1 x35_1).f1))).setCell ⟨gb107, 2, none⟩ (.int .i64 ((rd_T61 l1 x35_1).f2)))) := ⟨by repeat (first | (with_reducible first | exact HB.out | apply below_alloc | apply pw_below_drewN | apply below_drew1 | refine below_set ?_ GE107.out) | exact HB.out)⟩
                        (try clear HO_13)
                        (try clear BK107)
                        (try clear HB)
                        generalize (((w19.setCell ⟨gb107, 0, none⟩ (.int .i64 ((rd_T61 l1 x35_1).f0))).setCell ⟨gb107, 1, none⟩ (.int .i64 ((rd_T61 l1 x35_1).f1))).setCell ⟨gb107, 2, none⟩ (.int .i64 ((rd_T61 l1 x35_1).f2))) = w21 at n0_ n1_ n2_ ⊢
                        have HO_13 := n0_
                        have BK107 := n1_
                        have HB := n2_
                        clear n0_ n1_ n2_
                        have n0_ := Aside0.mk (Kd.R_drew HO_13.out)
                        have n1_ := Aside0.mk (blk_drew BK107.out)
                        have n2_ := Aside0.mk (below_drew1 HB.out)
                        clear HO_13
                        clear BK107
                        clear HB
                        have HO_13 := n0_
                        have BK107 := n1_
                        have HB := n2_
                        clear n0_ n1_ n2_
                        have p108 : 0 ≤ (x35_1 : Int) := of_decide_eq_true (by first | (with_reducible assumption) | assumption)
                        have q108 : x35_1 < (l4.length : Int) := of_decide_eq_true (by first | (with_reducible assumption) | assumption)
                        obtain ⟨ad108, e108, hx108_0⟩ := Kd.at_int HR4.out x35_1 p108 q108
                        have hw108_0 := hx108_0
                        cases e108
                        replace hx108_0 := (HB.out.cell (World.block_lt_of_cell? w _ hx108_0)).trans hx108_0
                        replace p108 := eq_true p108
                        replace q108 := eq_true q108
                        refine start_ (n := 14) (S := fun w' => w'.cell? (ad108.add (x35_1).toNat) = some (.int .i64 (rd l4 x35_1))) (ds := []) #[false, false, false, false, false, false, false, false, false, false, false, false, false, false] (by kernel_rfl) rfl rfl (((HB.out.cell (World.block_lt_of_cell? w _ hw108_0)).trans hw108_0)) (fun hHeld => ?_); refine with_tabW flow_Value.tab10 flow_Value.bits10 (fun HT_ HW_ => ?_)
                        generalize w21.drew = w22 at HO_13 BK107 HB hx108_0 hHeld ⊢
                        refine pure_ (i := 0) (N := some 40) (v := ?_) (a' := ?_) #[true, false, false, false, false, false, false, false, false, false, false, false, false, false] rfl rfl (any_of HT_.out (by kernel_rfl)) (fun _ _ _ h => h) (Or.inl ⟨by rfl, ?_⟩) ?_ ?_
                        rotate_left
                        · intro w'
                          go_simp
                          with_reducible rfl
                        rotate_left
                        · simp only [Act.put, List.setIfInBounds_toArray, List.set_cons_zero, List.set_cons_succ, i64_w, i32_w]
                          rfl
                        refine pure_ (i := 1) (N := some 41) (v := ?_) (a' := ?_) #[true, true, false, false, false, false, false, false, false, false, false, false, false, false] rfl rfl (any_of HT_.out (by kernel_rfl)) (fun _ _ _ h => h) (Or.inl ⟨by rfl, ?_⟩) ?_ ?_
                        rotate_left
                        · intro w'
                          go_simp
                          with_reducible rfl
                        rotate_left
                        · simp only [Act.put, List.setIfInBounds_toArray, List.set_cons_zero, List.set_cons_succ, i64_w, i32_w]
                          rfl
                        refine pure_ (i := 2) (N := some 42) (v := ?_) (a' := ?_) #[true, true, true, false, false, false, false, false, false, false, false, false, false, false] rfl rfl (any_of HT_.out (by kernel_rfl)) (fun _ _ _ h => h) (Or.inl ⟨by rfl, ?_⟩) ?_ ?_
                        rotate_left
                        · intro w'
                          go_simp
                          with_reducible rfl
                        rotate_left
                        · simp only [Act.put, List.setIfInBounds_toArray, List.set_cons_zero, List.set_cons_succ, i64_w, i32_w]
                          rfl
                        refine take_ (i := 3) (N := some 43) (v := ?_) (a' := ?_) #[true, true, true, true, false, false, false, false, false, false, false, false, false, false] rfl rfl (take_ofW HT_.out HW_.out (by kernel_rfl)) (fun _ _ _ h => h) (Or.inl ⟨by rfl, ?_⟩) hHeld ?_ ?_
                        rotate_left
                        · intro w' s0
                          go_simp
                          with_reducible rfl
                        rotate_left
                        · simp only [Act.put, List.setIfInBounds_toArray, List.set_cons_zero, List.set_cons_succ, i64_w, i32_w]
                          rfl
                        refine pure_ (i := 4) (N := some 44) (v := ?_) (a' := ?_) #[true, true, true, true, true, false, false, false, false, false, false, false, false, false] rfl rfl (any_of HT_.out (by kernel_rfl)) (fun _ _ _ h => h) (Or.inl ⟨by rfl, ?_⟩) ?_ ?_
                        rotate_left
                        · intro w'
                          go_simp
                          with_reducible rfl
                        rotate_left
                        · simp only [Act.put, List.setIfInBounds_toArray, List.set_cons_zero, List.set_cons_succ, i64_w, i32_w]
                          rfl
                        refine pure_ (i := 5) (N := some 45) (v := ?_) (a' := ?_) #[true, true, true, true, true, true, false, false, false, false, false, false, false, false] rfl rfl (any_of HT_.out (by kernel_rfl)) (fun _ _ _ h => h) (Or.inl ⟨by rfl, ?_⟩) ?_ ?_
                        rotate_left
                        · intro w'
                          go_simp
                          with_reducible rfl
                        rotate_left
                        · simp only [Act.put, List.setIfInBounds_toArray, List.set_cons_zero, List.set_cons_succ, i64_w, i32_w]
                          rfl
                        refine pure_ (i := 6) (N := some 46) (v := undef) (a' := ?_) #[true, true, true, true, true, true, true, false, false, false, false, false, false, false] rfl rfl (any_of HT_.out (by kernel_rfl)) (fun _ _ _ h => h) (Or.inr ⟨by rfl, rfl⟩) ?_ ?_
                        rotate_left
                        · simp only [Act.put, List.setIfInBounds_toArray, List.set_cons_zero, List.set_cons_succ, i64_w, i32_w]
                          rfl
                        refine pure_ (i := 7) (N := some 47) (v := undef) (a' := ?_) #[true, true, true, true, true, true, true, true, false, false, false, false, false, false] rfl rfl (any_of HT_.out (by kernel_rfl)) (fun _ _ _ h => h) (Or.inr ⟨by rfl, rfl⟩) ?_ ?_
                        rotate_left
                        · simp only [Act.put, List.setIfInBounds_toArray, List.set_cons_zero, List.set_cons_succ, i64_w, i32_w]
                          rfl
                        refine pure_ (i := 8) (N := some 48) (v := undef) (a' := ?_) #[true, true, true, true, true, true, true, true, true, false, false, false, false, false] rfl rfl (any_of HT_.out (by kernel_rfl)) (fun _ _ _ h => h) (Or.inr ⟨by rfl, rfl⟩) ?_ ?_
                        rotate_left
                        · simp only [Act.put, List.setIfInBounds_toArray, List.set_cons_zero, List.set_cons_succ, i64_w, i32_w]
                          rfl
                        refine pure_ (i := 9) (N := some 49) (v := undef) (a' := ?_) #[true, true, true, true, true, true, true, true, true, true, false, false, false, false] rfl rfl (any_of HT_.out (by kernel_rfl)) (fun _ _ _ h => h) (Or.inr ⟨by rfl, rfl⟩) ?_ ?_
                        rotate_left
                        · simp only [Act.put, List.setIfInBounds_toArray, List.set_cons_zero, List.set_cons_succ, i64_w, i32_w]
                          rfl
                        refine pure_ (i := 10) (N := some 50) (v := undef) (a' := ?_) #[true, true, true, true, true, true, true, true, true, true, true, false, false, false] rfl rfl (any_of HT_.out (by kernel_rfl)) (fun _ _ _ h => h) (Or.inr ⟨by rfl, rfl⟩) ?_ ?_
                        rotate_left
                        · simp only [Act.put, List.setIfInBounds_toArray, List.set_cons_zero, List.set_cons_succ, i64_w, i32_w]
                          rfl
                        refine pure_ (i := 11) (N := some 51) (v := undef) (a' := ?_) #[true, true, true, true, true, true, true, true, true, true, true, true, false, false] rfl rfl (any_of HT_.out (by kernel_rfl)) (fun _ _ _ h => h) (Or.inr ⟨by rfl, rfl⟩) ?_ ?_
                        rotate_left
                        · simp only [Act.put, List.setIfInBounds_toArray, List.set_cons_zero, List.set_cons_succ, i64_w, i32_w]
                          rfl
                        refine pure_ (i := 12) (N := some 52) (v := undef) (a' := ?_) #[true, true, true, true, true, true, true, true, true, true, true, true, true, false] rfl rfl (any_of HT_.out (by kernel_rfl)) (fun _ _ _ h => h) (Or.inr ⟨by rfl, rfl⟩) ?_ ?_
                        rotate_left
                        · simp only [Act.put, List.setIfInBounds_toArray, List.set_cons_zero, List.set_cons_succ, i64_w, i32_w]
                          rfl
                        refine pure_ (i := 13) (N := some 53) (v := ?_) (a' := ?_) #[true, true, true, true, true, true, true, true, true, true, true, true, true, true] rfl rfl (any_of HT_.out (by kernel_rfl)) (fun _ _ _ h => h) (Or.inl ⟨by rfl, ?_⟩) ?_ ?_
                        rotate_left
                        · intro w'
                          go_simp
                          with_reducible rfl
                        rotate_left
                        · simp only [Act.put, List.setIfInBounds_toArray, List.set_cons_zero, List.set_cons_succ, i64_w, i32_w]
                          rfl
                        refine done_ (done_of HT_.out (by kernel_rfl)) ?_
                        try go_wp2
                        go_ret2
                        exact ⟨by first | rfl | (simp [errW_none, errW_some] <;> rfl) | (simp [*, errW_none, errW_some] <;> rfl), by repeat (first | (with_reducible first | exact HB.out | apply below_alloc | apply pw_below_drewN | apply below_drew1 | refine below_set ?_ GE107.out) | exact HB.out)⟩
                      · rw [if_neg c18] at H
                        have c18b0 : decide ((rd l4 x35_1) < 0) = false := decide_eq_false c18
                        clear c18
                        by_cases c23 : (rd l4 x35_1) > ((rd_T61 l1 x35_1).f2)
                        · rw [if_pos c23] at H
                          have c23b0 : decide (((rd_T61 l1 x35_1).f2) < (rd l4 x35_1)) = true := decide_eq_true c23
                          clear c23
                          simp only [Option.some.injEq, Prod.mk.injEq] at H
                          obtain ⟨rfl, rfl⟩ := H
                          have p106 : 0 ≤ (x35_1 : Int) := of_decide_eq_true (by first | (with_reducible assumption) | assumption)
                          have q106 : x35_1 < (l1.length : Int) := of_decide_eq_true (by first | (with_reducible assumption) | assumption)
                          obtain ⟨ad106, e106, hx106_0, hx106_1, hx106_2⟩ := at_T61 HR1.out x35_1 p106 q106
                          cases e106
                          replace hx106_0 := (HB.out.cell (World.block_lt_of_cell? w _ hx106_0)).trans hx106_0
                          replace hx106_1 := (HB.out.cell (World.block_lt_of_cell? w _ hx106_1)).trans hx106_1
                          replace hx106_2 := (HB.out.cell (World.block_lt_of_cell? w _ hx106_2)).trans hx106_2
                          replace p106 := eq_true p106
                          replace q106 := eq_true q106
                          try go_wp2_with (first | ((with_reducible refine gate_dst (N := 15) rfl ?_); refine box_event ?hg (N := 15) ?hd (cs := #[.int .i64 0, .int .i64 0, .int .i64 0]) (t := 61) ?hr ?_; (case hd => rfl); (case hg => rfl); (case hr => first | (go_simp; done) | (go_simp; rfl)); intro gb107 hg w24 hbox hb; have n0_ := Aside0.mk (Kd.R_below (by (with_reducible repeat (first | apply Kd.R_alloc | apply Kd.R_drewN | apply Kd.R_drew)); exact HO_13.out) hb); have n1_ := Aside0.mk (below_step (by repeat (first | (with_reducible first | exact HB.out | apply below_alloc | apply pw_below_drewN | apply below_drew1) | exact HB.out)) hb); have n2_ := Aside0.mk (hbox); have n3_ := Aside0.mk ((by rw [hg]; exact (below_size (by repeat (first | (with_reducible first | exact HB.out | apply below_alloc | apply pw_below_drewN | apply below_drew1) | exact HB.out))) : w.heap.size ≤ gb107)); have n4_ := Aside0.mk ((by rw [hg]; exact (below_size (by repeat (first | (with_reducible first | exact HB.out | apply below_alloc | apply pw_below_drewN | apply below_drew1) | exact HB.out))) : w.heap.size ≤ gb107)); clear HO_13; clear HB; have HO_13 := n0_; have HB := n1_; have BK107 := n2_; have GW107 := n3_; have GE107 := n4_; clear n0_ n1_ n2_ n3_ n4_; clear hb hbox hg; have hcz25_0 : w24.cell? ⟨gb107, 0, none⟩ = some (.int .i64 0) := (blk_cell BK107.out 0).trans rfl; have hcz25_1 : w24.cell? ⟨gb107, 1, none⟩ = some (.int .i64 0) := (blk_cell BK107.out 1).trans rfl; have hcz25_2 : w24.cell? ⟨gb107, 2, none⟩ = some (.int .i64 0) := (blk_cell BK107.out 2).trans rfl; have hfz25_0 := blk_frozen BK107.out 0; have hfz25_1 := blk_frozen BK107.out 1; have hfz25_2 := blk_frozen BK107.out 2))
                          have n0_ : Aside0 (Kd.R (Kd.int .i64) 3 (((w24.setCell ⟨gb107, 0, none⟩ (.int .i64 ((rd_T61 l1 x35_1).f0))).setCell ⟨gb107, 1, none⟩ (.int .i64 ((rd_T61 l1 x35_1).f1))).setCell ⟨gb107, 2, none⟩ (.int .i64 ((rd_T61 l1 x35_1).f2))) w.heap.size (fun _ => True) v104 x13_1) := ⟨by (with_reducible repeat (first | apply Kd.R_alloc | apply Kd.R_drewN | apply Kd.R_drew)); exact Kd.R_mono (Kd.R_far (p := ⟨gb107, 2, none⟩) (Kd.R_far (p := ⟨gb107, 1, none⟩) (Kd.R_far (p := ⟨gb107, 0, none⟩) (Kd.R_types HO_13.out BK107.out (by decide)) (fun _ hk => hk.2) (.int .i64 ((rd_T61 l1 x35_1).f0))) (fun _ hk => hk.2) (.int .i64 ((rd_T61 l1 x35_1).f1))) (fun _ hk => hk.2) (.int .i64 ((rd_T61 l1 x35_1).f2))) (fun _ hk => trivial)⟩
                          have n1_ : Aside0 ((((w24.setCell ⟨gb107, 0, none⟩ (.int .i64 ((rd_T61 l1 x35_1).f0))).setCell ⟨gb107, 1, none⟩ (.int .i64 ((rd_T61 l1 x35_1).f1))).setCell ⟨gb107, 2, none⟩ (.int .i64 ((rd_T61 l1 x35_1).f2))).heap[gb107]? = some (.cells #[.int .i64 ((rd_T61 l1 x35_1).f0), .int .i64 ((rd_T61 l1 x35_1).f1), .int .i64 ((rd_T61 l1 x35_1).f2)] 61 (0, 0))) := ⟨by (with_reducible repeat (first | refine blk_drewN ?_ _ | refine blk_drew ?_ | refine blk_alloc ?_ _)); refine blk_put (cs := #[.int .i64 ((rd_T61 l1 x35_1).f0), .int .i64 ((rd_T61 l1 x35_1).f1), .int .i64 0]) ?_ 2 _ rfl; (with_reducible repeat (first | refine blk_drewN ?_ _ | refine blk_drew ?_ | refine blk_alloc ?_ _)); refine blk_put (cs := #[.int .i64 ((rd_T61 l1 x35_1).f0), .int .i64 0, .int .i64 0]) ?_ 1 _ rfl; (with_reducible repeat (first | refine blk_drewN ?_ _ | refine blk_drew ?_ | refine blk_alloc ?_ _)); refine blk_put (cs := #[.int .i64 0, .int .i64 0, .int .i64 0]) ?_ 0 _ rfl; (with_reducible repeat (first | refine blk_drewN ?_ _ | refine blk_drew ?_ | refine blk_alloc ?_ _)); exact BK107.out⟩
                          have n2_ : Aside0 (Below w.heap.size w (((w24.setCell ⟨gb107, 0, none⟩ (.int .i64 ((rd_T61 l1 x35_1).f0))).setCell ⟨gb107, 1, none⟩ (.int .i64 ((rd_T61 l1 x35_1).f1))).setCell ⟨gb107, 2, none⟩ (.int .i64 ((rd_T61 l1 x35_1).f2)))) := ⟨by repeat (first | (with_reducible first | exact HB.out | apply below_alloc | apply pw_below_drewN | apply below_drew1 | refine below_set ?_ GE107.out) | exact HB.out)⟩
                          (try clear HO_13)
                          (try clear BK107)
                          (try clear HB)
                          generalize (((w24.setCell ⟨gb107, 0, none⟩ (.int .i64 ((rd_T61 l1 x35_1).f0))).setCell ⟨gb107, 1, none⟩ (.int .i64 ((rd_T61 l1 x35_1).f1))).setCell ⟨gb107, 2, none⟩ (.int .i64 ((rd_T61 l1 x35_1).f2))) = w26 at n0_ n1_ n2_ ⊢
                          have HO_13 := n0_
                          have BK107 := n1_
                          have HB := n2_
                          clear n0_ n1_ n2_
                          have n0_ := Aside0.mk (Kd.R_drew HO_13.out)
                          have n1_ := Aside0.mk (blk_drew BK107.out)
                          have n2_ := Aside0.mk (below_drew1 HB.out)
                          clear HO_13
                          clear BK107
                          clear HB
                          have HO_13 := n0_
                          have BK107 := n1_
                          have HB := n2_
                          clear n0_ n1_ n2_
                          have p108 : 0 ≤ (x35_1 : Int) := of_decide_eq_true (by first | (with_reducible assumption) | assumption)
                          have q108 : x35_1 < (l4.length : Int) := of_decide_eq_true (by first | (with_reducible assumption) | assumption)
                          obtain ⟨ad108, e108, hx108_0⟩ := Kd.at_int HR4.out x35_1 p108 q108
                          have hw108_0 := hx108_0
                          cases e108
                          replace hx108_0 := (HB.out.cell (World.block_lt_of_cell? w _ hx108_0)).trans hx108_0
                          replace p108 := eq_true p108
                          replace q108 := eq_true q108
                          have p109 : 0 ≤ (x35_1 : Int) := of_decide_eq_true (by first | (with_reducible assumption) | assumption)
                          have q109 : x35_1 < (l4.length : Int) := of_decide_eq_true (by first | (with_reducible assumption) | assumption)
                          obtain ⟨ad109, e109, hx109_0⟩ := Kd.at_int HR4.out x35_1 p109 q109
                          have hw109_0 := hx109_0
                          obtain rfl : ad108 = ad109 := (by injection e109)
                          replace hx109_0 := (HB.out.cell (World.block_lt_of_cell? w _ hx109_0)).trans hx109_0
                          replace p109 := eq_true p109
                          replace q109 := eq_true q109
                          refine start_ (n := 14) (S := fun w' => w'.cell? ⟨gb107, 0, none⟩ = some (.int .i64 ((rd_T61 l1 x35_1).f0)) ∧ w'.cell? ⟨gb107, 1, none⟩ = some (.int .i64 ((rd_T61 l1 x35_1).f1)) ∧ w'.cell? ⟨gb107, 2, none⟩ = some (.int .i64 ((rd_T61 l1 x35_1).f2)) ∧ w'.cell? (ad108.add (x35_1).toNat) = some (.int .i64 (rd l4 x35_1)) ∧ w'.cell? (ad108.add (x35_1).toNat) = some (.int .i64 (rd l4 x35_1))) (ds := []) #[false, false, false, false, false, false, false, false, false, false, false, false, false, false] (by kernel_rfl) rfl rfl ⟨(blk_cell BK107.out 0).trans rfl, (blk_cell BK107.out 1).trans rfl, (blk_cell BK107.out 2).trans rfl, ((HB.out.cell (World.block_lt_of_cell? w _ hw108_0)).trans hw108_0), ((HB.out.cell (World.block_lt_of_cell? w _ hw109_0)).trans hw109_0)⟩ (fun hHeld => ?_); refine with_tabW flow_Value.tab10 flow_Value.bits10 (fun HT_ HW_ => ?_)
                          generalize w26.drew = w27 at HO_13 BK107 HB hx108_0 hx109_0 hHeld ⊢
                          refine pure_ (i := 0) (N := some 40) (v := ?_) (a' := ?_) #[true, false, false, false, false, false, false, false, false, false, false, false, false, false] rfl rfl (any_of HT_.out (by kernel_rfl)) (fun _ _ _ h => h) (Or.inl ⟨by rfl, ?_⟩) ?_ ?_
                          rotate_left
                          · intro w'
                            go_simp
                            with_reducible rfl
                          rotate_left
                          · simp only [Act.put, List.setIfInBounds_toArray, List.set_cons_zero, List.set_cons_succ, i64_w, i32_w]
                            rfl
                          refine pure_ (i := 1) (N := some 41) (v := ?_) (a' := ?_) #[true, true, false, false, false, false, false, false, false, false, false, false, false, false] rfl rfl (any_of HT_.out (by kernel_rfl)) (fun _ _ _ h => h) (Or.inl ⟨by rfl, ?_⟩) ?_ ?_
                          rotate_left
                          · intro w'
                            go_simp
                            with_reducible rfl
                          rotate_left
                          · simp only [Act.put, List.setIfInBounds_toArray, List.set_cons_zero, List.set_cons_succ, i64_w, i32_w]
                            rfl
                          refine pure_ (i := 2) (N := some 42) (v := ?_) (a' := ?_) #[true, true, true, false, false, false, false, false, false, false, false, false, false, false] rfl rfl (any_of HT_.out (by kernel_rfl)) (fun _ _ _ h => h) (Or.inl ⟨by rfl, ?_⟩) ?_ ?_
                          rotate_left
                          · intro w'
                            go_simp
                            with_reducible rfl
                          rotate_left
                          · simp only [Act.put, List.setIfInBounds_toArray, List.set_cons_zero, List.set_cons_succ, i64_w, i32_w]
                            rfl
                          refine take_ (i := 3) (N := some 43) (v := ?_) (a' := ?_) #[true, true, true, true, false, false, false, false, false, false, false, false, false, false] rfl rfl (take_ofW HT_.out HW_.out (by kernel_rfl)) (fun _ _ _ h => h) (Or.inl ⟨by rfl, ?_⟩) hHeld ?_ ?_
                          rotate_left
                          · rintro w' ⟨s0, s1, s2, s3, s4⟩
                            go_simp
                            with_reducible rfl
                          rotate_left
                          · simp only [Act.put, List.setIfInBounds_toArray, List.set_cons_zero, List.set_cons_succ, i64_w, i32_w]
                            rfl
                          refine pure_ (i := 4) (N := some 44) (v := ?_) (a' := ?_) #[true, true, true, true, true, false, false, false, false, false, false, false, false, false] rfl rfl (any_of HT_.out (by kernel_rfl)) (fun _ _ _ h => h) (Or.inl ⟨by rfl, ?_⟩) ?_ ?_
                          rotate_left
                          · intro w'
                            go_simp
                            with_reducible rfl
                          rotate_left
                          · simp only [Act.put, List.setIfInBounds_toArray, List.set_cons_zero, List.set_cons_succ, i64_w, i32_w]
                            rfl
                          refine pure_ (i := 5) (N := some 45) (v := ?_) (a' := ?_) #[true, true, true, true, true, true, false, false, false, false, false, false, false, false] rfl rfl (any_of HT_.out (by kernel_rfl)) (fun _ _ _ h => h) (Or.inl ⟨by rfl, ?_⟩) ?_ ?_
                          rotate_left
                          · intro w'
                            go_simp
                            with_reducible rfl
                          rotate_left
                          · simp only [Act.put, List.setIfInBounds_toArray, List.set_cons_zero, List.set_cons_succ, i64_w, i32_w]
                            rfl
                          refine pure_ (i := 6) (N := some 46) (v := ?_) (a' := ?_) #[true, true, true, true, true, true, true, false, false, false, false, false, false, false] rfl rfl (any_of HT_.out (by kernel_rfl)) (fun _ _ _ h => h) (Or.inl ⟨by rfl, ?_⟩) ?_ ?_
                          rotate_left
                          · intro w'
                            go_simp
                            with_reducible rfl
                          rotate_left
                          · simp only [Act.put, List.setIfInBounds_toArray, List.set_cons_zero, List.set_cons_succ, i64_w, i32_w]
                            rfl
                          refine pure_ (i := 7) (N := some 47) (v := ?_) (a' := ?_) #[true, true, true, true, true, true, true, true, false, false, false, false, false, false] rfl rfl (any_of HT_.out (by kernel_rfl)) (fun _ _ _ h => h) (Or.inl ⟨by rfl, ?_⟩) ?_ ?_
                          rotate_left
                          · intro w'
                            go_simp
                            with_reducible rfl
                          rotate_left
                          · simp only [Act.put, List.setIfInBounds_toArray, List.set_cons_zero, List.set_cons_succ, i64_w, i32_w]
                            rfl
                          refine pure_ (i := 8) (N := some 48) (v := ?_) (a' := ?_) #[true, true, true, true, true, true, true, true, true, false, false, false, false, false] rfl rfl (any_of HT_.out (by kernel_rfl)) (fun _ _ _ h => h) (Or.inl ⟨by rfl, ?_⟩) ?_ ?_
                          rotate_left
                          · intro w'
                            go_simp
                            with_reducible rfl
                          rotate_left
                          · simp only [Act.put, List.setIfInBounds_toArray, List.set_cons_zero, List.set_cons_succ, i64_w, i32_w]
                            rfl
                          refine pure_ (i := 10) (N := some 50) (v := ?_) (a' := ?_) #[true, true, true, true, true, true, true, true, true, false, true, false, false, false] rfl rfl (any_of HT_.out (by kernel_rfl)) (fun _ _ _ h => h) (Or.inl ⟨by rfl, ?_⟩) ?_ ?_
                          rotate_left
                          · intro w'
                            go_simp
                            with_reducible rfl
                          rotate_left
                          · simp only [Act.put, List.setIfInBounds_toArray, List.set_cons_zero, List.set_cons_succ, i64_w, i32_w]
                            rfl
                          refine take_ (i := 9) (N := some 49) (v := ?_) (a' := ?_) #[true, true, true, true, true, true, true, true, true, true, true, false, false, false] rfl rfl (take_ofW HT_.out HW_.out (by kernel_rfl)) (fun _ _ _ h => h) (Or.inl ⟨by rfl, ?_⟩) hHeld ?_ ?_
                          rotate_left
                          · rintro w' ⟨s0, s1, s2, s3, s4⟩
                            go_simp
                            with_reducible rfl
                          rotate_left
                          · simp only [Act.put, List.setIfInBounds_toArray, List.set_cons_zero, List.set_cons_succ, i64_w, i32_w]
                            rfl
                          refine take_ (i := 11) (N := some 51) (v := ?_) (a' := ?_) #[true, true, true, true, true, true, true, true, true, true, true, true, false, false] rfl rfl (take_ofW HT_.out HW_.out (by kernel_rfl)) (fun _ _ _ h => h) (Or.inl ⟨by rfl, ?_⟩) hHeld ?_ ?_
                          rotate_left
                          · rintro w' ⟨s0, s1, s2, s3, s4⟩
                            go_simp
                            with_reducible rfl
                          rotate_left
                          · simp only [Act.put, List.setIfInBounds_toArray, List.set_cons_zero, List.set_cons_succ, i64_w, i32_w]
                            rfl
                          refine pure_ (i := 12) (N := some 52) (v := ?_) (a' := ?_) #[true, true, true, true, true, true, true, true, true, true, true, true, true, false] rfl rfl (any_of HT_.out (by kernel_rfl)) (fun _ _ _ h => h) (Or.inl ⟨by rfl, ?_⟩) ?_ ?_
                          rotate_left
                          · intro w'
                            go_simp
                            with_reducible rfl
                          rotate_left
                          · simp only [Act.put, List.setIfInBounds_toArray, List.set_cons_zero, List.set_cons_succ, i64_w, i32_w]
                            rfl
                          refine pure_ (i := 13) (N := some 53) (v := ?_) (a' := ?_) #[true, true, true, true, true, true, true, true, true, true, true, true, true, true] rfl rfl (any_of HT_.out (by kernel_rfl)) (fun _ _ _ h => h) (Or.inl ⟨by rfl, ?_⟩) ?_ ?_
                          rotate_left
                          · intro w'
                            go_simp
                            with_reducible rfl
                          rotate_left
                          · simp only [Act.put, List.setIfInBounds_toArray, List.set_cons_zero, List.set_cons_succ, i64_w, i32_w]
                            rfl
                          refine done_ (done_of HT_.out (by kernel_rfl)) ?_
                          try go_wp2
                          go_ret2
                          exact ⟨by first | rfl | (simp [errW_none, errW_some] <;> rfl) | (simp [*, errW_none, errW_some] <;> rfl), by repeat (first | (with_reducible first | exact HB.out | apply below_alloc | apply pw_below_drewN | apply below_drew1 | refine below_set ?_ GE107.out) | exact HB.out)⟩
                        · rw [if_neg c23] at H
                          have c23b0 : decide (((rd_T61 l1 x35_1).f2) < (rd l4 x35_1)) = false := decide_eq_false c23
                          clear c23
                          by_cases c28 : 0 ≤ ((rd_T61 l1 x35_1).f0)
                          · rw [if_pos c28] at H
                            have c28b0 : decide (0 ≤ ((rd_T61 l1 x35_1).f0)) = true := decide_eq_true c28
                            clear c28
                            by_cases c29 : ((rd_T61 l1 x35_1).f0) < (x13_1.length : Int)
                            · rw [if_pos c29] at H
                              have c29b0 : decide (((rd_T61 l1 x35_1).f0) < (x13_1.length : Int)) = true := decide_eq_true c29
                              clear c29
                              obtain ⟨y112, hy112⟩ : ∃ y_ : List Int, y_ = (x13_1.set (((rd_T61 l1 x35_1).f0) : Int).toNat (wrap64 ((rd x13_1 ((rd_T61 l1 x35_1).f0)) + (rd l4 x35_1)))) := ⟨_, rfl⟩
                              replace H : (if 0 ≤ ((rd_T61 l1 x35_1).f1) then (if ((rd_T61 l1 x35_1).f1) < (x13_1.length : Int) then (flow_Value.l0 k1 a2 a3 l4 (y112.set (((rd_T61 l1 x35_1).f1) : Int).toNat (wrap64 ((rd y112 ((rd_T61 l1 x35_1).f1)) - (rd l4 x35_1)))) l1 (l1.length : Int) (wrap64 (x35_1 + 1))) else (none)) else (none)) = some (r1, r2) := by first | (rw [hy112]; with_reducible exact H) | (have H2_ := (Option.bind_some _ _).symm.trans H; rw [hy112]; with_reducible exact H2_) | (have H2_ := (Option.bind_some _ _).symm.trans H; with_reducible exact H2_) | with_reducible exact H | (rw [hy112]; exact H) | exact H
                              have Ny112 := Aside0.mk hy112
                              clear hy112
                              by_cases c31 : 0 ≤ ((rd_T61 l1 x35_1).f1)
                              · rw [if_pos c31] at H
                                have c31b0 : decide (0 ≤ ((rd_T61 l1 x35_1).f1)) = true := decide_eq_true c31
                                clear c31
                                by_cases c32 : ((rd_T61 l1 x35_1).f1) < (x13_1.length : Int)
                                · rw [if_pos c32] at H
                                  have c32b0 : decide (((rd_T61 l1 x35_1).f1) < (x13_1.length : Int)) = true := decide_eq_true c32
                                  clear c32
                                  obtain ⟨y115, hy115⟩ : ∃ y_ : List Int, y_ = (y112.set (((rd_T61 l1 x35_1).f1) : Int).toNat (wrap64 ((rd y112 ((rd_T61 l1 x35_1).f1)) - (rd l4 x35_1)))) := ⟨_, rfl⟩
                                  replace H : (flow_Value.l0 k1 a2 a3 l4 y115 l1 (l1.length : Int) (wrap64 (x35_1 + 1))) = some (r1, r2) := by first | (rw [hy115]; with_reducible exact H) | (have H2_ := (Option.bind_some _ _).symm.trans H; rw [hy115]; with_reducible exact H2_) | (have H2_ := (Option.bind_some _ _).symm.trans H; with_reducible exact H2_) | with_reducible exact H | (rw [hy115]; exact H) | exact H
                                  have Ny115 := Aside0.mk hy115
                                  clear hy115
                                  have H' := Aside0.mk H
                                  clear H
                                  have p106 : 0 ≤ (x35_1 : Int) := of_decide_eq_true (by first | (with_reducible assumption) | assumption)
                                  have q106 : x35_1 < (l1.length : Int) := of_decide_eq_true (by first | (with_reducible assumption) | assumption)
                                  obtain ⟨ad106, e106, hx106_0, hx106_1, hx106_2⟩ := at_T61 HR1.out x35_1 p106 q106
                                  cases e106
                                  replace hx106_0 := (HB.out.cell (World.block_lt_of_cell? w _ hx106_0)).trans hx106_0
                                  replace hx106_1 := (HB.out.cell (World.block_lt_of_cell? w _ hx106_1)).trans hx106_1
                                  replace hx106_2 := (HB.out.cell (World.block_lt_of_cell? w _ hx106_2)).trans hx106_2
                                  replace p106 := eq_true p106
                                  replace q106 := eq_true q106
                                  try go_wp2_with (first | ((with_reducible refine gate_dst (N := 15) rfl ?_); refine box_event ?hg (N := 15) ?hd (cs := #[.int .i64 0, .int .i64 0, .int .i64 0]) (t := 61) ?hr ?_; (case hd => rfl); (case hg => rfl); (case hr => first | (go_simp; done) | (go_simp; rfl)); intro gb107 hg w34 hbox hb; have n0_ := Aside0.mk (Kd.R_below (by (with_reducible repeat (first | apply Kd.R_alloc | apply Kd.R_drewN | apply Kd.R_drew)); exact HO_13.out) hb); have n1_ := Aside0.mk (below_step (by repeat (first | (with_reducible first | exact HB.out | apply below_alloc | apply pw_below_drewN | apply below_drew1) | exact HB.out)) hb); have n2_ := Aside0.mk (hbox); have n3_ := Aside0.mk ((by rw [hg]; exact (below_size (by repeat (first | (with_reducible first | exact HB.out | apply below_alloc | apply pw_below_drewN | apply below_drew1) | exact HB.out))) : w.heap.size ≤ gb107)); have n4_ := Aside0.mk ((by rw [hg]; exact (below_size (by repeat (first | (with_reducible first | exact HB.out | apply below_alloc | apply pw_below_drewN | apply below_drew1) | exact HB.out))) : w.heap.size ≤ gb107)); clear HO_13; clear HB; have HO_13 := n0_; have HB := n1_; have BK107 := n2_; have GW107 := n3_; have GE107 := n4_; clear n0_ n1_ n2_ n3_ n4_; clear hb hbox hg; have hcz35_0 : w34.cell? ⟨gb107, 0, none⟩ = some (.int .i64 0) := (blk_cell BK107.out 0).trans rfl; have hcz35_1 : w34.cell? ⟨gb107, 1, none⟩ = some (.int .i64 0) := (blk_cell BK107.out 1).trans rfl; have hcz35_2 : w34.cell? ⟨gb107, 2, none⟩ = some (.int .i64 0) := (blk_cell BK107.out 2).trans rfl; have hfz35_0 := blk_frozen BK107.out 0; have hfz35_1 := blk_frozen BK107.out 1; have hfz35_2 := blk_frozen BK107.out 2))
                                  have n0_ : Aside0 (Kd.R (Kd.int .i64) 3 (((w34.setCell ⟨gb107, 0, none⟩ (.int .i64 ((rd_T61 l1 x35_1).f0))).setCell ⟨gb107, 1, none⟩ (.int .i64 ((rd_T61 l1 x35_1).f1))).setCell ⟨gb107, 2, none⟩ (.int .i64 ((rd_T61 l1 x35_1).f2))) w.heap.size (fun _ => True) v104 x13_1) := ⟨by (with_reducible repeat (first | apply Kd.R_alloc | apply Kd.R_drewN | apply Kd.R_drew)); exact Kd.R_mono (Kd.R_far (p := ⟨gb107, 2, none⟩) (Kd.R_far (p := ⟨gb107, 1, none⟩) (Kd.R_far (p := ⟨gb107, 0, none⟩) (Kd.R_types HO_13.out BK107.out (by decide)) (fun _ hk => hk.2) (.int .i64 ((rd_T61 l1 x35_1).f0))) (fun _ hk => hk.2) (.int .i64 ((rd_T61 l1 x35_1).f1))) (fun _ hk => hk.2) (.int .i64 ((rd_T61 l1 x35_1).f2))) (fun _ hk => trivial)⟩
                                  have n1_ : Aside0 ((((w34.setCell ⟨gb107, 0, none⟩ (.int .i64 ((rd_T61 l1 x35_1).f0))).setCell ⟨gb107, 1, none⟩ (.int .i64 ((rd_T61 l1 x35_1).f1))).setCell ⟨gb107, 2, none⟩ (.int .i64 ((rd_T61 l1 x35_1).f2))).heap[gb107]? = some (.cells #[.int .i64 ((rd_T61 l1 x35_1).f0), .int .i64 ((rd_T61 l1 x35_1).f1), .int .i64 ((rd_T61 l1 x35_1).f2)] 61 (0, 0))) := ⟨by (with_reducible repeat (first | refine blk_drewN ?_ _ | refine blk_drew ?_ | refine blk_alloc ?_ _)); refine blk_put (cs := #[.int .i64 ((rd_T61 l1 x35_1).f0), .int .i64 ((rd_T61 l1 x35_1).f1), .int .i64 0]) ?_ 2 _ rfl; (with_reducible repeat (first | refine blk_drewN ?_ _ | refine blk_drew ?_ | refine blk_alloc ?_ _)); refine blk_put (cs := #[.int .i64 ((rd_T61 l1 x35_1).f0), .int .i64 0, .int .i64 0]) ?_ 1 _ rfl; (with_reducible repeat (first | refine blk_drewN ?_ _ | refine blk_drew ?_ | refine blk_alloc ?_ _)); refine blk_put (cs := #[.int .i64 0, .int .i64 0, .int .i64 0]) ?_ 0 _ rfl; (with_reducible repeat (first | refine blk_drewN ?_ _ | refine blk_drew ?_ | refine blk_alloc ?_ _)); exact BK107.out⟩
                                  have n2_ : Aside0 (Below w.heap.size w (((w34.setCell ⟨gb107, 0, none⟩ (.int .i64 ((rd_T61 l1 x35_1).f0))).setCell ⟨gb107, 1, none⟩ (.int .i64 ((rd_T61 l1 x35_1).f1))).setCell ⟨gb107, 2, none⟩ (.int .i64 ((rd_T61 l1 x35_1).f2)))) := ⟨by repeat (first | (with_reducible first | exact HB.out | apply below_alloc | apply pw_below_drewN | apply below_drew1 | refine below_set ?_ GE107.out) | exact HB.out)⟩
                                  (try clear HO_13)
                                  (try clear BK107)
                                  (try clear HB)
                                  generalize (((w34.setCell ⟨gb107, 0, none⟩ (.int .i64 ((rd_T61 l1 x35_1).f0))).setCell ⟨gb107, 1, none⟩ (.int .i64 ((rd_T61 l1 x35_1).f1))).setCell ⟨gb107, 2, none⟩ (.int .i64 ((rd_T61 l1 x35_1).f2))) = w36 at n0_ n1_ n2_ ⊢
                                  have HO_13 := n0_
                                  have BK107 := n1_
                                  have HB := n2_
                                  clear n0_ n1_ n2_
                                  have n0_ := Aside0.mk (Kd.R_drew HO_13.out)
                                  have n1_ := Aside0.mk (blk_drew BK107.out)
                                  have n2_ := Aside0.mk (below_drew1 HB.out)
                                  clear HO_13
                                  clear BK107
                                  clear HB
                                  have HO_13 := n0_
                                  have BK107 := n1_
                                  have HB := n2_
                                  clear n0_ n1_ n2_
                                  have p108 : 0 ≤ (x35_1 : Int) := of_decide_eq_true (by first | (with_reducible assumption) | assumption)
                                  have q108 : x35_1 < (l4.length : Int) := of_decide_eq_true (by first | (with_reducible assumption) | assumption)
                                  obtain ⟨ad108, e108, hx108_0⟩ := Kd.at_int HR4.out x35_1 p108 q108
                                  have hw108_0 := hx108_0
                                  cases e108
                                  replace hx108_0 := (HB.out.cell (World.block_lt_of_cell? w _ hx108_0)).trans hx108_0
                                  replace p108 := eq_true p108
                                  replace q108 := eq_true q108
                                  have p109 : 0 ≤ (x35_1 : Int) := of_decide_eq_true (by first | (with_reducible assumption) | assumption)
                                  have q109 : x35_1 < (l4.length : Int) := of_decide_eq_true (by first | (with_reducible assumption) | assumption)
                                  obtain ⟨ad109, e109, hx109_0⟩ := Kd.at_int HR4.out x35_1 p109 q109
                                  have hw109_0 := hx109_0
                                  obtain rfl : ad108 = ad109 := (by injection e109)
                                  replace hx109_0 := (HB.out.cell (World.block_lt_of_cell? w _ hx109_0)).trans hx109_0
                                  replace p109 := eq_true p109
                                  replace q109 := eq_true q109
                                  refine start_ (n := 14) (S := fun w' => w'.cell? ⟨gb107, 0, none⟩ = some (.int .i64 ((rd_T61 l1 x35_1).f0)) ∧ w'.cell? ⟨gb107, 1, none⟩ = some (.int .i64 ((rd_T61 l1 x35_1).f1)) ∧ w'.cell? ⟨gb107, 2, none⟩ = some (.int .i64 ((rd_T61 l1 x35_1).f2)) ∧ w'.cell? (ad108.add (x35_1).toNat) = some (.int .i64 (rd l4 x35_1)) ∧ w'.cell? (ad108.add (x35_1).toNat) = some (.int .i64 (rd l4 x35_1))) (ds := []) #[false, false, false, false, false, false, false, false, false, false, false, false, false, false] (by kernel_rfl) rfl rfl ⟨(blk_cell BK107.out 0).trans rfl, (blk_cell BK107.out 1).trans rfl, (blk_cell BK107.out 2).trans rfl, ((HB.out.cell (World.block_lt_of_cell? w _ hw108_0)).trans hw108_0), ((HB.out.cell (World.block_lt_of_cell? w _ hw109_0)).trans hw109_0)⟩ (fun hHeld => ?_); refine with_tabW flow_Value.tab10 flow_Value.bits10 (fun HT_ HW_ => ?_)
                                  generalize w36.drew = w37 at HO_13 BK107 HB hx108_0 hx109_0 hHeld ⊢
                                  refine pure_ (i := 0) (N := some 40) (v := ?_) (a' := ?_) #[true, false, false, false, false, false, false, false, false, false, false, false, false, false] rfl rfl (any_of HT_.out (by kernel_rfl)) (fun _ _ _ h => h) (Or.inl ⟨by rfl, ?_⟩) ?_ ?_
                                  rotate_left
                                  · intro w'
                                    go_simp
                                    with_reducible rfl
                                  rotate_left
                                  · simp only [Act.put, List.setIfInBounds_toArray, List.set_cons_zero, List.set_cons_succ, i64_w, i32_w]
                                    rfl
                                  refine pure_ (i := 1) (N := some 41) (v := ?_) (a' := ?_) #[true, true, false, false, false, false, false, false, false, false, false, false, false, false] rfl rfl (any_of HT_.out (by kernel_rfl)) (fun _ _ _ h => h) (Or.inl ⟨by rfl, ?_⟩) ?_ ?_
                                  rotate_left
                                  · intro w'
                                    go_simp
                                    with_reducible rfl
                                  rotate_left
                                  · simp only [Act.put, List.setIfInBounds_toArray, List.set_cons_zero, List.set_cons_succ, i64_w, i32_w]
                                    rfl
                                  refine pure_ (i := 2) (N := some 42) (v := ?_) (a' := ?_) #[true, true, true, false, false, false, false, false, false, false, false, false, false, false] rfl rfl (any_of HT_.out (by kernel_rfl)) (fun _ _ _ h => h) (Or.inl ⟨by rfl, ?_⟩) ?_ ?_
                                  rotate_left
                                  · intro w'
                                    go_simp
                                    with_reducible rfl
                                  rotate_left
                                  · simp only [Act.put, List.setIfInBounds_toArray, List.set_cons_zero, List.set_cons_succ, i64_w, i32_w]
                                    rfl
                                  refine take_ (i := 3) (N := some 43) (v := ?_) (a' := ?_) #[true, true, true, true, false, false, false, false, false, false, false, false, false, false] rfl rfl (take_ofW HT_.out HW_.out (by kernel_rfl)) (fun _ _ _ h => h) (Or.inl ⟨by rfl, ?_⟩) hHeld ?_ ?_
                                  rotate_left
                                  · rintro w' ⟨s0, s1, s2, s3, s4⟩
                                    go_simp
                                    with_reducible rfl
                                  rotate_left
                                  · simp only [Act.put, List.setIfInBounds_toArray, List.set_cons_zero, List.set_cons_succ, i64_w, i32_w]
                                    rfl
                                  refine pure_ (i := 4) (N := some 44) (v := ?_) (a' := ?_) #[true, true, true, true, true, false, false, false, false, false, false, false, false, false] rfl rfl (any_of HT_.out (by kernel_rfl)) (fun _ _ _ h => h) (Or.inl ⟨by rfl, ?_⟩) ?_ ?_
                                  rotate_left
                                  · intro w'
                                    go_simp
                                    with_reducible rfl
                                  rotate_left
                                  · simp only [Act.put, List.setIfInBounds_toArray, List.set_cons_zero, List.set_cons_succ, i64_w, i32_w]
                                    rfl
                                  refine pure_ (i := 5) (N := some 45) (v := ?_) (a' := ?_) #[true, true, true, true, true, true, false, false, false, false, false, false, false, false] rfl rfl (any_of HT_.out (by kernel_rfl)) (fun _ _ _ h => h) (Or.inl ⟨by rfl, ?_⟩) ?_ ?_
                                  rotate_left
                                  · intro w'
                                    go_simp
                                    with_reducible rfl
                                  rotate_left
                                  · simp only [Act.put, List.setIfInBounds_toArray, List.set_cons_zero, List.set_cons_succ, i64_w, i32_w]
                                    rfl
                                  refine pure_ (i := 6) (N := some 46) (v := ?_) (a' := ?_) #[true, true, true, true, true, true, true, false, false, false, false, false, false, false] rfl rfl (any_of HT_.out (by kernel_rfl)) (fun _ _ _ h => h) (Or.inl ⟨by rfl, ?_⟩) ?_ ?_
                                  rotate_left
                                  · intro w'
                                    go_simp
                                    with_reducible rfl
                                  rotate_left
                                  · simp only [Act.put, List.setIfInBounds_toArray, List.set_cons_zero, List.set_cons_succ, i64_w, i32_w]
                                    rfl
                                  refine pure_ (i := 7) (N := some 47) (v := ?_) (a' := ?_) #[true, true, true, true, true, true, true, true, false, false, false, false, false, false] rfl rfl (any_of HT_.out (by kernel_rfl)) (fun _ _ _ h => h) (Or.inl ⟨by rfl, ?_⟩) ?_ ?_
                                  rotate_left
                                  · intro w'
                                    go_simp
                                    with_reducible rfl
                                  rotate_left
                                  · simp only [Act.put, List.setIfInBounds_toArray, List.set_cons_zero, List.set_cons_succ, i64_w, i32_w]
                                    rfl
                                  refine pure_ (i := 8) (N := some 48) (v := ?_) (a' := ?_) #[true, true, true, true, true, true, true, true, true, false, false, false, false, false] rfl rfl (any_of HT_.out (by kernel_rfl)) (fun _ _ _ h => h) (Or.inl ⟨by rfl, ?_⟩) ?_ ?_
                                  rotate_left
                                  · intro w'
                                    go_simp
                                    with_reducible rfl
                                  rotate_left
                                  · simp only [Act.put, List.setIfInBounds_toArray, List.set_cons_zero, List.set_cons_succ, i64_w, i32_w]
                                    rfl
                                  refine pure_ (i := 10) (N := some 50) (v := ?_) (a' := ?_) #[true, true, true, true, true, true, true, true, true, false, true, false, false, false] rfl rfl (any_of HT_.out (by kernel_rfl)) (fun _ _ _ h => h) (Or.inl ⟨by rfl, ?_⟩) ?_ ?_
                                  rotate_left
                                  · intro w'
                                    go_simp
                                    with_reducible rfl
                                  rotate_left
                                  · simp only [Act.put, List.setIfInBounds_toArray, List.set_cons_zero, List.set_cons_succ, i64_w, i32_w]
                                    rfl
                                  refine take_ (i := 9) (N := some 49) (v := ?_) (a' := ?_) #[true, true, true, true, true, true, true, true, true, true, true, false, false, false] rfl rfl (take_ofW HT_.out HW_.out (by kernel_rfl)) (fun _ _ _ h => h) (Or.inl ⟨by rfl, ?_⟩) hHeld ?_ ?_
                                  rotate_left
                                  · rintro w' ⟨s0, s1, s2, s3, s4⟩
                                    go_simp
                                    with_reducible rfl
                                  rotate_left
                                  · simp only [Act.put, List.setIfInBounds_toArray, List.set_cons_zero, List.set_cons_succ, i64_w, i32_w]
                                    rfl
                                  refine take_ (i := 11) (N := some 51) (v := ?_) (a' := ?_) #[true, true, true, true, true, true, true, true, true, true, true, true, false, false] rfl rfl (take_ofW HT_.out HW_.out (by kernel_rfl)) (fun _ _ _ h => h) (Or.inl ⟨by rfl, ?_⟩) hHeld ?_ ?_
                                  rotate_left
                                  · rintro w' ⟨s0, s1, s2, s3, s4⟩
                                    go_simp
                                    with_reducible rfl
                                  rotate_left
                                  · simp only [Act.put, List.setIfInBounds_toArray, List.set_cons_zero, List.set_cons_succ, i64_w, i32_w]
                                    rfl
                                  refine pure_ (i := 12) (N := some 52) (v := ?_) (a' := ?_) #[true, true, true, true, true, true, true, true, true, true, true, true, true, false] rfl rfl (any_of HT_.out (by kernel_rfl)) (fun _ _ _ h => h) (Or.inl ⟨by rfl, ?_⟩) ?_ ?_
                                  rotate_left
                                  · intro w'
                                    go_simp
                                    with_reducible rfl
                                  rotate_left
                                  · simp only [Act.put, List.setIfInBounds_toArray, List.set_cons_zero, List.set_cons_succ, i64_w, i32_w]
                                    rfl
                                  refine pure_ (i := 13) (N := some 53) (v := ?_) (a' := ?_) #[true, true, true, true, true, true, true, true, true, true, true, true, true, true] rfl rfl (any_of HT_.out (by kernel_rfl)) (fun _ _ _ h => h) (Or.inl ⟨by rfl, ?_⟩) ?_ ?_
                                  rotate_left
                                  · intro w'
                                    go_simp
                                    with_reducible rfl
                                  rotate_left
                                  · simp only [Act.put, List.setIfInBounds_toArray, List.set_cons_zero, List.set_cons_succ, i64_w, i32_w]
                                    rfl
                                  refine done_ (done_of HT_.out (by kernel_rfl)) ?_
                                  try go_wp2
                                  have n0_ := Aside0.mk (Kd.R_drew HO_13.out)
                                  have n1_ := Aside0.mk (blk_drew BK107.out)
                                  have n2_ := Aside0.mk (below_drew1 HB.out)
                                  clear HO_13
                                  clear BK107
                                  clear HB
                                  have HO_13 := n0_
                                  have BK107 := n1_
                                  have HB := n2_
                                  clear n0_ n1_ n2_
                                  obtain ⟨Ao39, co39, eo39⟩ := Kd.R_slice HO_13.out
                                  (first | subst eo39 | (injection eo39 with f1_ f2_ f3_; have f4_ := f1_.symm; have f5_ := f3_.symm; clear f1_ f2_ f3_; subst f4_; subst f5_))
                                  have p110 : 0 ≤ (((rd_T61 l1 x35_1).f0) : Int) := of_decide_eq_true (by first | (with_reducible assumption) | assumption)
                                  have q110 : ((rd_T61 l1 x35_1).f0) < (x13_1.length : Int) := of_decide_eq_true (by first | (with_reducible assumption) | assumption)
                                  obtain ⟨ad110, e110, hx110_0⟩ := Kd.at_int (Kd.R_reads' HO_13.out).2.2 ((rd_T61 l1 x35_1).f0) p110 q110
                                  cases e110
                                  replace p110 := eq_true p110
                                  replace q110 := eq_true q110
                                  have p111 : 0 ≤ (x35_1 : Int) := of_decide_eq_true (by first | (with_reducible assumption) | assumption)
                                  have q111 : x35_1 < (l4.length : Int) := of_decide_eq_true (by first | (with_reducible assumption) | assumption)
                                  obtain ⟨ad111, e111, hx111_0⟩ := Kd.at_int HR4.out x35_1 p111 q111
                                  have hw111_0 := hx111_0
                                  obtain rfl : ad108 = ad111 := (by injection e111)
                                  replace hx111_0 := (HB.out.cell (World.block_lt_of_cell? w _ hx111_0)).trans hx111_0
                                  replace p111 := eq_true p111
                                  replace q111 := eq_true q111
                                  have p30 : 0 ≤ (((rd_T61 l1 x35_1).f0) : Int) := of_decide_eq_true (by first | (with_reducible assumption) | assumption)
                                  have q30 : (((rd_T61 l1 x35_1).f0) : Int) < ((x13_1.length : Int) : Int) := of_decide_eq_true (by first | (with_reducible assumption) | assumption)
                                  obtain ⟨go30, co30, eo30, gb30, gl30, cl30, HG30⟩ := Kd.R_form HO_13.out (by omega)
                                  (first | cases eo30 | (injection eo30 with ea_ en_ ec_; (first | subst ea_ | (injection ea_ with ea_; subst ea_)); subst ec_; clear en_))
                                  have GB30 := Aside0.mk gb30
                                  have GG30 := Aside0.mk HG30
                                  clear gb30 gl30 HG30
                                  (first | simp only [add_plain] at hx110_0 | skip)
                                  obtain ⟨hx30_0, hf30_0⟩ := Kd.R_celln 0 HO_13.out (((rd_T61 l1 x35_1).f0) : Int) p30 q30
                                  replace p30 := eq_true p30
                                  replace q30 := eq_true q30
                                  have HP40 := Kd.R_putn HO_13.out (((rd_T61 l1 x35_1).f0) : Int) (wrap64 ((rd x13_1 ((rd_T61 l1 x35_1).f0)) + (rd l4 x35_1)))
                                  rw [← Ny112.out] at HP40
                                  have HQ40 := Aside0.mk HP40
                                  clear HP40
                                  refine start_ (n := 12) (S := fun w' => w'.cell? ⟨gb107, 0, none⟩ = some (.int .i64 ((rd_T61 l1 x35_1).f0)) ∧ w'.cell? ⟨gb107, 1, none⟩ = some (.int .i64 ((rd_T61 l1 x35_1).f1)) ∧ w'.cell? ⟨gb107, 2, none⟩ = some (.int .i64 ((rd_T61 l1 x35_1).f2)) ∧ w'.cell? ⟨go30, ((((rd_T61 l1 x35_1).f0)).toNat), none⟩ = some (.int .i64 (rd x13_1 ((rd_T61 l1 x35_1).f0))) ∧ w'.cell? (ad108.add (x35_1).toNat) = some (.int .i64 (rd l4 x35_1))) (ds := [11]) #[false, false, false, false, false, false, false, false, false, false, false, false] (by kernel_rfl) rfl rfl ⟨(blk_cell BK107.out 0).trans rfl, (blk_cell BK107.out 1).trans rfl, (blk_cell BK107.out 2).trans rfl, hx110_0, ((HB.out.cell (World.block_lt_of_cell? w _ hw111_0)).trans hw111_0)⟩ (fun hHeld => ?_); refine with_tabW flow_Value.tab12 flow_Value.bits12 (fun HT_ HW_ => ?_)
                                  generalize w37.drew = w38 at HO_13 BK107 HB GG30 HQ40 hf30_0 hx110_0 hx111_0 hx30_0 hHeld ⊢
                                  refine pure_ (i := 0) (N := some 54) (v := ?_) (a' := ?_) #[true, false, false, false, false, false, false, false, false, false, false, false] rfl rfl (any_of HT_.out (by kernel_rfl)) (fun _ _ _ h => h) (Or.inl ⟨by rfl, ?_⟩) ?_ ?_
                                  rotate_left
                                  · intro w'
                                    go_simp
                                    with_reducible rfl
                                  rotate_left
                                  · simp only [Act.put, List.setIfInBounds_toArray, List.set_cons_zero, List.set_cons_succ, i64_w, i32_w]
                                    rfl
                                  refine pure_ (i := 1) (N := some 55) (v := ?_) (a' := ?_) #[true, true, false, false, false, false, false, false, false, false, false, false] rfl rfl (any_of HT_.out (by kernel_rfl)) (fun _ _ _ h => h) (Or.inl ⟨by rfl, ?_⟩) ?_ ?_
                                  rotate_left
                                  · intro w'
                                    go_simp
                                    with_reducible rfl
                                  rotate_left
                                  · simp only [Act.put, List.setIfInBounds_toArray, List.set_cons_zero, List.set_cons_succ, i64_w, i32_w]
                                    rfl
                                  refine pure_ (i := 5) (N := some 59) (v := ?_) (a' := ?_) #[true, true, false, false, false, true, false, false, false, false, false, false] rfl rfl (any_of HT_.out (by kernel_rfl)) (fun _ _ _ h => h) (Or.inl ⟨by rfl, ?_⟩) ?_ ?_
                                  rotate_left
                                  · intro w'
                                    go_simp
                                    with_reducible rfl
                                  rotate_left
                                  · simp only [Act.put, List.setIfInBounds_toArray, List.set_cons_zero, List.set_cons_succ, i64_w, i32_w]
                                    rfl
                                  refine pure_ (i := 6) (N := some 60) (v := ?_) (a' := ?_) #[true, true, false, false, false, true, true, false, false, false, false, false] rfl rfl (any_of HT_.out (by kernel_rfl)) (fun _ _ _ h => h) (Or.inl ⟨by rfl, ?_⟩) ?_ ?_
                                  rotate_left
                                  · intro w'
                                    go_simp
                                    with_reducible rfl
                                  rotate_left
                                  · simp only [Act.put, List.setIfInBounds_toArray, List.set_cons_zero, List.set_cons_succ, i64_w, i32_w]
                                    rfl
                                  refine pure_ (i := 7) (N := some 61) (v := ?_) (a' := ?_) #[true, true, false, false, false, true, true, true, false, false, false, false] rfl rfl (any_of HT_.out (by kernel_rfl)) (fun _ _ _ h => h) (Or.inl ⟨by rfl, ?_⟩) ?_ ?_
                                  rotate_left
                                  · intro w'
                                    go_simp
                                    with_reducible rfl
                                  rotate_left
                                  · simp only [Act.put, List.setIfInBounds_toArray, List.set_cons_zero, List.set_cons_succ, i64_w, i32_w]
                                    rfl
                                  refine take_ (i := 2) (N := some 56) (v := ?_) (a' := ?_) #[true, true, true, false, false, true, true, true, false, false, false, false] rfl rfl (take_ofW HT_.out HW_.out (by kernel_rfl)) (fun _ _ _ h => h) (Or.inl ⟨by rfl, ?_⟩) hHeld ?_ ?_
                                  rotate_left
                                  · rintro w' ⟨s0, s1, s2, s3, s4⟩
                                    go_simp
                                    with_reducible rfl
                                  rotate_left
                                  · simp only [Act.put, List.setIfInBounds_toArray, List.set_cons_zero, List.set_cons_succ, i64_w, i32_w]
                                    rfl
                                  refine pure_ (i := 3) (N := some 57) (v := ?_) (a' := ?_) #[true, true, true, true, false, true, true, true, false, false, false, false] rfl rfl (any_of HT_.out (by kernel_rfl)) (fun _ _ _ h => h) (Or.inl ⟨by rfl, ?_⟩) ?_ ?_
                                  rotate_left
                                  · intro w'
                                    go_simp
                                    with_reducible rfl
                                  rotate_left
                                  · simp only [Act.put, List.setIfInBounds_toArray, List.set_cons_zero, List.set_cons_succ, i64_w, i32_w]
                                    rfl
                                  refine take_ (i := 4) (N := some 58) (v := ?_) (a' := ?_) #[true, true, true, true, true, true, true, true, false, false, false, false] rfl rfl (take_ofW HT_.out HW_.out (by kernel_rfl)) (fun _ _ _ h => h) (Or.inl ⟨by rfl, ?_⟩) hHeld ?_ ?_
                                  rotate_left
                                  · rintro w' ⟨s0, s1, s2, s3, s4⟩
                                    go_simp
                                    with_reducible rfl
                                  rotate_left
                                  · simp only [Act.put, List.setIfInBounds_toArray, List.set_cons_zero, List.set_cons_succ, i64_w, i32_w]
                                    rfl
                                  refine take_ (i := 8) (N := some 62) (v := ?_) (a' := ?_) #[true, true, true, true, true, true, true, true, true, false, false, false] rfl rfl (take_ofW HT_.out HW_.out (by kernel_rfl)) (fun _ _ _ h => h) (Or.inl ⟨by rfl, ?_⟩) hHeld ?_ ?_
                                  rotate_left
                                  · rintro w' ⟨s0, s1, s2, s3, s4⟩
                                    go_simp
                                    with_reducible rfl
                                  rotate_left
                                  · simp only [Act.put, List.setIfInBounds_toArray, List.set_cons_zero, List.set_cons_succ, i64_w, i32_w]
                                    rfl
                                  refine pure_ (i := 9) (N := some 63) (v := ?_) (a' := ?_) #[true, true, true, true, true, true, true, true, true, true, false, false] rfl rfl (any_of HT_.out (by kernel_rfl)) (fun _ _ _ h => h) (Or.inl ⟨by rfl, ?_⟩) ?_ ?_
                                  rotate_left
                                  · intro w'
                                    go_simp
                                    with_reducible rfl
                                  rotate_left
                                  · simp only [Act.put, List.setIfInBounds_toArray, List.set_cons_zero, List.set_cons_succ, i64_w, i32_w]
                                    rfl
                                  refine pure_ (i := 10) (N := some 64) (v := ?_) (a' := ?_) #[true, true, true, true, true, true, true, true, true, true, true, false] rfl rfl (any_of HT_.out (by kernel_rfl)) (fun _ _ _ h => h) (Or.inl ⟨by rfl, ?_⟩) ?_ ?_
                                  rotate_left
                                  · intro w'
                                    go_simp
                                    with_reducible rfl
                                  rotate_left
                                  · simp only [Act.put, List.setIfInBounds_toArray, List.set_cons_zero, List.set_cons_succ, i64_w, i32_w]
                                    rfl
                                  refine last_ (i := 11) (N := none) #[true, true, true, true, true, true, true, true, true, true, true, true] rfl rfl (one_of HT_.out (by kernel_rfl)) (by decide) (fun K hK => ?_)
                                  refine skip_ (w1 := ?_) (by rfl) rfl ?_ ?_
                                  rotate_left
                                  · go_simp
                                    rfl
                                  refine hK.out _ _ ?_
                                  clear hK K
                                  refine done_ (done_of HT_.out (by kernel_rfl)) ?_
                                  try go_wp2
                                  have n0_ : Aside0 (Kd.R (Kd.int .i64) 3 (w38.setCell ⟨go30, (((rd_T61 l1 x35_1).f0) : Int).toNat, none⟩ (.int .i64 (wrap64 ((rd x13_1 ((rd_T61 l1 x35_1).f0)) + (rd l4 x35_1))))) w.heap.size (fun _ => True) (.slice (some ⟨go30, 0, none⟩) x13_1.length co39) y112) := ⟨by (with_reducible repeat (first | apply Kd.R_alloc | apply Kd.R_drewN | apply Kd.R_drew)); exact HQ40.out⟩
                                  have n1_ : Aside0 ((w38.setCell ⟨go30, (((rd_T61 l1 x35_1).f0) : Int).toNat, none⟩ (.int .i64 (wrap64 ((rd x13_1 ((rd_T61 l1 x35_1).f0)) + (rd l4 x35_1))))).heap[gb107]? = some (.cells #[.int .i64 ((rd_T61 l1 x35_1).f0), .int .i64 ((rd_T61 l1 x35_1).f1), .int .i64 ((rd_T61 l1 x35_1).f2)] 61 (0, 0))) := ⟨by (with_reducible repeat (first | refine blk_drewN ?_ _ | refine blk_drew ?_ | refine blk_alloc ?_ _)); refine blk_far ?_ (by have h_ := Kd.R_ne HO_13.out BK107.out (by decide); intro e_; exact h_ (by rw [e_]; rfl)) _; (with_reducible repeat (first | refine blk_drewN ?_ _ | refine blk_drew ?_ | refine blk_alloc ?_ _)); exact BK107.out⟩
                                  have n2_ : Aside0 (Below w.heap.size w (w38.setCell ⟨go30, (((rd_T61 l1 x35_1).f0) : Int).toNat, none⟩ (.int .i64 (wrap64 ((rd x13_1 ((rd_T61 l1 x35_1).f0)) + (rd l4 x35_1)))))) := ⟨by repeat (first | (with_reducible first | exact HB.out | apply below_alloc | apply pw_below_drewN | apply below_drew1 | refine below_set ?_ GB30.out | refine below_set ?_ GE107.out) | exact HB.out)⟩
                                  (try clear HO_13)
                                  (try clear BK107)
                                  (try clear HB)
                                  generalize (w38.setCell ⟨go30, (((rd_T61 l1 x35_1).f0) : Int).toNat, none⟩ (.int .i64 (wrap64 ((rd x13_1 ((rd_T61 l1 x35_1).f0)) + (rd l4 x35_1))))) = w41 at n0_ n1_ n2_ ⊢
                                  have HO_13 := n0_
                                  have BK107 := n1_
                                  have HB := n2_
                                  clear n0_ n1_ n2_
                                  have n0_ := Aside0.mk (Kd.R_drew HO_13.out)
                                  have n1_ := Aside0.mk (blk_drew BK107.out)
                                  have n2_ := Aside0.mk (below_drew1 HB.out)
                                  clear HO_13
                                  clear BK107
                                  clear HB
                                  have HO_13 := n0_
                                  have BK107 := n1_
                                  have HB := n2_
                                  clear n0_ n1_ n2_
                                  have p113 : 0 ≤ (((rd_T61 l1 x35_1).f1) : Int) := of_decide_eq_true (by first | (with_reducible assumption) | assumption)
                                  have q113 : ((rd_T61 l1 x35_1).f1) < (y112.length : Int) := (by have h_ : (((rd_T61 l1 x35_1).f1) : Int) < ((x13_1.length : Int) : Int) := of_decide_eq_true (by first | (with_reducible assumption) | assumption); first | (have e_ := (Kd.R_reads' HO_13.out).1; omega) | simpa only [Ny112.out, List.length_set] using h_)
                                  have ql113 : ((((rd_T61 l1 x35_1).f1) : Int) < ((x13_1.length : Int) : Int)) = True := eq_true (of_decide_eq_true (by first | (with_reducible assumption) | assumption))
                                  obtain ⟨ad113, e113, hx113_0⟩ := Kd.at_int (Kd.R_reads' HO_13.out).2.2 ((rd_T61 l1 x35_1).f1) p113 q113
                                  obtain rfl : (⟨go30, 0, none⟩ : Addr) = ad113 := (by injection e113)
                                  (first | simp only [add_plain] at hx113_0 | simp only [add_at] at hx113_0 | simp only [Addr.add, Nat.zero_add] at hx113_0 | skip)
                                  replace p113 := eq_true p113
                                  replace q113 := eq_true q113
                                  have p114 : 0 ≤ (x35_1 : Int) := of_decide_eq_true (by first | (with_reducible assumption) | assumption)
                                  have q114 : x35_1 < (l4.length : Int) := of_decide_eq_true (by first | (with_reducible assumption) | assumption)
                                  obtain ⟨ad114, e114, hx114_0⟩ := Kd.at_int HR4.out x35_1 p114 q114
                                  have hw114_0 := hx114_0
                                  obtain rfl : ad108 = ad114 := (by injection e114)
                                  replace hx114_0 := (HB.out.cell (World.block_lt_of_cell? w _ hx114_0)).trans hx114_0
                                  replace p114 := eq_true p114
                                  replace q114 := eq_true q114
                                  have p33 : 0 ≤ (((rd_T61 l1 x35_1).f1) : Int) := of_decide_eq_true (by first | (with_reducible assumption) | assumption)
                                  have q33 : (((rd_T61 l1 x35_1).f1) : Int) < ((x13_1.length : Int) : Int) := of_decide_eq_true (by first | (with_reducible assumption) | assumption)
                                  obtain ⟨hx33_0, hf33_0⟩ := Kd.R_celln 0 HO_13.out (((rd_T61 l1 x35_1).f1) : Int) p33 q33
                                  replace p33 := eq_true p33
                                  replace q33 := eq_true q33
                                  have HP43 := Kd.R_putn HO_13.out (((rd_T61 l1 x35_1).f1) : Int) (wrap64 ((rd y112 ((rd_T61 l1 x35_1).f1)) - (rd l4 x35_1)))
                                  rw [← Ny115.out] at HP43
                                  have HQ43 := Aside0.mk HP43
                                  clear HP43
                                  refine start_ (n := 12) (S := fun w' => w'.cell? ⟨gb107, 0, none⟩ = some (.int .i64 ((rd_T61 l1 x35_1).f0)) ∧ w'.cell? ⟨gb107, 1, none⟩ = some (.int .i64 ((rd_T61 l1 x35_1).f1)) ∧ w'.cell? ⟨gb107, 2, none⟩ = some (.int .i64 ((rd_T61 l1 x35_1).f2)) ∧ w'.cell? ⟨go30, (((rd_T61 l1 x35_1).f1)).toNat, none⟩ = some (.int .i64 (rd y112 ((rd_T61 l1 x35_1).f1))) ∧ w'.cell? (ad108.add (x35_1).toNat) = some (.int .i64 (rd l4 x35_1))) (ds := [11]) #[false, false, false, false, false, false, false, false, false, false, false, false] (by kernel_rfl) rfl rfl ⟨(blk_cell BK107.out 0).trans rfl, (blk_cell BK107.out 1).trans rfl, (blk_cell BK107.out 2).trans rfl, hx113_0, ((HB.out.cell (World.block_lt_of_cell? w _ hw114_0)).trans hw114_0)⟩ (fun hHeld => ?_); refine with_tabW flow_Value.tab13 flow_Value.bits13 (fun HT_ HW_ => ?_)
                                  generalize w41.drew = w42 at HO_13 BK107 HB HQ40 HQ43 hf33_0 hx113_0 hx114_0 hx33_0 hHeld ⊢
                                  refine pure_ (i := 0) (N := some 65) (v := ?_) (a' := ?_) #[true, false, false, false, false, false, false, false, false, false, false, false] rfl rfl (any_of HT_.out (by kernel_rfl)) (fun _ _ _ h => h) (Or.inl ⟨by rfl, ?_⟩) ?_ ?_
                                  rotate_left
                                  · intro w'
                                    go_simp
                                    with_reducible rfl
                                  rotate_left
                                  · simp only [Act.put, List.setIfInBounds_toArray, List.set_cons_zero, List.set_cons_succ, i64_w, i32_w]
                                    rfl
                                  refine pure_ (i := 1) (N := some 66) (v := ?_) (a' := ?_) #[true, true, false, false, false, false, false, false, false, false, false, false] rfl rfl (any_of HT_.out (by kernel_rfl)) (fun _ _ _ h => h) (Or.inl ⟨by rfl, ?_⟩) ?_ ?_
                                  rotate_left
                                  · intro w'
                                    go_simp
                                    with_reducible rfl
                                  rotate_left
                                  · simp only [Act.put, List.setIfInBounds_toArray, List.set_cons_zero, List.set_cons_succ, i64_w, i32_w]
                                    rfl
                                  refine pure_ (i := 5) (N := some 70) (v := ?_) (a' := ?_) #[true, true, false, false, false, true, false, false, false, false, false, false] rfl rfl (any_of HT_.out (by kernel_rfl)) (fun _ _ _ h => h) (Or.inl ⟨by rfl, ?_⟩) ?_ ?_
                                  rotate_left
                                  · intro w'
                                    go_simp
                                    with_reducible rfl
                                  rotate_left
                                  · simp only [Act.put, List.setIfInBounds_toArray, List.set_cons_zero, List.set_cons_succ, i64_w, i32_w]
                                    rfl
                                  refine pure_ (i := 6) (N := some 71) (v := ?_) (a' := ?_) #[true, true, false, false, false, true, true, false, false, false, false, false] rfl rfl (any_of HT_.out (by kernel_rfl)) (fun _ _ _ h => h) (Or.inl ⟨by rfl, ?_⟩) ?_ ?_
                                  rotate_left
                                  · intro w'
                                    go_simp
                                    with_reducible rfl
                                  rotate_left
                                  · simp only [Act.put, List.setIfInBounds_toArray, List.set_cons_zero, List.set_cons_succ, i64_w, i32_w]
                                    rfl
                                  refine pure_ (i := 7) (N := some 72) (v := ?_) (a' := ?_) #[true, true, false, false, false, true, true, true, false, false, false, false] rfl rfl (any_of HT_.out (by kernel_rfl)) (fun _ _ _ h => h) (Or.inl ⟨by rfl, ?_⟩) ?_ ?_
                                  rotate_left
                                  · intro w'
                                    go_simp
                                    with_reducible rfl
                                  rotate_left
                                  · simp only [Act.put, List.setIfInBounds_toArray, List.set_cons_zero, List.set_cons_succ, i64_w, i32_w]
                                    rfl
                                  refine take_ (i := 2) (N := some 67) (v := ?_) (a' := ?_) #[true, true, true, false, false, true, true, true, false, false, false, false] rfl rfl (take_ofW HT_.out HW_.out (by kernel_rfl)) (fun _ _ _ h => h) (Or.inl ⟨by rfl, ?_⟩) hHeld ?_ ?_
                                  rotate_left
                                  · rintro w' ⟨s0, s1, s2, s3, s4⟩
                                    go_simp
                                    with_reducible rfl
                                  rotate_left
                                  · simp only [Act.put, List.setIfInBounds_toArray, List.set_cons_zero, List.set_cons_succ, i64_w, i32_w]
                                    rfl
                                  refine pure_ (i := 3) (N := some 68) (v := ?_) (a' := ?_) #[true, true, true, true, false, true, true, true, false, false, false, false] rfl rfl (any_of HT_.out (by kernel_rfl)) (fun _ _ _ h => h) (Or.inl ⟨by rfl, ?_⟩) ?_ ?_
                                  rotate_left
                                  · intro w'
                                    go_simp
                                    with_reducible rfl
                                  rotate_left
                                  · simp only [Act.put, List.setIfInBounds_toArray, List.set_cons_zero, List.set_cons_succ, i64_w, i32_w]
                                    rfl
                                  refine take_ (i := 4) (N := some 69) (v := ?_) (a' := ?_) #[true, true, true, true, true, true, true, true, false, false, false, false] rfl rfl (take_ofW HT_.out HW_.out (by kernel_rfl)) (fun _ _ _ h => h) (Or.inl ⟨by rfl, ?_⟩) hHeld ?_ ?_
                                  rotate_left
                                  · rintro w' ⟨s0, s1, s2, s3, s4⟩
                                    go_simp
                                    with_reducible rfl
                                  rotate_left
                                  · simp only [Act.put, List.setIfInBounds_toArray, List.set_cons_zero, List.set_cons_succ, i64_w, i32_w]
                                    rfl
                                  refine take_ (i := 8) (N := some 73) (v := ?_) (a' := ?_) #[true, true, true, true, true, true, true, true, true, false, false, false] rfl rfl (take_ofW HT_.out HW_.out (by kernel_rfl)) (fun _ _ _ h => h) (Or.inl ⟨by rfl, ?_⟩) hHeld ?_ ?_
                                  rotate_left
                                  · rintro w' ⟨s0, s1, s2, s3, s4⟩
                                    go_simp
                                    with_reducible rfl
                                  rotate_left
                                  · simp only [Act.put, List.setIfInBounds_toArray, List.set_cons_zero, List.set_cons_succ, i64_w, i32_w]
                                    rfl
                                  refine pure_ (i := 9) (N := some 74) (v := ?_) (a' := ?_) #[true, true, true, true, true, true, true, true, true, true, false, false] rfl rfl (any_of HT_.out (by kernel_rfl)) (fun _ _ _ h => h) (Or.inl ⟨by rfl, ?_⟩) ?_ ?_
                                  rotate_left
                                  · intro w'
                                    go_simp
                                    with_reducible rfl
                                  rotate_left
                                  · simp only [Act.put, List.setIfInBounds_toArray, List.set_cons_zero, List.set_cons_succ, i64_w, i32_w]
                                    rfl
                                  refine pure_ (i := 10) (N := some 75) (v := ?_) (a' := ?_) #[true, true, true, true, true, true, true, true, true, true, true, false] rfl rfl (any_of HT_.out (by kernel_rfl)) (fun _ _ _ h => h) (Or.inl ⟨by rfl, ?_⟩) ?_ ?_
                                  rotate_left
                                  · intro w'
                                    go_simp
                                    with_reducible rfl
                                  rotate_left
                                  · simp only [Act.put, List.setIfInBounds_toArray, List.set_cons_zero, List.set_cons_succ, i64_w, i32_w]
                                    rfl
                                  refine last_ (i := 11) (N := none) #[true, true, true, true, true, true, true, true, true, true, true, true] rfl rfl (one_of HT_.out (by kernel_rfl)) (by decide) (fun K hK => ?_)
                                  refine skip_ (w1 := ?_) (by rfl) rfl ?_ ?_
                                  rotate_left
                                  · go_simp
                                    rfl
                                  refine hK.out _ _ ?_
                                  clear hK K
                                  refine done_ (done_of HT_.out (by kernel_rfl)) ?_
                                  try go_wp2
                                  go_roundg k1
                                  case measure => have := HK1.out; omega
                                  case rel => exact ⟨(y115), (wrap64 (x35_1 + 1)), (by first | rfl | (simp; done) | (simp [*]; done)), H', ⟨by have := HK1.out; omega⟩, ⟨by (with_reducible repeat (first | apply Kd.R_alloc | apply Kd.R_drewN | apply Kd.R_drew)); exact HQ43.out⟩, ⟨by repeat (first | (with_reducible first | exact HB.out | apply below_alloc | apply pw_below_drewN | apply below_drew1 | refine below_set ?_ GB30.out | refine below_set ?_ GE107.out) | exact HB.out)⟩⟩
                                · rw [if_neg c32] at H
                                  exact absurd H (by simp)
                              · rw [if_neg c31] at H
                                exact absurd H (by simp)
                            · rw [if_neg c29] at H
                              exact absurd H (by simp)
                          · rw [if_neg c28] at H
                            exact absurd H (by simp)
                    · rw [if_neg c17] at H
                      exact absurd H (by simp)
                  · rw [if_neg c16] at H
                    exact absurd H (by simp)
                · rw [if_neg c15] at H
                  exact absurd H (by simp)
              · rw [if_neg c14] at H
                have c14b0 : decide (x35_1 < (l1.length : Int)) = false := decide_eq_false c14
                clear c14
                have H' := Aside0.mk H
                clear H
                obtain ⟨Ao44, co44, eo44⟩ := Kd.R_slice HO_13.out
                subst eo44
                go_wp2
                go_loopg [79] k1 (fun kq v79 w' => ∃ (x79_2 : Int), v79 = .int .i64 x79_2 ∧ Aside0 (flow_Value.l1 kq a2 a3 x13_1 x13_1 (x13_1.length : Int) x79_2 = some (r1, r2)) ∧ Aside0 (kq ≤ k1) ∧ Aside0 (Kd.R (Kd.int .i64) 3 w' w.heap.size (fun _ => True) (.slice Ao44 x13_1.length co44) x13_1) ∧ Aside0 (Kd.R (Kd.int .i64) 3 w' w.heap.size (fun _ => True) (.slice Ao44 x13_1.length co44) x13_1) ∧ Aside0 (Below w.heap.size w w'))
                case atStart => exact ⟨(0), (by first | rfl | (simp; done) | (simp [*]; done)), H', ⟨Nat.le_refl _⟩, ⟨by (with_reducible repeat (first | apply Kd.R_alloc | apply Kd.R_drewN | apply Kd.R_drew)); exact HO_13.out⟩, ⟨by (with_reducible repeat (first | apply Kd.R_alloc | apply Kd.R_drewN | apply Kd.R_drew)); exact HO_13.out⟩, ⟨by repeat (first | (with_reducible first | exact HB.out | apply below_alloc | apply pw_below_drewN | apply below_drew1) | exact HB.out)⟩⟩
                case round =>
                  clear H'
                  try clear c1
                  try clear p1
                  try clear q1
                  try clear hx1
                  try clear c2
                  try clear p2
                  try clear c3
                  try clear p3
                  try clear q3
                  try clear hx3
                  try clear p6
                  try clear p10
                  try clear q10
                  try clear hx10
                  try clear p11
                  try clear q11
                  try clear hx11
                  try clear c14
                  try clear c14b0
                  try clear c15
                  try clear c16
                  try clear c17
                  try clear c23
                  try clear c23b0
                  try clear c28
                  try clear c28b0
                  try clear c29
                  try clear c29b0
                  try clear p30
                  try clear q30
                  try clear hx30
                  try clear hf30
                  try clear c31
                  try clear c31b0
                  try clear c32
                  try clear c32b0
                  try clear p33
                  try clear q33
                  try clear hx33
                  try clear hf33
                  try clear hcz35_0
                  try clear hcz35_1
                  try clear hcz35_2
                  try clear hfz35_0
                  try clear hfz35_1
                  try clear hfz35_2
                  try clear hx106_0
                  try clear hx106_1
                  try clear hx106_2
                  try clear hx108_0
                  try clear hx109_0
                  try clear hx110_0
                  try clear hx111_0
                  try clear hx113_0
                  try clear hx114_0
                  try clear hx30_0
                  try clear hx33_0
                  try clear p106
                  try clear p108
                  try clear p109
                  try clear p110
                  try clear p111
                  try clear p113
                  try clear p114
                  try clear p30
                  try clear p33
                  try clear q106
                  try clear q108
                  try clear q109
                  try clear q110
                  try clear q111
                  try clear q113
                  try clear q114
                  try clear q30
                  try clear q33
                  obtain ⟨x79_2, rfl, HA, HK2, HO_13, HO_77, HB⟩ := hrel
                  cases gk with
                  | zero => exact absurd HA.out (by simp [flow_Value.l1])
                  | succ k2 =>
                    have H := HA.out
                    clear HA
                    simp only [flow_Value.l1] at H
                    by_cases c45 : x79_2 < (x13_1.length : Int)
                    · rw [if_pos c45] at H
                      have c45b0 : decide (x79_2 < (x13_1.length : Int)) = true := decide_eq_true c45
                      clear c45
                      by_cases c46 : 0 ≤ x79_2
                      · rw [if_pos c46] at H
                        have c46b0 : decide (0 ≤ x79_2) = true := decide_eq_true c46
                        clear c46
                        by_cases c47 : x79_2 < (x13_1.length : Int)
                        · rw [if_pos c47] at H
                          have c47b0 : decide (x79_2 < (x13_1.length : Int)) = true := decide_eq_true c47
                          clear c47
                          have HC48 := Aside0.mk H
                          clear H
                          have p117 : 0 ≤ (x79_2 : Int) := of_decide_eq_true (by first | (with_reducible assumption) | assumption)
                          have q117 : x79_2 < (x13_1.length : Int) := of_decide_eq_true (by first | (with_reducible assumption) | assumption)
                          obtain ⟨ad117, e117, hx117_0⟩ := Kd.at_int (Kd.R_reads' HO_77.out).2.2 x79_2 p117 q117
                          cases e117
                          replace p117 := eq_true p117
                          replace q117 := eq_true q117
                          go_upto_region 18 with (fail)
                          go_cut [95] (fun v95 wc => ∃ (kq : Nat) (x95_47 : Bool), v95 = .bool x95_47 ∧ Aside0 (flow_Value.j2 kq a2 a3 x13_1 x13_1 (x13_1.length : Int) x79_2 x95_47 = some (r1, r2)) ∧ Aside0 (kq ≤ k2) ∧ Aside0 (Kd.R (Kd.int .i64) 3 wc w.heap.size (fun _ => True) (.slice (some ad117) x13_1.length co44) x13_1) ∧ Aside0 (Kd.R (Kd.int .i64) 3 wc w.heap.size (fun _ => True) (.slice (some ad117) x13_1.length co44) x13_1) ∧ Aside0 (Below w.heap.size w wc))
                          case first =>
                            have H := HC48.out
                            clear HC48
                            by_cases c49 : x79_2 = a2
                            · rw [if_pos c49] at H
                              have c49b0 : (x79_2 == a2) = true := beq_iff_eq.mpr c49
                              have c49b1 : (x79_2 != a2) = false := bne_eq_false_iff_eq.mpr c49
                              clear c49
                              (first | rw [c49b0] | (simp only [i64_w, i32_w]; rw [c49b0]) | skip)
                              have H' := Aside0.mk H
                              clear H
                              go_wp2
                              go_meet
                              case rel => exact ⟨_, (false), (by first | rfl | (simp; done) | (simp [*]; done)), H', ⟨by have := HK1.out; have := HK2.out; first | omega | exact Nat.le_refl _⟩, ⟨by (with_reducible repeat (first | apply Kd.R_alloc | apply Kd.R_drewN | apply Kd.R_drew)); exact HO_13.out⟩, ⟨by (with_reducible repeat (first | apply Kd.R_alloc | apply Kd.R_drewN | apply Kd.R_drew)); exact HO_77.out⟩, ⟨by repeat (first | (with_reducible first | exact HB.out | apply below_alloc | apply pw_below_drewN | apply below_drew1) | exact HB.out)⟩⟩
                            · rw [if_neg c49] at H
                              have c49b0 : (x79_2 == a2) = false := beq_eq_false_iff_ne.mpr c49
                              have c49b1 : (x79_2 != a2) = true := bne_iff_ne.mpr c49
                              (first | rw [c49b0] | (simp only [i64_w, i32_w]; rw [c49b0]) | skip)
                              by_cases c50 : x79_2 = a3
                              · rw [if_pos c50] at H
                                have c50b0 : (x79_2 == a3) = true := beq_iff_eq.mpr c50
                                have c50b1 : (x79_2 != a3) = false := bne_eq_false_iff_eq.mpr c50
                                clear c50
                                have H' := Aside0.mk H
                                clear H
                                go_wp2
                                go_meet
                                case rel => exact ⟨_, (false), (by first | rfl | (simp; done) | (simp [*]; done)), H', ⟨by have := HK1.out; have := HK2.out; first | omega | exact Nat.le_refl _⟩, ⟨by (with_reducible repeat (first | apply Kd.R_alloc | apply Kd.R_drewN | apply Kd.R_drew)); exact HO_13.out⟩, ⟨by (with_reducible repeat (first | apply Kd.R_alloc | apply Kd.R_drewN | apply Kd.R_drew)); exact HO_77.out⟩, ⟨by repeat (first | (with_reducible first | exact HB.out | apply below_alloc | apply pw_below_drewN | apply below_drew1) | exact HB.out)⟩⟩
                              · rw [if_neg c50] at H
                                have c50b0 : (x79_2 == a3) = false := beq_eq_false_iff_ne.mpr c50
                                have c50b1 : (x79_2 != a3) = true := bne_iff_ne.mpr c50
                                have H' := Aside0.mk H
                                clear H
                                go_wp2
                                go_meet
                                case rel => exact ⟨_, (((rd x13_1 x79_2) != 0)), (by first | rfl | (simp; done) | (simp [*]; done)), H', ⟨by have := HK1.out; have := HK2.out; first | omega | exact Nat.le_refl _⟩, ⟨by (with_reducible repeat (first | apply Kd.R_alloc | apply Kd.R_drewN | apply Kd.R_drew)); exact HO_13.out⟩, ⟨by (with_reducible repeat (first | apply Kd.R_alloc | apply Kd.R_drewN | apply Kd.R_drew)); exact HO_77.out⟩, ⟨by repeat (first | (with_reducible first | exact HB.out | apply below_alloc | apply pw_below_drewN | apply below_drew1) | exact HB.out)⟩⟩
                          case rest =>
                            clear HC48
                            try clear c1
                            try clear p1
                            try clear q1
                            try clear hx1
                            try clear c2
                            try clear p2
                            try clear c3
                            try clear p3
                            try clear q3
                            try clear hx3
                            try clear c4
                            try clear c5
                            try clear p6
                            try clear p10
                            try clear q10
                            try clear hx10
                            try clear p11
                            try clear q11
                            try clear hx11
                            try clear c14
                            try clear c14b0
                            try clear c15
                            try clear c16
                            try clear c17
                            try clear c23
                            try clear c23b0
                            try clear c28
                            try clear c28b0
                            try clear c29
                            try clear c29b0
                            try clear p30
                            try clear q30
                            try clear hx30
                            try clear hf30
                            try clear c31
                            try clear c31b0
                            try clear c32
                            try clear c32b0
                            try clear p33
                            try clear q33
                            try clear hx33
                            try clear hf33
                            try clear c45
                            try clear c45b0
                            try clear c46
                            try clear c46b0
                            try clear c47
                            try clear c47b0
                            try clear c49
                            try clear c49b0
                            try clear c49b1
                            try clear c50
                            try clear c50b0
                            try clear c50b1
                            try clear hcz35_0
                            try clear hcz35_1
                            try clear hcz35_2
                            try clear hfz35_0
                            try clear hfz35_1
                            try clear hfz35_2
                            try clear hx106_0
                            try clear hx106_1
                            try clear hx106_2
                            try clear hx108_0
                            try clear hx109_0
                            try clear hx110_0
                            try clear hx111_0
                            try clear hx113_0
                            try clear hx114_0
                            try clear hx117_0
                            try clear hx30_0
                            try clear hx33_0
                            try clear p1
                            try clear p10
                            try clear p106
                            try clear p108
                            try clear p109
                            try clear p11
                            try clear p110
                            try clear p111
                            try clear p113
                            try clear p114
                            try clear p117
                            try clear p2
                            try clear p3
                            try clear p30
                            try clear p33
                            try clear p6
                            try clear q1
                            try clear q10
                            try clear q106
                            try clear q108
                            try clear q109
                            try clear q11
                            try clear q110
                            try clear q111
                            try clear q113
                            try clear q114
                            try clear q117
                            try clear q3
                            try clear q30
                            try clear q33
                            obtain ⟨kq, x95_47, rfl, HA, HJ47, HO_13, HO_77, HB⟩ := hcut
                            cases kq with
                            | zero => exact absurd HA.out (by simp [flow_Value.j2])
                            | succ kj47 =>
                              have H := HA.out
                              clear HA
                              simp only [flow_Value.j2] at H
                              by_cases c51 : x95_47 = true
                              · subst c51
                                have H1 : (some (0, 180)) = some (r1, r2) := by rw [if_pos rfl] at H; exact H
                                clear H
                                have H := H1
                                clear H1
                                simp only [Option.some.injEq, Prod.mk.injEq] at H
                                obtain ⟨rfl, rfl⟩ := H
                                go_wp2
                                go_ret2
                                exact ⟨by first | rfl | (simp [errW_none, errW_some] <;> rfl) | (simp [*, errW_none, errW_some] <;> rfl), by repeat (first | (with_reducible first | exact HB.out | apply below_alloc | apply pw_below_drewN | apply below_drew1) | exact HB.out)⟩
                              · replace c51 := Bool.eq_false_iff.mpr c51
                                subst c51
                                have H1 : (flow_Value.l1 kj47 a2 a3 x13_1 x13_1 (x13_1.length : Int) (wrap64 (x79_2 + 1))) = some (r1, r2) := by rw [if_neg (show ¬ (false = true) by decide)] at H; exact H
                                clear H
                                have H := H1
                                clear H1
                                have H' := Aside0.mk H
                                clear H
                                go_wp2
                                go_roundg kj47
                                case measure => have := HK1.out; have := HK2.out; have := HJ47.out; omega
                                case rel => exact ⟨(wrap64 (x79_2 + 1)), (by first | rfl | (simp; done) | (simp [*]; done)), H', ⟨by have := HK1.out; have := HK2.out; have := HJ47.out; omega⟩, ⟨by (with_reducible repeat (first | apply Kd.R_alloc | apply Kd.R_drewN | apply Kd.R_drew)); exact HO_13.out⟩, ⟨by (with_reducible repeat (first | apply Kd.R_alloc | apply Kd.R_drewN | apply Kd.R_drew)); exact HO_77.out⟩, ⟨by repeat (first | (with_reducible first | exact HB.out | apply below_alloc | apply pw_below_drewN | apply below_drew1) | exact HB.out)⟩⟩
                        · rw [if_neg c47] at H
                          exact absurd H (by simp)
                      · rw [if_neg c46] at H
                        exact absurd H (by simp)
                    · rw [if_neg c45] at H
                      have c45b0 : decide (x79_2 < (x13_1.length : Int)) = false := decide_eq_false c45
                      clear c45
                      by_cases c52 : 0 ≤ a2
                      · rw [if_pos c52] at H
                        have c52b0 : decide (0 ≤ a2) = true := decide_eq_true c52
                        clear c52
                        by_cases c53 : a2 < (x13_1.length : Int)
                        · rw [if_pos c53] at H
                          have c53b0 : decide (a2 < (x13_1.length : Int)) = true := decide_eq_true c53
                          clear c53
                          simp only [Option.some.injEq, Prod.mk.injEq] at H
                          obtain ⟨rfl, rfl⟩ := H
                          have p116 : 0 ≤ (a2 : Int) := of_decide_eq_true (by first | (with_reducible assumption) | assumption)
                          have q116 : a2 < (x13_1.length : Int) := of_decide_eq_true (by first | (with_reducible assumption) | assumption)
                          obtain ⟨ad116, e116, hx116_0⟩ := Kd.at_int (Kd.R_reads' HO_13.out).2.2 a2 p116 q116
                          cases e116
                          replace p116 := eq_true p116
                          replace q116 := eq_true q116
                          go_wp2
                          go_ret2
                          exact ⟨by first | rfl | (simp [errW_none, errW_some] <;> rfl) | (simp [*, errW_none, errW_some] <;> rfl), by repeat (first | (with_reducible first | exact HB.out | apply below_alloc | apply pw_below_drewN | apply below_drew1) | exact HB.out)⟩
                        · rw [if_neg c53] at H
                          exact absurd H (by simp)
                      · rw [if_neg c52] at H
                        exact absurd H (by simp)
        · rw [if_neg c10] at H
          exact absurd H (by simp)
      · rw [if_neg c9] at H
        exact absurd H (by simp)
    · rw [if_neg c8] at H
      have c8b0 : ((l4.length : Int) == (l1.length : Int)) = false := beq_eq_false_iff_ne.mpr c8
      have c8b1 : ((l4.length : Int) != (l1.length : Int)) = true := bne_iff_ne.mpr c8
      have c8b2 : (l4.length == l1.length) = false := by first | simpa using c8 | (simp at c8 ⊢; omega)
      simp only [Option.some.injEq, Prod.mk.injEq] at H
      obtain ⟨rfl, rfl⟩ := H
      go_enter Try.func21, Try.ntmps21
      go_wp2_with (first | ((with_reducible refine gate_callee (f := 42) rfl ?_); refine goesL_ (some 22) rfl rfl Try.func42 (by kernel_rfl) rfl #[.int .i64 a0, .slice A1 l1.length c1, .int .i64 a2, .int .i64 a3] rfl (by (try simp only [List.map_toArray, List.map_cons, List.map_nil]); first | done | rfl | (simp only [List.length_drop, List.length_take]; rfl)) ?_; (with_reducible refine (flow_check.calls k a0 _ _ l1 a2 a3 t102 _ ?side1 ?side2 A6.out).mono ?_); (case side1 => repeat (first | exact HR1.out | (with_reducible refine Kd.C_alloc ?_ _) | (with_reducible refine Kd.C_drewN ?_ _) | (with_reducible refine Kd.C_drew ?_))); (case side2 => exact HC1.out); rintro e w54 ⟨rfl, hb⟩; refine ⟨_, rfl, ?_⟩; have n0_ := Aside0.mk (below_step (by repeat (first | (with_reducible first | exact HB.out | apply below_alloc | apply pw_below_drewN | apply below_drew1) | exact HB.out)) hb); clear HB; have HB := n0_; clear n0_; (try clear hb); (try clear hb2); (try clear hk); (try clear hi)))
      go_ret2
      exact ⟨by first | rfl | (simp [errW_none, errW_some] <;> rfl) | (simp [*, errW_none, errW_some] <;> rfl), by repeat (first | (with_reducible first | exact HB.out | apply below_alloc | apply pw_below_drewN | apply below_drew1) | exact HB.out)⟩
  · rw [if_neg c7] at H
    have c7b0 : (t102 == 0) = false := beq_eq_false_iff_ne.mpr c7
    have c7b1 : (t102 != 0) = true := bne_iff_ne.mpr c7
    simp only [Option.some.injEq, Prod.mk.injEq] at H
    obtain ⟨rfl, rfl⟩ := H
    go_enter Try.func21, Try.ntmps21
    go_wp2_with (first | ((with_reducible refine gate_callee (f := 42) rfl ?_); refine goesL_ (some 22) rfl rfl Try.func42 (by kernel_rfl) rfl #[.int .i64 a0, .slice A1 l1.length c1, .int .i64 a2, .int .i64 a3] rfl (by (try simp only [List.map_toArray, List.map_cons, List.map_nil]); first | done | rfl | (simp only [List.length_drop, List.length_take]; rfl)) ?_; (with_reducible refine (flow_check.calls k a0 _ _ l1 a2 a3 t102 _ ?side1 ?side2 A6.out).mono ?_); (case side1 => repeat (first | exact HR1.out | (with_reducible refine Kd.C_alloc ?_ _) | (with_reducible refine Kd.C_drewN ?_ _) | (with_reducible refine Kd.C_drew ?_))); (case side2 => exact HC1.out); rintro e w55 ⟨rfl, hb⟩; refine ⟨_, rfl, ?_⟩; have n0_ := Aside0.mk (below_step (by repeat (first | (with_reducible first | exact HB.out | apply below_alloc | apply pw_below_drewN | apply below_drew1) | exact HB.out)) hb); clear HB; have HB := n0_; clear n0_; (try clear hb); (try clear hb2); (try clear hk); (try clear hi)))
    go_ret2
    exact ⟨by first | rfl | (simp [errW_none, errW_some] <;> rfl) | (simp [*, errW_none, errW_some] <;> rfl), by repeat (first | (with_reducible first | exact HB.out | apply below_alloc | apply pw_below_drewN | apply below_drew1) | exact HB.out)⟩
end Go.Proofs.Ytadeidhefjifaaa.Px
end
section
set_option linter.unusedVariables false
set_option linter.unusedSimpArgs false
namespace Go.Proofs.Ytadeidhefjifaaa.Px
open Go.RowKit Go.Shelf Go.Proofs.YtadeidhefjifaaaW.PrintWords Go.Proofs.YtadeidhefjifaaaW.PrintLast Go.Proofs.YtadeidhefjifaaaW.PrintMore
abbrev La : List S61 := [⟨0, 1, 3⟩, ⟨1, 2, 2⟩]
abbrev Lb : List S61 := [⟨1, 0, 5⟩]
abbrev Lc : List S61 := [⟨1, 1, 0⟩]
theorem bools2 (c : List Bool) (h : c.length = 2) (h0 : Cof c 0 = true) (h1 : Cof c 1 = false) : c = [true, false] := by
  match c, h with
  | [a, b], _ => simp [Cof, List.getD] at h0 h1; rw [h0, h1]
theorem bools3 (c : List Bool) (h : c.length = 3) (h0 : Cof c 0 = true) (h1 : Cof c 1 = true) (h2 : Cof c 2 = false) : c = [true, true, false] := by
  match c, h with
  | [a, b, d], _ => simp [Cof, List.getD] at h0 h1 h2; rw [h0, h1, h2]
theorem sane_max1 : flow_Max.f 1 3 La 0 2 = some ([2, 2], [true, true, false], 0) := by
  have hg : Good 3 La 0 2 := (good_iff 3 La 0 2).1 (by decide)
  obtain ⟨fl, c, h, ho, hc⟩ := max_good 0 3 La 0 2 hg
  rw [h]
  have hlen := ho.flow.bnd.length
  match fl, hlen with
  | [x, y], _ =>
    have hb := ho.flow.bnd
    have h1 := ho.flow.cons 1 (by decide) (by decide) (by decide) (by decide)
    have hcl := ho.closed
    have hs := ho.hs
    have ht := ho.ht
    simp [FlowM.outs] at h1
    simp [FlowM.Bnd] at hb
    simp [FlowM.Closed, hs, ht] at hcl
    have hxy : x = 2 ∧ y = 2 ∧ Cof c 1 = true := by
      cases h1c : Cof c 1 with
      | true => rw [h1c] at hcl; simp at hcl; exact ⟨by omega, by omega, rfl⟩
      | false => rw [h1c] at hcl; simp at hcl; exfalso; omega
    obtain ⟨rfl, rfl, h1c⟩ := hxy
    rw [bools3 c (by omega) hs h1c ht]
theorem sane_max2 : flow_Max.f 1 2 [] 0 1 = some ([], [true, false], 0) := by
  have hg : Good 2 [] 0 1 := (good_iff 2 [] 0 1).1 (by decide)
  obtain ⟨fl, c, h, ho, hc⟩ := max_good 0 2 [] 0 1 hg
  rw [h]
  have hlen := ho.flow.bnd.length
  match fl, hlen with
  | [], _ => rw [bools2 c (by omega) ho.hs ho.ht]
theorem sane_max3 : flow_Max.f 1 2 [] 0 0 = some ([], [], 180) := max_bad 0 2 [] 0 0 (fun h => h.ne rfl)
theorem sane_val1 : flow_Value.f 20 3 La 0 2 [2, 2] = some (2, 0) := by kernel_rfl
theorem sane_val2 : flow_Value.f 20 3 La 0 2 [1, 1, 0] = some (0, 180) := by kernel_rfl
theorem sane_cap : flow_Capacity.f 20 2 Lb 0 1 [true, false] = some (0, 0) := by kernel_rfl
theorem sane_cut1 : sizarref18_SameCut.f 20 [true, true, false] [true, true, false] = some true := by kernel_rfl
theorem sane_cut2 : sizarref18_SameCut.f 20 [true, false] [true, false] = some true := by kernel_rfl
theorem sane_chk1 : flow_Check.f 1 [] = some 180 := by kernel_rfl
theorem sane_chk2 : flow_Check.f 2 Lc = some 180 := by kernel_rfl
theorem C61_blk2 {W : World} {b : Nat} {x y : S61} (h : W.heap[b]? = some (.cells #[.int .i64 x.f0, .int .i64 x.f1, .int .i64 x.f2, .int .i64 y.f0, .int .i64 y.f1, .int .i64 y.f2] 61 (0, 0))) : Kd.C k61 W (some ⟨b, 0, none⟩) 2 [x, y] :=
  (Kd.R_reads' (d := k61) (e := 61) (w := W) (base := 0) (ok := fun _ => True) (A := some ⟨b, 0, none⟩) (n := 2) (c := 2) (xs := [x, y]) ⟨fun _ _ => True.intro, _, ⟨rfl, .inr ⟨b, 2, _, rfl, Nat.zero_le _, h, Nat.le_refl _, by decide, rfl, rfl⟩⟩, rfl, fun j p hj => by
    match j, hj with
    | 0, hj => simp at hj; subst hj; exact k61_mkM _ _ _ _
    | 1, hj => simp at hj; subst hj; exact k61_mkM _ _ _ _⟩).2.2
theorem C61_blk1 {W : World} {b : Nat} {x : S61} (h : W.heap[b]? = some (.cells #[.int .i64 x.f0, .int .i64 x.f1, .int .i64 x.f2] 61 (0, 0))) : Kd.C k61 W (some ⟨b, 0, none⟩) 1 [x] :=
  (Kd.R_reads' (d := k61) (e := 61) (w := W) (base := 0) (ok := fun _ => True) (A := some ⟨b, 0, none⟩) (n := 1) (c := 1) (xs := [x]) ⟨fun _ _ => True.intro, _, ⟨rfl, .inr ⟨b, 1, _, rfl, Nat.zero_le _, h, Nat.le_refl _, by decide, rfl, rfl⟩⟩, rfl, fun j p hj => by
    match j, hj with
    | 0, hj => simp at hj; subst hj; exact k61_mkM _ _ _ _⟩).2.2
theorem C61_nil (W : World) : Kd.C k61 W none 0 [] := (Kd.R_reads' (Kd.R_nil k61 61 W 0 (fun _ => True))).2.2
theorem blk_Cb {W : World} {R : Nat} {xs : List Bool} (hR : W.heap[R]? = some (.cells (xs.map Value.bool).toArray 4 (0, 0))) (hn : xs.length ≤ maxLen) : Kd.C Kd.bool W (some ⟨R, 0, none⟩) xs.length xs :=
  (Kd.R_reads' (Kd.R_of_own (base := 0) (ok := fun _ => True) (v := .slice (some ⟨R, 0, none⟩) xs.length xs.length) (xs := xs) ⟨by simp [encs], .inr ⟨R, xs.length, _, rfl, by omega, hR, Nat.le_refl _, hn, by simp, by simp [encs, List.take_of_length_le]⟩⟩ (fun _ _ => True.intro))).2.2
def sizarlaw18_sane.f : Option Bool := some true
set_option maxRecDepth 100000 in
set_option maxHeartbeats 4000000 in
theorem sizarlaw18_sane.calls (r : Bool) (w : World) (h : sizarlaw18_sane.f = some r) : Calls Try.prog 19 #[] w fun e w' => e = .returned (.bool r) ∧ Below w.heap.size w w' := by
  obtain rfl : true = r := by simpa [sizarlaw18_sane.f] using h
  clear h
  have hu61 := Try.underlying61
  go_enter Try.func19, Try.ntmps19
  go_wp2_with fail
  have hb1 : Below w.heap.size w (w.alloc (Obj.cells #[.int .i64 0, .int .i64 1, .int .i64 3, .int .i64 1, .int .i64 2, .int .i64 2] 61)) := below_alloc (Below.refl _ _) _
  have hC1 : Kd.C k61 (w.alloc (Obj.cells #[.int .i64 0, .int .i64 1, .int .i64 3, .int .i64 1, .int .i64 2, .int .i64 2] 61)) (some ⟨w.heap.size, 0, none⟩) La.length La := C61_blk2 (heap_alloc_new _ _)
  obtain ⟨W1, hW1⟩ : ∃ W1, w.alloc (Obj.cells #[.int .i64 0, .int .i64 1, .int .i64 3, .int .i64 1, .int .i64 2, .int .i64 2] 61) = W1 := ⟨_, rfl⟩
  rw [hW1] at hb1 hC1 ⊢
  clear hW1
  have HB := Aside0.mk hb1
  have HC := Aside0.mk hC1
  clear hb1 hC1
  refine (show Calls Try.prog 27 #[.int .i64 3, .slice (some ⟨w.heap.size, 0, none⟩) 2 2, .int .i64 0, .int .i64 2] W1 _ from flow_Max.calls 1 3 (some ⟨w.heap.size, 0, none⟩) 2 La 0 2 _ _ _ W1 HC.out (Nat.le_refl _) sane_max1).mono ?_
  rintro e W2 ⟨v0, v1, rfl, hR0, hR1, hb2⟩
  obtain ⟨g0, c0, rfl, -, -, -⟩ := Kd.R_form hR0 (by decide)
  have hc0 := (Kd.R_reads' hR0).2.1
  have hC0 := (Kd.R_reads' hR0).2.2
  obtain ⟨A1, c1, rfl, hc1, hC1⟩ := Kd.R_reads hR1
  have n0 := Aside0.mk (below_step HB.out hb2)
  have n1 := Aside0.mk (Kd.C_below HC.out hb2)
  clear HB HC hR0 hR1 hb2
  have HB := n0
  have HC := n1
  clear n0 n1
  have HF := Aside0.mk (And.intro hc0 hC0)
  have HK := Aside0.mk (And.intro hc1 hC1)
  clear hc0 hC0 hc1 hC1
  simp only [List.length_cons, List.length_nil, Nat.zero_add, Nat.reduceAdd] at HF HK ⊢
  go_wp2_with fail
  refine (show Calls Try.prog 21 #[.int .i64 3, .slice (some ⟨w.heap.size, 0, none⟩) 2 2, .int .i64 0, .int .i64 2, .slice (some ⟨g0, 0, none⟩) 2 c0] W2 _ from flow_Value.calls 20 3 (some ⟨w.heap.size, 0, none⟩) 2 La 0 2 (some ⟨g0, 0, none⟩) c0 [2, 2] 2 0 W2 HC.out (Nat.le_refl _) HF.out.2 HF.out.1 sane_val1).mono ?_
  rintro e W3 ⟨rfl, hb3⟩
  have n0 := Aside0.mk (below_step HB.out hb3)
  have n1 := Aside0.mk (Kd.C_below HC.out hb3)
  have n2 := Aside0.mk (And.intro HF.out.1 (Kd.C_below HF.out.2 hb3))
  have n3 := Aside0.mk (And.intro HK.out.1 (Kd.C_below HK.out.2 hb3))
  clear HB HC HF HK hb3
  have HB := n0
  have HC := n1
  have HF := n2
  have HK := n3
  clear n0 n1 n2 n3
  go_wp2_with fail
  refine (show Calls Try.prog 27 #[.int .i64 2, .slice none 0 0, .int .i64 0, .int .i64 1] W3 _ from flow_Max.calls 1 2 none 0 [] 0 1 _ _ _ W3 (C61_nil W3) (Nat.le_refl _) sane_max2).mono ?_
  rintro e W4 ⟨v2, v3, rfl, hR0, hR1, hb4⟩
  obtain ⟨A2, c2, rfl, -, -⟩ := Kd.R_reads hR0
  obtain ⟨A3, c3, rfl, hc3, hC3⟩ := Kd.R_reads hR1
  have n0 := Aside0.mk (below_step HB.out hb4)
  have n1 := Aside0.mk (Kd.C_below HC.out hb4)
  have n2 := Aside0.mk (And.intro HF.out.1 (Kd.C_below HF.out.2 hb4))
  have n3 := Aside0.mk (And.intro HK.out.1 (Kd.C_below HK.out.2 hb4))
  have HM := Aside0.mk (And.intro hc3 hC3)
  clear HB HC HF HK hb4 hR0 hR1 hc3 hC3
  have HB := n0
  have HC := n1
  have HF := n2
  have HK := n3
  clear n0 n1 n2 n3
  simp only [List.length_cons, List.length_nil, Nat.zero_add, Nat.reduceAdd] at HM ⊢
  go_wp2_with fail
  refine (show Calls Try.prog 27 #[.int .i64 2, .slice none 0 0, .int .i64 0, .int .i64 0] W4 _ from flow_Max.calls 1 2 none 0 [] 0 0 _ _ _ W4 (C61_nil W4) (Nat.le_refl _) sane_max3).mono ?_
  rintro e W5 ⟨v4, v5, rfl, -, -, hb5⟩
  have n0 := Aside0.mk (below_step HB.out hb5)
  have n1 := Aside0.mk (Kd.C_below HC.out hb5)
  have n2 := Aside0.mk (And.intro HF.out.1 (Kd.C_below HF.out.2 hb5))
  have n3 := Aside0.mk (And.intro HK.out.1 (Kd.C_below HK.out.2 hb5))
  have n4 := Aside0.mk (And.intro HM.out.1 (Kd.C_below HM.out.2 hb5))
  clear HB HC HF HK HM hb5
  have HB := n0
  have HC := n1
  have HF := n2
  have HK := n3
  have HM := n4
  clear n0 n1 n2 n3 n4
  go_wp2_with fail
  have hb6 : Below W5.heap.size W5 ((W5.alloc (Obj.cells #[.int .i64 1, .int .i64 0, .int .i64 5] 61)).alloc (Obj.cells #[.bool true, .bool false] 4)) := below_alloc (below_alloc (Below.refl _ _) _) _
  have hCb : Kd.C k61 ((W5.alloc (Obj.cells #[.int .i64 1, .int .i64 0, .int .i64 5] 61)).alloc (Obj.cells #[.bool true, .bool false] 4)) (some ⟨W5.heap.size, 0, none⟩) Lb.length Lb := C61_blk1 (blk2_0 _ _ _)
  have hBb : Kd.C Kd.bool ((W5.alloc (Obj.cells #[.int .i64 1, .int .i64 0, .int .i64 5] 61)).alloc (Obj.cells #[.bool true, .bool false] 4)) (some ⟨W5.heap.size + 1, 0, none⟩) [true, false].length [true, false] := blk_Cb (blk2_1 _ _ _) (by decide)
  obtain ⟨W6, hW6⟩ : ∃ W6, (W5.alloc (Obj.cells #[.int .i64 1, .int .i64 0, .int .i64 5] 61)).alloc (Obj.cells #[.bool true, .bool false] 4) = W6 := ⟨_, rfl⟩
  rw [hW6] at hb6 hCb hBb ⊢
  clear hW6
  have n0 := Aside0.mk (below_step HB.out hb6)
  have n1 := Aside0.mk (Kd.C_below HC.out hb6)
  have n2 := Aside0.mk (And.intro HF.out.1 (Kd.C_below HF.out.2 hb6))
  have n3 := Aside0.mk (And.intro HK.out.1 (Kd.C_below HK.out.2 hb6))
  have n4 := Aside0.mk (And.intro HM.out.1 (Kd.C_below HM.out.2 hb6))
  clear HB HC HF HK HM hb6
  have HB := n0
  have HC := n1
  have HF := n2
  have HK := n3
  have HM := n4
  clear n0 n1 n2 n3 n4
  refine (show Calls Try.prog 23 #[.int .i64 2, .slice (some ⟨W5.heap.size, 0, none⟩) 1 1, .int .i64 0, .int .i64 1, .slice (some ⟨W5.heap.size + 1, 0, none⟩) 2 2] W6 _ from flow_Capacity.calls 20 2 (some ⟨W5.heap.size, 0, none⟩) 1 Lb 0 1 (some ⟨W5.heap.size + 1, 0, none⟩) 2 [true, false] 0 0 W6 hCb (Nat.le_refl _) hBb (Nat.le_refl _) sane_cap).mono ?_
  rintro e W7 ⟨rfl, hb7⟩
  clear hCb hBb
  have n0 := Aside0.mk (below_step HB.out hb7)
  have n1 := Aside0.mk (Kd.C_below HC.out hb7)
  have n2 := Aside0.mk (And.intro HF.out.1 (Kd.C_below HF.out.2 hb7))
  have n3 := Aside0.mk (And.intro HK.out.1 (Kd.C_below HK.out.2 hb7))
  have n4 := Aside0.mk (And.intro HM.out.1 (Kd.C_below HM.out.2 hb7))
  clear HB HC HF HK HM hb7
  have HB := n0
  have HC := n1
  have HF := n2
  have HK := n3
  have HM := n4
  clear n0 n1 n2 n3 n4
  go_wp2_with fail
  have hb8 : Below W7.heap.size W7 (W7.alloc (Obj.cells #[.int .i64 1, .int .i64 1, .int .i64 0] 3)) := below_alloc (Below.refl _ _) _
  have hBb : Kd.C (Kd.int .i64) (W7.alloc (Obj.cells #[.int .i64 1, .int .i64 1, .int .i64 0] 3)) (some ⟨W7.heap.size, 0, none⟩) [(1 : Int), 1, 0].length [1, 1, 0] := blk_C (heap_alloc_new _ _) (by decide)
  obtain ⟨W8, hW8⟩ : ∃ W8, W7.alloc (Obj.cells #[.int .i64 1, .int .i64 1, .int .i64 0] 3) = W8 := ⟨_, rfl⟩
  rw [hW8] at hb8 hBb ⊢
  clear hW8
  have n0 := Aside0.mk (below_step HB.out hb8)
  have n1 := Aside0.mk (Kd.C_below HC.out hb8)
  have n2 := Aside0.mk (And.intro HF.out.1 (Kd.C_below HF.out.2 hb8))
  have n3 := Aside0.mk (And.intro HK.out.1 (Kd.C_below HK.out.2 hb8))
  have n4 := Aside0.mk (And.intro HM.out.1 (Kd.C_below HM.out.2 hb8))
  clear HB HC HF HK HM hb8
  have HB := n0
  have HC := n1
  have HF := n2
  have HK := n3
  have HM := n4
  clear n0 n1 n2 n3 n4
  refine (show Calls Try.prog 21 #[.int .i64 3, .slice (some ⟨w.heap.size, 0, none⟩) 2 2, .int .i64 0, .int .i64 2, .slice (some ⟨W7.heap.size, 0, none⟩) 3 3] W8 _ from flow_Value.calls 20 3 (some ⟨w.heap.size, 0, none⟩) 2 La 0 2 (some ⟨W7.heap.size, 0, none⟩) 3 [1, 1, 0] 0 180 W8 HC.out (Nat.le_refl _) hBb (Nat.le_refl _) sane_val2).mono ?_
  rintro e W9 ⟨rfl, hb9⟩
  clear hBb
  have n0 := Aside0.mk (below_step HB.out hb9)
  have n1 := Aside0.mk (Kd.C_below HC.out hb9)
  have n2 := Aside0.mk (And.intro HF.out.1 (Kd.C_below HF.out.2 hb9))
  have n3 := Aside0.mk (And.intro HK.out.1 (Kd.C_below HK.out.2 hb9))
  have n4 := Aside0.mk (And.intro HM.out.1 (Kd.C_below HM.out.2 hb9))
  clear HB HC HF HK HM hb9
  have HB := n0
  have HC := n1
  have HF := n2
  have HK := n3
  have HM := n4
  clear n0 n1 n2 n3 n4
  have q0 : W9.cell? ⟨g0, 0, none⟩ = some (.int .i64 2) := by
    obtain ⟨ad, e, h⟩ := rd_at HF.out.2 0 (by decide) (by decide)
    cases e; rw [add_plain] at h; exact h
  have q1 : W9.cell? ⟨g0, 1, none⟩ = some (.int .i64 2) := by
    obtain ⟨ad, e, h⟩ := rd_at HF.out.2 1 (by decide) (by decide)
    cases e; rw [add_plain] at h; exact h
  go_wp2_with fail
  clear q0 q1
  have hb10 : Below W9.heap.size W9 (W9.alloc (Obj.cells #[.bool true, .bool true, .bool false] 4)) := below_alloc (Below.refl _ _) _
  have hBb : Kd.C Kd.bool (W9.alloc (Obj.cells #[.bool true, .bool true, .bool false] 4)) (some ⟨W9.heap.size, 0, none⟩) [true, true, false].length [true, true, false] := blk_Cb (heap_alloc_new _ _) (by decide)
  obtain ⟨W10, hW10⟩ : ∃ W10, W9.alloc (Obj.cells #[.bool true, .bool true, .bool false] 4) = W10 := ⟨_, rfl⟩
  rw [hW10] at hb10 hBb ⊢
  clear hW10
  have n0 := Aside0.mk (below_step HB.out hb10)
  have n1 := Aside0.mk (Kd.C_below HC.out hb10)
  have n2 := Aside0.mk (And.intro HF.out.1 (Kd.C_below HF.out.2 hb10))
  have n3 := Aside0.mk (And.intro HK.out.1 (Kd.C_below HK.out.2 hb10))
  have n4 := Aside0.mk (And.intro HM.out.1 (Kd.C_below HM.out.2 hb10))
  clear HB HC HF HK HM hb10
  have HB := n0
  have HC := n1
  have HF := n2
  have HK := n3
  have HM := n4
  clear n0 n1 n2 n3 n4
  refine (show Calls Try.prog 29 #[.slice A1 3 c1, .slice (some ⟨W9.heap.size, 0, none⟩) 3 3] W10 _ from sizarref18_SameCut.calls 20 A1 c1 [true, true, false] (some ⟨W9.heap.size, 0, none⟩) 3 [true, true, false] true W10 HK.out.2 HK.out.1 hBb (Nat.le_refl _) sane_cut1).mono ?_
  rintro e W11 ⟨rfl, ⟨⟨nn, rfl⟩⟩⟩
  have hb11 : Below W10.heap.size W10 (W10.drewN nn) := pw_below_drewN (Below.refl _ _) nn
  obtain ⟨W11, hW11⟩ : ∃ W11, W10.drewN nn = W11 := ⟨_, rfl⟩
  rw [hW11] at hb11 ⊢
  clear hW11 hBb
  have n0 := Aside0.mk (below_step HB.out hb11)
  have n1 := Aside0.mk (Kd.C_below HC.out hb11)
  have n2 := Aside0.mk (And.intro HF.out.1 (Kd.C_below HF.out.2 hb11))
  have n3 := Aside0.mk (And.intro HK.out.1 (Kd.C_below HK.out.2 hb11))
  have n4 := Aside0.mk (And.intro HM.out.1 (Kd.C_below HM.out.2 hb11))
  clear HB HC HF HK HM hb11
  have HB := n0
  have HC := n1
  have HF := n2
  have HK := n3
  have HM := n4
  clear n0 n1 n2 n3 n4
  go_wp2_with fail
  have hb12 : Below W11.heap.size W11 (W11.alloc (Obj.cells #[.bool true, .bool false] 4)) := below_alloc (Below.refl _ _) _
  have hBb : Kd.C Kd.bool (W11.alloc (Obj.cells #[.bool true, .bool false] 4)) (some ⟨W11.heap.size, 0, none⟩) [true, false].length [true, false] := blk_Cb (heap_alloc_new _ _) (by decide)
  obtain ⟨W12, hW12⟩ : ∃ W12, W11.alloc (Obj.cells #[.bool true, .bool false] 4) = W12 := ⟨_, rfl⟩
  rw [hW12] at hb12 hBb ⊢
  clear hW12
  have n0 := Aside0.mk (below_step HB.out hb12)
  have n1 := Aside0.mk (Kd.C_below HC.out hb12)
  have n2 := Aside0.mk (And.intro HF.out.1 (Kd.C_below HF.out.2 hb12))
  have n3 := Aside0.mk (And.intro HK.out.1 (Kd.C_below HK.out.2 hb12))
  have n4 := Aside0.mk (And.intro HM.out.1 (Kd.C_below HM.out.2 hb12))
  clear HB HC HF HK HM hb12
  have HB := n0
  have HC := n1
  have HF := n2
  have HK := n3
  have HM := n4
  clear n0 n1 n2 n3 n4
  refine (show Calls Try.prog 29 #[.slice A3 2 c3, .slice (some ⟨W11.heap.size, 0, none⟩) 2 2] W12 _ from sizarref18_SameCut.calls 20 A3 c3 [true, false] (some ⟨W11.heap.size, 0, none⟩) 2 [true, false] true W12 HM.out.2 HM.out.1 hBb (Nat.le_refl _) sane_cut2).mono ?_
  rintro e W13 ⟨rfl, ⟨⟨nn, rfl⟩⟩⟩
  have hb13 : Below W12.heap.size W12 (W12.drewN nn) := pw_below_drewN (Below.refl _ _) nn
  obtain ⟨W13, hW13⟩ : ∃ W13, W12.drewN nn = W13 := ⟨_, rfl⟩
  rw [hW13] at hb13 ⊢
  clear hW13 hBb
  have n0 := Aside0.mk (below_step HB.out hb13)
  have n1 := Aside0.mk (Kd.C_below HC.out hb13)
  have n2 := Aside0.mk (And.intro HF.out.1 (Kd.C_below HF.out.2 hb13))
  have n3 := Aside0.mk (And.intro HK.out.1 (Kd.C_below HK.out.2 hb13))
  have n4 := Aside0.mk (And.intro HM.out.1 (Kd.C_below HM.out.2 hb13))
  clear HB HC HF HK HM hb13
  have HB := n0
  have HC := n1
  have HF := n2
  have HK := n3
  have HM := n4
  clear n0 n1 n2 n3 n4
  go_wp2_with fail
  refine (show Calls Try.prog 25 #[.int .i64 1, .slice none 0 0] W13 _ from flow_Check.calls 1 none 0 [] 180 W13 (C61_nil W13) (Nat.le_refl _) sane_chk1).mono ?_
  rintro e W14 ⟨rfl, hb14⟩
  have n0 := Aside0.mk (below_step HB.out hb14)
  have n1 := Aside0.mk (Kd.C_below HC.out hb14)
  have n2 := Aside0.mk (And.intro HF.out.1 (Kd.C_below HF.out.2 hb14))
  have n3 := Aside0.mk (And.intro HK.out.1 (Kd.C_below HK.out.2 hb14))
  have n4 := Aside0.mk (And.intro HM.out.1 (Kd.C_below HM.out.2 hb14))
  clear HB HC HF HK HM hb14
  have HB := n0
  have HC := n1
  have HF := n2
  have HK := n3
  have HM := n4
  clear n0 n1 n2 n3 n4
  go_wp2_with fail
  have hb15 : Below W14.heap.size W14 (W14.alloc (Obj.cells #[.int .i64 1, .int .i64 1, .int .i64 0] 61)) := below_alloc (Below.refl _ _) _
  have hCb : Kd.C k61 (W14.alloc (Obj.cells #[.int .i64 1, .int .i64 1, .int .i64 0] 61)) (some ⟨W14.heap.size, 0, none⟩) Lc.length Lc := C61_blk1 (heap_alloc_new _ _)
  obtain ⟨W15, hW15⟩ : ∃ W15, W14.alloc (Obj.cells #[.int .i64 1, .int .i64 1, .int .i64 0] 61) = W15 := ⟨_, rfl⟩
  rw [hW15] at hb15 hCb ⊢
  clear hW15
  have n0 := Aside0.mk (below_step HB.out hb15)
  have n1 := Aside0.mk (Kd.C_below HC.out hb15)
  have n2 := Aside0.mk (And.intro HF.out.1 (Kd.C_below HF.out.2 hb15))
  have n3 := Aside0.mk (And.intro HK.out.1 (Kd.C_below HK.out.2 hb15))
  have n4 := Aside0.mk (And.intro HM.out.1 (Kd.C_below HM.out.2 hb15))
  clear HB HC HF HK HM hb15
  have HB := n0
  have HC := n1
  have HF := n2
  have HK := n3
  have HM := n4
  clear n0 n1 n2 n3 n4
  refine (show Calls Try.prog 25 #[.int .i64 2, .slice (some ⟨W14.heap.size, 0, none⟩) 1 1] W15 _ from flow_Check.calls 2 (some ⟨W14.heap.size, 0, none⟩) 1 Lc 180 W15 hCb (Nat.le_refl _) sane_chk2).mono ?_
  rintro e W16 ⟨rfl, hb16⟩
  clear hCb
  have n0 := Aside0.mk (below_step HB.out hb16)
  have n1 := Aside0.mk (Kd.C_below HC.out hb16)
  have n2 := Aside0.mk (And.intro HF.out.1 (Kd.C_below HF.out.2 hb16))
  have n3 := Aside0.mk (And.intro HK.out.1 (Kd.C_below HK.out.2 hb16))
  have n4 := Aside0.mk (And.intro HM.out.1 (Kd.C_below HM.out.2 hb16))
  clear HB HC HF HK HM hb16
  have HB := n0
  have HC := n1
  have HF := n2
  have HK := n3
  have HM := n4
  clear n0 n1 n2 n3 n4
  go_wp2_with fail
  go_ret
  exact ⟨rfl, HB.out⟩
end Go.Proofs.Ytadeidhefjifaaa.Px
end
