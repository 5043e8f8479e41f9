/- Parts of the proof of ProofAccepts, put together from several texts (words that the printing program wrote for this claim, walks, plain facts): the declarations that this law needs. -/
import Derived.Test.YtadeidhefjifaaaZProofAccepts7
import Derived.ChangeSame
import Derived.Deep.Fields
import Derived.Deep.Grids
import Derived.Deep.Slices
section
namespace Go.Proofs.Ytadeidhefjifaaa.Px
noncomputable section
open Go.RowKit Go.Proofs.YtadeidhefjifaaaW.PrintWords Go.Proofs.YtadeidhefjifaaaW.PrintLast Go.Proofs.YtadeidhefjifaaaW.PrintMore
attribute [local go_sem] max2_int min2_int max_two min_two max_three min_three max_four min_four   -- for this text's walks alone
set_option linter.unusedVariables false
set_option linter.unusedSimpArgs false
def sizarlaw20_ProofAccepts.f (k : Nat) (a0_0 : ByteArray) (a0_1 : Int) (a0_2 : Int) (a0_3 : Int) (a0_4 : Int) (a0_5 : Int) (l0_6 : List (S92)) (l1 : List (S44)) (a2 : Int) : Option (Bool) := (sizarlaw20_sane.f k).bind fun t615 => (if t615 = true then ((sizarref20_Few.f k a0_0 a0_1 a0_2 a0_3 a0_4 a0_5 l0_6 l1).bind fun t616 => (if t616 = true then ((degree_Audit.f k a0_0 a0_1 a0_2 a0_3 a0_4 a0_5 l0_6 l1).bind fun bt617 => (if bt617.2.2.2 = 0 then ((proof_Check.f k a0_0 a0_1 a0_2 a0_3 a0_4 a0_5 l0_6 l1 bt617.1 bt617.2.1 bt617.2.2.1).bind fun t628 => (if t628 = 0 then ((proof_Check.f k a0_0 a0_1 a0_2 a0_3 a0_4 a0_5 l0_6 l1 bt617.1 a2 bt617.2.2.1).bind fun t629 => (some ((t629 == 0) == (a2 == bt617.2.1)))) else (some false))) else ((proof_Check.f k a0_0 a0_1 a0_2 a0_3 a0_4 a0_5 l0_6 l1 bt617.1 bt617.2.1 bt617.2.2.1).bind fun t626 => (some (t626 != 0))))) else (some true))) else (some false))
def sizarlaw20_ProofAccepts.T10 : Bool × List (List Nat × List Nat) := (true, [([], []), ([], []), ([], []), ([0, 1, 2], [0, 1, 2]), ([3], [3]), ([4, 3], [4]), ([5], [5]), ([5], [5]), ([5], [5]), ([6, 7, 8, 5, 5], [5, 6, 7, 8]), ([9, 5], [5, 9]), ([5], [5]), ([5], [5]), ([12, 5], [5, 12]), ([11, 13, 5], [5, 11, 13]), ([10, 14, 5], [5, 10, 14]), ([5, 15], [5, 15]), ([16, 9, 0, 1, 2, 3, 4, 5, 6, 7, 8, 9, 10, 11, 12, 13, 14, 15, 16], [16])])
def sizarlaw20_ProofAccepts.B10 : List Nat := [0, 0, 0, 7, 15, 31, 63, 63, 63, 511, 1023, 63, 63, 4159, 14399, 32767, 65535, 131071]
theorem sizarlaw20_ProofAccepts.tab10 : rtab .any (opsOf Try.f17 10) = sizarlaw20_ProofAccepts.T10 := by kernel_rfl
theorem sizarlaw20_ProofAccepts.bits10 : waitsOk sizarlaw20_ProofAccepts.T10.2 sizarlaw20_ProofAccepts.B10 = true := by kernel_rfl
set_option maxHeartbeats 8000000 in
set_option maxRecDepth 100000 in
theorem sizarlaw20_ProofAccepts.calls (k : Nat) (a0_0 : ByteArray) (a0_1 : Int) (a0_2 : Int) (a0_3 : Int) (a0_4 : Int) (a0_5 : Int) (A0_6 : Option Addr) (c0_6 : Nat) (l0_6 : List (S92)) (A1 : Option Addr) (c1 : Nat) (l1 : List (S44)) (a2 : Int) (r : Bool) (w : World) (hr0_6 : Kd.C k92 w A0_6 l0_6.length l0_6) (hc0_6 : l0_6.length ≤ c0_6) (hr1 : Kd.C k44 w A1 l1.length l1) (hc1 : l1.length ≤ c1) (h : sizarlaw20_ProofAccepts.f k a0_0 a0_1 a0_2 a0_3 a0_4 a0_5 l0_6 l1 a2 = some r) :
    Calls Try.prog 17 #[.agg #[.string a0_0, .int .i64 a0_1, .int .i64 a0_2, .int .i64 a0_3, .int .i64 a0_4, .int .i64 a0_5, .slice A0_6 l0_6.length c0_6], .slice A1 l1.length c1, .int .i64 a2] w fun e w' => e = .returned (.bool r) ∧ Below w.heap.size w w' := by
  have hu41 := Try.underlying41
  have hu48 := Try.underlying48
  have HR0_6 := Aside0.mk hr0_6
  have HC0_6 := Aside0.mk hc0_6
  clear hr0_6 hc0_6
  have HR1 := Aside0.mk hr1
  have HC1 := Aside0.mk hc1
  clear hr1 hc1
  have HB := Aside0.mk (Below.refl w.heap.size w)
  have H : ((sizarlaw20_sane.f k).bind fun t615 => (if t615 = true then ((sizarref20_Few.f k a0_0 a0_1 a0_2 a0_3 a0_4 a0_5 l0_6 l1).bind fun t616 => (if t616 = true then ((degree_Audit.f k a0_0 a0_1 a0_2 a0_3 a0_4 a0_5 l0_6 l1).bind fun bt617 => (if bt617.2.2.2 = 0 then ((proof_Check.f k a0_0 a0_1 a0_2 a0_3 a0_4 a0_5 l0_6 l1 bt617.1 bt617.2.1 bt617.2.2.1).bind fun t628 => (if t628 = 0 then ((proof_Check.f k a0_0 a0_1 a0_2 a0_3 a0_4 a0_5 l0_6 l1 bt617.1 a2 bt617.2.2.1).bind fun t629 => (some ((t629 == 0) == (a2 == bt617.2.1)))) else (some false))) else ((proof_Check.f k a0_0 a0_1 a0_2 a0_3 a0_4 a0_5 l0_6 l1 bt617.1 bt617.2.1 bt617.2.2.1).bind fun t626 => (some (t626 != 0))))) else (some true))) else (some false))) = some r := h
  clear h
  replace H := Option.bind_eq_some_iff.mp H
  obtain ⟨t615, A40, H⟩ := H
  replace H : (if t615 = true then ((sizarref20_Few.f k a0_0 a0_1 a0_2 a0_3 a0_4 a0_5 l0_6 l1).bind fun t616 => (if t616 = true then ((degree_Audit.f k a0_0 a0_1 a0_2 a0_3 a0_4 a0_5 l0_6 l1).bind fun bt617 => (if bt617.2.2.2 = 0 then ((proof_Check.f k a0_0 a0_1 a0_2 a0_3 a0_4 a0_5 l0_6 l1 bt617.1 bt617.2.1 bt617.2.2.1).bind fun t628 => (if t628 = 0 then ((proof_Check.f k a0_0 a0_1 a0_2 a0_3 a0_4 a0_5 l0_6 l1 bt617.1 a2 bt617.2.2.1).bind fun t629 => (some ((t629 == 0) == (a2 == bt617.2.1)))) else (some false))) else ((proof_Check.f k a0_0 a0_1 a0_2 a0_3 a0_4 a0_5 l0_6 l1 bt617.1 bt617.2.1 bt617.2.2.1).bind fun t626 => (some (t626 != 0))))) else (some true))) else (some false)) = some r := H
  have A4 := Aside0.mk A40
  clear A40
  by_cases c5 : t615 = true
  · subst c5
    have H1 : ((sizarref20_Few.f k a0_0 a0_1 a0_2 a0_3 a0_4 a0_5 l0_6 l1).bind fun t616 => (if t616 = true then ((degree_Audit.f k a0_0 a0_1 a0_2 a0_3 a0_4 a0_5 l0_6 l1).bind fun bt617 => (if bt617.2.2.2 = 0 then ((proof_Check.f k a0_0 a0_1 a0_2 a0_3 a0_4 a0_5 l0_6 l1 bt617.1 bt617.2.1 bt617.2.2.1).bind fun t628 => (if t628 = 0 then ((proof_Check.f k a0_0 a0_1 a0_2 a0_3 a0_4 a0_5 l0_6 l1 bt617.1 a2 bt617.2.2.1).bind fun t629 => (some ((t629 == 0) == (a2 == bt617.2.1)))) else (some false))) else ((proof_Check.f k a0_0 a0_1 a0_2 a0_3 a0_4 a0_5 l0_6 l1 bt617.1 bt617.2.1 bt617.2.2.1).bind fun t626 => (some (t626 != 0))))) else (some true))) = some r := by rw [if_pos rfl] at H; exact H
    clear H
    have H := H1
    clear H1
    replace H := Option.bind_eq_some_iff.mp H
    obtain ⟨t616, A60, H⟩ := H
    replace H : (if t616 = true then ((degree_Audit.f k a0_0 a0_1 a0_2 a0_3 a0_4 a0_5 l0_6 l1).bind fun bt617 => (if bt617.2.2.2 = 0 then ((proof_Check.f k a0_0 a0_1 a0_2 a0_3 a0_4 a0_5 l0_6 l1 bt617.1 bt617.2.1 bt617.2.2.1).bind fun t628 => (if t628 = 0 then ((proof_Check.f k a0_0 a0_1 a0_2 a0_3 a0_4 a0_5 l0_6 l1 bt617.1 a2 bt617.2.2.1).bind fun t629 => (some ((t629 == 0) == (a2 == bt617.2.1)))) else (some false))) else ((proof_Check.f k a0_0 a0_1 a0_2 a0_3 a0_4 a0_5 l0_6 l1 bt617.1 bt617.2.1 bt617.2.2.1).bind fun t626 => (some (t626 != 0))))) else (some true)) = some r := H
    have A6 := Aside0.mk A60
    clear A60
    by_cases c7 : t616 = true
    · subst c7
      have H1 : ((degree_Audit.f k a0_0 a0_1 a0_2 a0_3 a0_4 a0_5 l0_6 l1).bind fun bt617 => (if bt617.2.2.2 = 0 then ((proof_Check.f k a0_0 a0_1 a0_2 a0_3 a0_4 a0_5 l0_6 l1 bt617.1 bt617.2.1 bt617.2.2.1).bind fun t628 => (if t628 = 0 then ((proof_Check.f k a0_0 a0_1 a0_2 a0_3 a0_4 a0_5 l0_6 l1 bt617.1 a2 bt617.2.2.1).bind fun t629 => (some ((t629 == 0) == (a2 == bt617.2.1)))) else (some false))) else ((proof_Check.f k a0_0 a0_1 a0_2 a0_3 a0_4 a0_5 l0_6 l1 bt617.1 bt617.2.1 bt617.2.2.1).bind fun t626 => (some (t626 != 0))))) = some r := by rw [if_pos rfl] at H; exact H
      clear H
      have H := H1
      clear H1
      replace H := Option.bind_eq_some_iff.mp H
      obtain ⟨⟨t617, t620, t621, t624⟩, A80, H⟩ := H
      replace H : (if t624 = 0 then ((proof_Check.f k a0_0 a0_1 a0_2 a0_3 a0_4 a0_5 l0_6 l1 t617 t620 t621).bind fun t628 => (if t628 = 0 then ((proof_Check.f k a0_0 a0_1 a0_2 a0_3 a0_4 a0_5 l0_6 l1 t617 a2 t621).bind fun t629 => (some ((t629 == 0) == (a2 == t620)))) else (some false))) else ((proof_Check.f k a0_0 a0_1 a0_2 a0_3 a0_4 a0_5 l0_6 l1 t617 t620 t621).bind fun t626 => (some (t626 != 0)))) = some r := H
      have A8 := Aside0.mk A80
      clear A80
      by_cases c9 : t624 = 0
      · rw [if_pos c9] at H
        have c9b0 : (t624 == 0) = true := beq_iff_eq.mpr c9
        have c9b1 : (t624 != 0) = false := bne_eq_false_iff_eq.mpr c9
        clear c9
        replace H := Option.bind_eq_some_iff.mp H
        obtain ⟨t628, A100, H⟩ := H
        replace H : (if t628 = 0 then ((proof_Check.f k a0_0 a0_1 a0_2 a0_3 a0_4 a0_5 l0_6 l1 t617 a2 t621).bind fun t629 => (some ((t629 == 0) == (a2 == t620)))) else (some false)) = some r := H
        have A10 := Aside0.mk A100
        clear A100
        by_cases c11 : t628 = 0
        · rw [if_pos c11] at H
          have c11b0 : (t628 == 0) = true := beq_iff_eq.mpr c11
          have c11b1 : (t628 != 0) = false := bne_eq_false_iff_eq.mpr c11
          clear c11
          replace H := Option.bind_eq_some_iff.mp H
          obtain ⟨t629, A120, H⟩ := H
          replace H : (some ((t629 == 0) == (a2 == t620))) = some r := H
          have A12 := Aside0.mk A120
          clear A120
          obtain rfl := Option.some.inj H
          go_enter Try.func17, Try.ntmps17
          try go_wp2_with (first | ((with_reducible refine gate_dst (N := 3) rfl ?_); refine box_event ?hg (N := 3) ?hd (cs := #[.string a0_0, .int .i64 a0_1, .int .i64 a0_2, .int .i64 a0_3, .int .i64 a0_4, .int .i64 a0_5, .slice A0_6 l0_6.length c0_6]) (t := 41) ?hr ?_; (case hd => rfl); (case hg => rfl); (case hr => first | (go_simp; done) | (go_simp; rfl)); intro gb614 hg w13 hbox hb; have n0_ := Aside0.mk (below_step (by repeat (first | (with_reducible first | exact HB.out | apply below_alloc | apply pw_below_drewN | apply below_drew1) | exact HB.out)) hb); have n1_ := Aside0.mk (hbox); have n2_ := Aside0.mk ((by rw [hg]; exact (below_size (by repeat (first | (with_reducible first | exact HB.out | apply below_alloc | apply pw_below_drewN | apply below_drew1) | exact HB.out))) : w.heap.size ≤ gb614)); have n3_ := Aside0.mk ((by rw [hg]; exact (below_size (by repeat (first | (with_reducible first | exact HB.out | apply below_alloc | apply pw_below_drewN | apply below_drew1) | exact HB.out))) : w.heap.size ≤ gb614)); clear HB; have HB := n0_; have BK614 := n1_; have GW614 := n2_; have GE614 := n3_; clear n0_ n1_ n2_ n3_; clear hb hbox hg) | ((with_reducible refine gate_callee (f := 30) rfl ?_); refine goesL_ (some 10) rfl rfl Try.func30 (by kernel_rfl) rfl #[] rfl (by (try simp only [List.map_toArray, List.map_cons, List.map_nil]); first | done | rfl | (simp only [List.length_drop, List.length_take]; rfl)) ?_; (with_reducible refine (sizarlaw20_sane.calls k  true _ A4.out).mono ?_); rintro e w14 ⟨rfl, hb⟩; refine ⟨_, rfl, ?_⟩; have n0_ := Aside0.mk (blk_below (g := gb614) (o := .cells #[.string a0_0, .int .i64 a0_1, .int .i64 a0_2, .int .i64 a0_3, .int .i64 a0_4, .int .i64 a0_5, .slice A0_6 l0_6.length c0_6] 41 (0, 0)) (by (with_reducible repeat (first | refine blk_drewN ?_ _ | refine blk_drew ?_ | refine blk_alloc ?_ _)); exact BK614.out) hb); have n1_ := Aside0.mk (below_step (by repeat (first | (with_reducible first | exact HB.out | apply below_alloc | apply pw_below_drewN | apply below_drew1 | refine below_set ?_ GE614.out) | exact HB.out)) hb); clear BK614; clear HB; have BK614 := n0_; have HB := n1_; clear n0_ n1_; (try clear hb); (try clear hb2); (try clear hk); (try clear hi); have hcz15_0 : w14.cell? ⟨gb614, 0, none⟩ = some (.string a0_0) := (blk_cell BK614.out 0).trans rfl; have hcz15_1 : w14.cell? ⟨gb614, 1, none⟩ = some (.int .i64 a0_1) := (blk_cell BK614.out 1).trans rfl; have hcz15_2 : w14.cell? ⟨gb614, 2, none⟩ = some (.int .i64 a0_2) := (blk_cell BK614.out 2).trans rfl; have hcz15_3 : w14.cell? ⟨gb614, 3, none⟩ = some (.int .i64 a0_3) := (blk_cell BK614.out 3).trans rfl; have hcz15_4 : w14.cell? ⟨gb614, 4, none⟩ = some (.int .i64 a0_4) := (blk_cell BK614.out 4).trans rfl; have hcz15_5 : w14.cell? ⟨gb614, 5, none⟩ = some (.int .i64 a0_5) := (blk_cell BK614.out 5).trans rfl; have hcz15_6 : w14.cell? ⟨gb614, 6, none⟩ = some (.slice A0_6 l0_6.length c0_6) := (blk_cell BK614.out 6).trans rfl; have hfz15_0 := blk_frozen BK614.out 0; have hfz15_1 := blk_frozen BK614.out 1; have hfz15_2 := blk_frozen BK614.out 2; have hfz15_3 := blk_frozen BK614.out 3; have hfz15_4 := blk_frozen BK614.out 4; have hfz15_5 := blk_frozen BK614.out 5; have hfz15_6 := blk_frozen BK614.out 6) | ((with_reducible refine gate_callee (f := 31) rfl ?_); refine goesL_ (some 14) rfl rfl Try.func31 (by kernel_rfl) rfl #[.agg #[.string a0_0, .int .i64 a0_1, .int .i64 a0_2, .int .i64 a0_3, .int .i64 a0_4, .int .i64 a0_5, .slice A0_6 l0_6.length c0_6], .slice A1 l1.length c1] rfl (by (try simp only [List.map_toArray, List.map_cons, List.map_nil]); first | done | rfl | (simp only [List.length_drop, List.length_take]; rfl)) ?_; (with_reducible refine (sizarref20_Few.calls k a0_0 a0_1 a0_2 a0_3 a0_4 a0_5 _ _ l0_6 _ _ l1 true _ ?side1 ?side2 ?side3 ?side4 A6.out).mono ?_); (case side1 => repeat (first | exact (Kd.C_below HR0_6.out HB.out) | (with_reducible refine Kd.C_alloc ?_ _) | (with_reducible refine Kd.C_drewN ?_ _) | (with_reducible refine Kd.C_drew ?_))); (case side2 => exact HC0_6.out); (case side3 => repeat (first | exact (Kd.C_below HR1.out HB.out) | (with_reducible refine Kd.C_alloc ?_ _) | (with_reducible refine Kd.C_drewN ?_ _) | (with_reducible refine Kd.C_drew ?_))); (case side4 => exact HC1.out); rintro e w16 ⟨rfl, hb⟩; refine ⟨_, rfl, ?_⟩; have n0_ := Aside0.mk (blk_below (g := gb614) (o := .cells #[.string a0_0, .int .i64 a0_1, .int .i64 a0_2, .int .i64 a0_3, .int .i64 a0_4, .int .i64 a0_5, .slice A0_6 l0_6.length c0_6] 41 (0, 0)) (by (with_reducible repeat (first | refine blk_drewN ?_ _ | refine blk_drew ?_ | refine blk_alloc ?_ _)); exact BK614.out) hb); have n1_ := Aside0.mk (below_step (by repeat (first | (with_reducible first | exact HB.out | apply below_alloc | apply pw_below_drewN | apply below_drew1 | refine below_set ?_ GE614.out) | exact HB.out)) hb); clear BK614; clear HB; have BK614 := n0_; have HB := n1_; clear n0_ n1_; (try clear hb); (try clear hb2); (try clear hk); (try clear hi); have hcz17_0 : w16.cell? ⟨gb614, 0, none⟩ = some (.string a0_0) := (blk_cell BK614.out 0).trans rfl; have hcz17_1 : w16.cell? ⟨gb614, 1, none⟩ = some (.int .i64 a0_1) := (blk_cell BK614.out 1).trans rfl; have hcz17_2 : w16.cell? ⟨gb614, 2, none⟩ = some (.int .i64 a0_2) := (blk_cell BK614.out 2).trans rfl; have hcz17_3 : w16.cell? ⟨gb614, 3, none⟩ = some (.int .i64 a0_3) := (blk_cell BK614.out 3).trans rfl; have hcz17_4 : w16.cell? ⟨gb614, 4, none⟩ = some (.int .i64 a0_4) := (blk_cell BK614.out 4).trans rfl; have hcz17_5 : w16.cell? ⟨gb614, 5, none⟩ = some (.int .i64 a0_5) := (blk_cell BK614.out 5).trans rfl; have hcz17_6 : w16.cell? ⟨gb614, 6, none⟩ = some (.slice A0_6 l0_6.length c0_6) := (blk_cell BK614.out 6).trans rfl; have hfz17_0 := blk_frozen BK614.out 0; have hfz17_1 := blk_frozen BK614.out 1; have hfz17_2 := blk_frozen BK614.out 2; have hfz17_3 := blk_frozen BK614.out 3; have hfz17_4 := blk_frozen BK614.out 4; have hfz17_5 := blk_frozen BK614.out 5; have hfz17_6 := blk_frozen BK614.out 6) | ((with_reducible refine gate_callee (f := 32) rfl ?_); refine goesL_ (some 19) rfl rfl Try.func32 (by kernel_rfl) rfl #[.agg #[.string a0_0, .int .i64 a0_1, .int .i64 a0_2, .int .i64 a0_3, .int .i64 a0_4, .int .i64 a0_5, .slice A0_6 l0_6.length c0_6], .slice A1 l1.length c1] rfl (by (try simp only [List.map_toArray, List.map_cons, List.map_nil]); first | done | rfl | (simp only [List.length_drop, List.length_take]; rfl)) ?_; (with_reducible refine (degree_Audit.calls k a0_0 a0_1 a0_2 a0_3 a0_4 a0_5 _ _ l0_6 _ _ l1 t617 t620 t621 t624 _ ?side1 ?side2 ?side3 ?side4 A8.out).mono ?_); (case side1 => repeat (first | exact (Kd.C_below HR0_6.out HB.out) | (with_reducible refine Kd.C_alloc ?_ _) | (with_reducible refine Kd.C_drewN ?_ _) | (with_reducible refine Kd.C_drew ?_))); (case side2 => exact HC0_6.out); (case side3 => repeat (first | exact (Kd.C_below HR1.out HB.out) | (with_reducible refine Kd.C_alloc ?_ _) | (with_reducible refine Kd.C_drewN ?_ _) | (with_reducible refine Kd.C_drew ?_))); (case side4 => exact HC1.out); rintro e w18 ⟨v618, v622, rfl, ho0, ho1, hb⟩; refine ⟨_, rfl, ?_⟩; have n0_ := Aside0.mk (Kd.R_lower ho0 (below_size (by repeat (first | (with_reducible first | exact HB.out | apply below_alloc | apply pw_below_drewN | apply below_drew1 | refine below_set ?_ GE614.out) | exact HB.out)))); have n1_ := Aside0.mk (Kd.R_lower ho1 (below_size (by repeat (first | (with_reducible first | exact HB.out | apply below_alloc | apply pw_below_drewN | apply below_drew1 | refine below_set ?_ GE614.out) | exact HB.out)))); have n2_ := Aside0.mk (blk_below (g := gb614) (o := .cells #[.string a0_0, .int .i64 a0_1, .int .i64 a0_2, .int .i64 a0_3, .int .i64 a0_4, .int .i64 a0_5, .slice A0_6 l0_6.length c0_6] 41 (0, 0)) (by (with_reducible repeat (first | refine blk_drewN ?_ _ | refine blk_drew ?_ | refine blk_alloc ?_ _)); exact BK614.out) hb); have n3_ := Aside0.mk (below_step (by repeat (first | (with_reducible first | exact HB.out | apply below_alloc | apply pw_below_drewN | apply below_drew1 | refine below_set ?_ GE614.out) | exact HB.out)) hb); clear BK614; clear HB; have HO619 := n0_; have HO623 := n1_; have BK614 := n2_; have HB := n3_; clear n0_ n1_ n2_ n3_; (try clear hb); (try clear hb2); (try clear hk); (try clear hi); (try clear ho0); (try clear ho1)) | ((with_reducible refine gate_dst (N := 7) rfl ?_); refine box_event ?hg (N := 7) ?hd (cs := #[.slice none 0 0, .int .i64 0, .slice none 0 0]) (t := 48) ?hr ?_; (case hd => rfl); (case hg => rfl); (case hr => first | (go_simp; done) | (go_simp; rfl)); intro gb625 hg w19 hbox hb; have n0_ := Aside0.mk (Kd.R_below (by (with_reducible repeat (first | apply Kd.R_alloc | apply Kd.R_drewN | apply Kd.R_drew)); exact HO619.out) hb); have n1_ := Aside0.mk (Kd.R_below (by (with_reducible repeat (first | apply Kd.R_alloc | apply Kd.R_drewN | apply Kd.R_drew)); exact HO623.out) hb); have n2_ := Aside0.mk (blk_below (g := gb614) (o := .cells #[.string a0_0, .int .i64 a0_1, .int .i64 a0_2, .int .i64 a0_3, .int .i64 a0_4, .int .i64 a0_5, .slice A0_6 l0_6.length c0_6] 41 (0, 0)) (by (with_reducible repeat (first | refine blk_drewN ?_ _ | refine blk_drew ?_ | refine blk_alloc ?_ _)); exact BK614.out) hb); have n3_ := Aside0.mk (below_step (by repeat (first | (with_reducible first | exact HB.out | apply below_alloc | apply pw_below_drewN | apply below_drew1 | refine below_set ?_ GE614.out) | exact HB.out)) hb); have n4_ := Aside0.mk (hbox); have n5_ := Aside0.mk ((by rw [hg]; exact (below_size (by repeat (first | (with_reducible first | exact HB.out | apply below_alloc | apply pw_below_drewN | apply below_drew1 | refine below_set ?_ GE614.out) | exact HB.out))) : w.heap.size ≤ gb625)); have n6_ := Aside0.mk ((by rw [hg]; exact (below_size (by repeat (first | (with_reducible first | exact HB.out | apply below_alloc | apply pw_below_drewN | apply below_drew1 | refine below_set ?_ GE614.out) | exact HB.out))) : w.heap.size ≤ gb625)); have n7_ := Aside0.mk ((by rw [hg]; exact Nat.ne_of_lt (blk_lt (g := gb614) (o := .cells #[.string a0_0, .int .i64 a0_1, .int .i64 a0_2, .int .i64 a0_3, .int .i64 a0_4, .int .i64 a0_5, .slice A0_6 l0_6.length c0_6] 41 (0, 0)) (by (with_reducible repeat (first | refine blk_drewN ?_ _ | refine blk_drew ?_ | refine blk_alloc ?_ _)); exact BK614.out)) : gb614 ≠ gb625)); have n8_ := Aside0.mk ((by rw [hg]; exact Nat.ne_of_gt (blk_lt (g := gb614) (o := .cells #[.string a0_0, .int .i64 a0_1, .int .i64 a0_2, .int .i64 a0_3, .int .i64 a0_4, .int .i64 a0_5, .slice A0_6 l0_6.length c0_6] 41 (0, 0)) (by (with_reducible repeat (first | refine blk_drewN ?_ _ | refine blk_drew ?_ | refine blk_alloc ?_ _)); exact BK614.out)) : gb625 ≠ gb614)); clear HO619; clear HO623; clear BK614; clear HB; have HO619 := n0_; have HO623 := n1_; have BK614 := n2_; have HB := n3_; have BK625 := n4_; have GW625 := n5_; have GE625 := n6_; have NB614_625 := n7_; have NB625_614 := n8_; clear n0_ n1_ n2_ n3_ n4_ n5_ n6_ n7_ n8_; clear hb hbox hg; obtain ⟨Ao20, co20, eo20⟩ := Kd.R_slice HO619.out; subst eo20; have hnb21 := NB625_614.out; have hnc21 := NB614_625.out; have hcz22_0 : w19.cell? ⟨gb625, 0, none⟩ = some (.slice none 0 0) := (blk_cell BK625.out 0).trans rfl; have hcz22_1 : w19.cell? ⟨gb625, 1, none⟩ = some (.int .i64 0) := (blk_cell BK625.out 1).trans rfl; have hcz22_2 : w19.cell? ⟨gb625, 2, none⟩ = some (.slice none 0 0) := (blk_cell BK625.out 2).trans rfl; have hfz22_0 := blk_frozen BK625.out 0; have hfz22_1 := blk_frozen BK625.out 1; have hfz22_2 := blk_frozen BK625.out 2; obtain ⟨Ao23, co23, eo23⟩ := Kd.R_slice HO623.out; subst eo23) | ((with_reducible refine gate_dst (N := 9) rfl ?_); refine box_event ?hg (N := 9) ?hd (cs := #[.slice none 0 0, .int .i64 0, .slice none 0 0]) (t := 48) ?hr ?_; (case hd => rfl); (case hg => rfl); (case hr => first | (go_simp; done) | (go_simp; rfl)); intro gb627 hg w24 hbox hb; have n0_ := Aside0.mk (Kd.R_below (by (with_reducible repeat (first | apply Kd.R_alloc | apply Kd.R_drewN | apply Kd.R_drew)); exact (Kd.R_mono (Kd.R_far (p := ⟨gb625, 2, none⟩) (Kd.R_far (p := ⟨gb625, 1, none⟩) (Kd.R_far (p := ⟨gb625, 0, none⟩) (Kd.R_types HO619.out BK625.out (by decide)) (fun _ hk => hk.2) (.slice Ao20 t617.length co20)) (fun _ hk => hk.2) (.int .i64 t620)) (fun _ hk => hk.2) (.slice Ao23 t621.length co23)) (fun _ h_ => h_.1))) hb); have n1_ := Aside0.mk (Kd.R_below (by (with_reducible repeat (first | apply Kd.R_alloc | apply Kd.R_drewN | apply Kd.R_drew)); exact (Kd.R_mono (Kd.R_far (p := ⟨gb625, 2, none⟩) (Kd.R_far (p := ⟨gb625, 1, none⟩) (Kd.R_far (p := ⟨gb625, 0, none⟩) (Kd.R_types HO623.out BK625.out (by decide)) (fun _ hk => hk.2) (.slice Ao20 t617.length co20)) (fun _ hk => hk.2) (.int .i64 t620)) (fun _ hk => hk.2) (.slice Ao23 t621.length co23)) (fun _ h_ => h_.1))) hb); have n2_ := Aside0.mk (blk_below (g := gb614) (o := .cells #[.string a0_0, .int .i64 a0_1, .int .i64 a0_2, .int .i64 a0_3, .int .i64 a0_4, .int .i64 a0_5, .slice A0_6 l0_6.length c0_6] 41 (0, 0)) (by (with_reducible repeat (first | refine blk_drewN ?_ _ | refine blk_drew ?_ | refine blk_alloc ?_ _)); refine blk_far ?_ NB614_625.out _; (with_reducible repeat (first | refine blk_drewN ?_ _ | refine blk_drew ?_ | refine blk_alloc ?_ _)); refine blk_far ?_ NB614_625.out _; (with_reducible repeat (first | refine blk_drewN ?_ _ | refine blk_drew ?_ | refine blk_alloc ?_ _)); refine blk_far ?_ NB614_625.out _; (with_reducible repeat (first | refine blk_drewN ?_ _ | refine blk_drew ?_ | refine blk_alloc ?_ _)); exact BK614.out) hb); have n3_ := Aside0.mk (blk_below (g := gb625) (o := .cells #[.slice Ao20 t617.length co20, .int .i64 t620, .slice Ao23 t621.length co23] 48 (0, 0)) (by (with_reducible repeat (first | refine blk_drewN ?_ _ | refine blk_drew ?_ | refine blk_alloc ?_ _)); refine blk_put (cs := #[.slice Ao20 t617.length co20, .int .i64 t620, .slice none 0 0]) ?_ 2 _ rfl; (with_reducible repeat (first | refine blk_drewN ?_ _ | refine blk_drew ?_ | refine blk_alloc ?_ _)); refine blk_put (cs := #[.slice Ao20 t617.length co20, .int .i64 0, .slice none 0 0]) ?_ 1 _ rfl; (with_reducible repeat (first | refine blk_drewN ?_ _ | refine blk_drew ?_ | refine blk_alloc ?_ _)); refine blk_put (cs := #[.slice none 0 0, .int .i64 0, .slice none 0 0]) ?_ 0 _ rfl; (with_reducible repeat (first | refine blk_drewN ?_ _ | refine blk_drew ?_ | refine blk_alloc ?_ _)); exact BK625.out) hb); have n4_ := Aside0.mk (below_step (by repeat (first | (with_reducible first | exact HB.out | apply below_alloc | apply pw_below_drewN | apply below_drew1 | refine below_set ?_ GE614.out | refine below_set ?_ GE625.out) | exact HB.out)) hb); have n5_ := Aside0.mk (hbox); have n6_ := Aside0.mk ((by rw [hg]; exact (below_size (by repeat (first | (with_reducible first | exact HB.out | apply below_alloc | apply pw_below_drewN | apply below_drew1 | refine below_set ?_ GE614.out | refine below_set ?_ GE625.out) | exact HB.out))) : w.heap.size ≤ gb627)); have n7_ := Aside0.mk ((by rw [hg]; exact (below_size (by repeat (first | (with_reducible first | exact HB.out | apply below_alloc | apply pw_below_drewN | apply below_drew1 | refine below_set ?_ GE614.out | refine below_set ?_ GE625.out) | exact HB.out))) : w.heap.size ≤ gb627)); have n8_ := Aside0.mk ((by rw [hg]; exact Nat.ne_of_lt (blk_lt (g := gb614) (o := .cells #[.string a0_0, .int .i64 a0_1, .int .i64 a0_2, .int .i64 a0_3, .int .i64 a0_4, .int .i64 a0_5, .slice A0_6 l0_6.length c0_6] 41 (0, 0)) (by (with_reducible repeat (first | refine blk_drewN ?_ _ | refine blk_drew ?_ | refine blk_alloc ?_ _)); refine blk_far ?_ NB614_625.out _; (with_reducible repeat (first | refine blk_drewN ?_ _ | refine blk_drew ?_ | refine blk_alloc ?_ _)); refine blk_far ?_ NB614_625.out _; (with_reducible repeat (first | refine blk_drewN ?_ _ | refine blk_drew ?_ | refine blk_alloc ?_ _)); refine blk_far ?_ NB614_625.out _; (with_reducible repeat (first | refine blk_drewN ?_ _ | refine blk_drew ?_ | refine blk_alloc ?_ _)); exact BK614.out)) : gb614 ≠ gb627)); have n9_ := Aside0.mk ((by rw [hg]; exact Nat.ne_of_gt (blk_lt (g := gb614) (o := .cells #[.string a0_0, .int .i64 a0_1, .int .i64 a0_2, .int .i64 a0_3, .int .i64 a0_4, .int .i64 a0_5, .slice A0_6 l0_6.length c0_6] 41 (0, 0)) (by (with_reducible repeat (first | refine blk_drewN ?_ _ | refine blk_drew ?_ | refine blk_alloc ?_ _)); refine blk_far ?_ NB614_625.out _; (with_reducible repeat (first | refine blk_drewN ?_ _ | refine blk_drew ?_ | refine blk_alloc ?_ _)); refine blk_far ?_ NB614_625.out _; (with_reducible repeat (first | refine blk_drewN ?_ _ | refine blk_drew ?_ | refine blk_alloc ?_ _)); refine blk_far ?_ NB614_625.out _; (with_reducible repeat (first | refine blk_drewN ?_ _ | refine blk_drew ?_ | refine blk_alloc ?_ _)); exact BK614.out)) : gb627 ≠ gb614)); have n10_ := Aside0.mk ((by rw [hg]; exact Nat.ne_of_lt (blk_lt (g := gb625) (o := .cells #[.slice Ao20 t617.length co20, .int .i64 t620, .slice Ao23 t621.length co23] 48 (0, 0)) (by (with_reducible repeat (first | refine blk_drewN ?_ _ | refine blk_drew ?_ | refine blk_alloc ?_ _)); refine blk_put (cs := #[.slice Ao20 t617.length co20, .int .i64 t620, .slice none 0 0]) ?_ 2 _ rfl; (with_reducible repeat (first | refine blk_drewN ?_ _ | refine blk_drew ?_ | refine blk_alloc ?_ _)); refine blk_put (cs := #[.slice Ao20 t617.length co20, .int .i64 0, .slice none 0 0]) ?_ 1 _ rfl; (with_reducible repeat (first | refine blk_drewN ?_ _ | refine blk_drew ?_ | refine blk_alloc ?_ _)); refine blk_put (cs := #[.slice none 0 0, .int .i64 0, .slice none 0 0]) ?_ 0 _ rfl; (with_reducible repeat (first | refine blk_drewN ?_ _ | refine blk_drew ?_ | refine blk_alloc ?_ _)); exact BK625.out)) : gb625 ≠ gb627)); have n11_ := Aside0.mk ((by rw [hg]; exact Nat.ne_of_gt (blk_lt (g := gb625) (o := .cells #[.slice Ao20 t617.length co20, .int .i64 t620, .slice Ao23 t621.length co23] 48 (0, 0)) (by (with_reducible repeat (first | refine blk_drewN ?_ _ | refine blk_drew ?_ | refine blk_alloc ?_ _)); refine blk_put (cs := #[.slice Ao20 t617.length co20, .int .i64 t620, .slice none 0 0]) ?_ 2 _ rfl; (with_reducible repeat (first | refine blk_drewN ?_ _ | refine blk_drew ?_ | refine blk_alloc ?_ _)); refine blk_put (cs := #[.slice Ao20 t617.length co20, .int .i64 0, .slice none 0 0]) ?_ 1 _ rfl; (with_reducible repeat (first | refine blk_drewN ?_ _ | refine blk_drew ?_ | refine blk_alloc ?_ _)); refine blk_put (cs := #[.slice none 0 0, .int .i64 0, .slice none 0 0]) ?_ 0 _ rfl; (with_reducible repeat (first | refine blk_drewN ?_ _ | refine blk_drew ?_ | refine blk_alloc ?_ _)); exact BK625.out)) : gb627 ≠ gb625)); clear HO619; clear HO623; clear BK614; clear BK625; clear HB; have HO619 := n0_; have HO623 := n1_; have BK614 := n2_; have BK625 := n3_; have HB := n4_; have BK627 := n5_; have GW627 := n6_; have GE627 := n7_; have NB614_627 := n8_; have NB627_614 := n9_; have NB625_627 := n10_; have NB627_625 := n11_; clear n0_ n1_ n2_ n3_ n4_ n5_ n6_ n7_ n8_ n9_ n10_ n11_; clear hb hbox hg; have hnb25 := NB627_614.out; have hnc25 := NB614_627.out; have hnb26 := NB627_625.out; have hnc26 := NB625_627.out; have hcz27_0 : w24.cell? ⟨gb627, 0, none⟩ = some (.slice none 0 0) := (blk_cell BK627.out 0).trans rfl; have hcz27_1 : w24.cell? ⟨gb627, 1, none⟩ = some (.int .i64 0) := (blk_cell BK627.out 1).trans rfl; have hcz27_2 : w24.cell? ⟨gb627, 2, none⟩ = some (.slice none 0 0) := (blk_cell BK627.out 2).trans rfl; have hfz27_0 := blk_frozen BK627.out 0; have hfz27_1 := blk_frozen BK627.out 1; have hfz27_2 := blk_frozen BK627.out 2))
          have n0_ : Aside0 (Kd.R k57 57 ((((w24.setCell ⟨gb627, 0, none⟩ (.slice Ao20 t617.length co20)).setCell ⟨gb627, 1, none⟩ (.int .i64 t620)).setCell ⟨gb627, 2, none⟩ (.slice Ao23 t621.length co23)).setCell ⟨gb627, 1, none⟩ (.int .i64 a2)) w.heap.size (fun _ => True) (.slice Ao20 t617.length co20) t617) := ⟨by (with_reducible repeat (first | apply Kd.R_alloc | apply Kd.R_drewN | apply Kd.R_drew)); exact Kd.R_mono (Kd.R_far (p := ⟨gb627, 1, none⟩) (Kd.R_far (p := ⟨gb627, 2, none⟩) (Kd.R_far (p := ⟨gb627, 1, none⟩) (Kd.R_far (p := ⟨gb627, 0, none⟩) (Kd.R_types HO619.out BK627.out (by decide)) (fun _ hk => hk.2) (.slice Ao20 t617.length co20)) (fun _ hk => hk.2) (.int .i64 t620)) (fun _ hk => hk.2) (.slice Ao23 t621.length co23)) (fun _ hk => hk.2) (.int .i64 a2)) (fun _ hk => trivial)⟩
          have n1_ : Aside0 (Kd.R Kd.bool 4 ((((w24.setCell ⟨gb627, 0, none⟩ (.slice Ao20 t617.length co20)).setCell ⟨gb627, 1, none⟩ (.int .i64 t620)).setCell ⟨gb627, 2, none⟩ (.slice Ao23 t621.length co23)).setCell ⟨gb627, 1, none⟩ (.int .i64 a2)) w.heap.size (fun _ => True) (.slice Ao23 t621.length co23) t621) := ⟨by (with_reducible repeat (first | apply Kd.R_alloc | apply Kd.R_drewN | apply Kd.R_drew)); exact Kd.R_mono (Kd.R_far (p := ⟨gb627, 1, none⟩) (Kd.R_far (p := ⟨gb627, 2, none⟩) (Kd.R_far (p := ⟨gb627, 1, none⟩) (Kd.R_far (p := ⟨gb627, 0, none⟩) (Kd.R_types HO623.out BK627.out (by decide)) (fun _ hk => hk.2) (.slice Ao20 t617.length co20)) (fun _ hk => hk.2) (.int .i64 t620)) (fun _ hk => hk.2) (.slice Ao23 t621.length co23)) (fun _ hk => hk.2) (.int .i64 a2)) (fun _ hk => trivial)⟩
          have n2_ : Aside0 (((((w24.setCell ⟨gb627, 0, none⟩ (.slice Ao20 t617.length co20)).setCell ⟨gb627, 1, none⟩ (.int .i64 t620)).setCell ⟨gb627, 2, none⟩ (.slice Ao23 t621.length co23)).setCell ⟨gb627, 1, none⟩ (.int .i64 a2)).heap[gb614]? = some (.cells #[.string a0_0, .int .i64 a0_1, .int .i64 a0_2, .int .i64 a0_3, .int .i64 a0_4, .int .i64 a0_5, .slice A0_6 l0_6.length c0_6] 41 (0, 0))) := ⟨by (with_reducible repeat (first | refine blk_drewN ?_ _ | refine blk_drew ?_ | refine blk_alloc ?_ _)); refine blk_far ?_ NB614_627.out _; (with_reducible repeat (first | refine blk_drewN ?_ _ | refine blk_drew ?_ | refine blk_alloc ?_ _)); refine blk_far ?_ NB614_627.out _; (with_reducible repeat (first | refine blk_drewN ?_ _ | refine blk_drew ?_ | refine blk_alloc ?_ _)); refine blk_far ?_ NB614_627.out _; (with_reducible repeat (first | refine blk_drewN ?_ _ | refine blk_drew ?_ | refine blk_alloc ?_ _)); refine blk_far ?_ NB614_627.out _; (with_reducible repeat (first | refine blk_drewN ?_ _ | refine blk_drew ?_ | refine blk_alloc ?_ _)); exact BK614.out⟩
          have n3_ : Aside0 (((((w24.setCell ⟨gb627, 0, none⟩ (.slice Ao20 t617.length co20)).setCell ⟨gb627, 1, none⟩ (.int .i64 t620)).setCell ⟨gb627, 2, none⟩ (.slice Ao23 t621.length co23)).setCell ⟨gb627, 1, none⟩ (.int .i64 a2)).heap[gb625]? = some (.cells #[.slice Ao20 t617.length co20, .int .i64 t620, .slice Ao23 t621.length co23] 48 (0, 0))) := ⟨by (with_reducible repeat (first | refine blk_drewN ?_ _ | refine blk_drew ?_ | refine blk_alloc ?_ _)); refine blk_far ?_ NB625_627.out _; (with_reducible repeat (first | refine blk_drewN ?_ _ | refine blk_drew ?_ | refine blk_alloc ?_ _)); refine blk_far ?_ NB625_627.out _; (with_reducible repeat (first | refine blk_drewN ?_ _ | refine blk_drew ?_ | refine blk_alloc ?_ _)); refine blk_far ?_ NB625_627.out _; (with_reducible repeat (first | refine blk_drewN ?_ _ | refine blk_drew ?_ | refine blk_alloc ?_ _)); refine blk_far ?_ NB625_627.out _; (with_reducible repeat (first | refine blk_drewN ?_ _ | refine blk_drew ?_ | refine blk_alloc ?_ _)); exact BK625.out⟩
          have n4_ : Aside0 (((((w24.setCell ⟨gb627, 0, none⟩ (.slice Ao20 t617.length co20)).setCell ⟨gb627, 1, none⟩ (.int .i64 t620)).setCell ⟨gb627, 2, none⟩ (.slice Ao23 t621.length co23)).setCell ⟨gb627, 1, none⟩ (.int .i64 a2)).heap[gb627]? = some (.cells #[.slice Ao20 t617.length co20, .int .i64 a2, .slice Ao23 t621.length co23] 48 (0, 0))) := ⟨by (with_reducible repeat (first | refine blk_drewN ?_ _ | refine blk_drew ?_ | refine blk_alloc ?_ _)); refine blk_put (cs := #[.slice Ao20 t617.length co20, .int .i64 t620, .slice Ao23 t621.length co23]) ?_ 1 _ rfl; (with_reducible repeat (first | refine blk_drewN ?_ _ | refine blk_drew ?_ | refine blk_alloc ?_ _)); refine blk_put (cs := #[.slice Ao20 t617.length co20, .int .i64 t620, .slice none 0 0]) ?_ 2 _ rfl; (with_reducible repeat (first | refine blk_drewN ?_ _ | refine blk_drew ?_ | refine blk_alloc ?_ _)); refine blk_put (cs := #[.slice Ao20 t617.length co20, .int .i64 0, .slice none 0 0]) ?_ 1 _ rfl; (with_reducible repeat (first | refine blk_drewN ?_ _ | refine blk_drew ?_ | refine blk_alloc ?_ _)); refine blk_put (cs := #[.slice none 0 0, .int .i64 0, .slice none 0 0]) ?_ 0 _ rfl; (with_reducible repeat (first | refine blk_drewN ?_ _ | refine blk_drew ?_ | refine blk_alloc ?_ _)); exact BK627.out⟩
          have n5_ : Aside0 (Below w.heap.size w ((((w24.setCell ⟨gb627, 0, none⟩ (.slice Ao20 t617.length co20)).setCell ⟨gb627, 1, none⟩ (.int .i64 t620)).setCell ⟨gb627, 2, none⟩ (.slice Ao23 t621.length co23)).setCell ⟨gb627, 1, none⟩ (.int .i64 a2))) := ⟨by repeat (first | (with_reducible first | exact HB.out | apply below_alloc | apply pw_below_drewN | apply below_drew1 | refine below_set ?_ GE614.out | refine below_set ?_ GE625.out | refine below_set ?_ GE627.out) | exact HB.out)⟩
          (try clear HO619)
          (try clear HO623)
          (try clear BK614)
          (try clear BK625)
          (try clear BK627)
          (try clear HB)
          generalize ((((w24.setCell ⟨gb627, 0, none⟩ (.slice Ao20 t617.length co20)).setCell ⟨gb627, 1, none⟩ (.int .i64 t620)).setCell ⟨gb627, 2, none⟩ (.slice Ao23 t621.length co23)).setCell ⟨gb627, 1, none⟩ (.int .i64 a2)) = w28 at n0_ n1_ n2_ n3_ n4_ n5_ ⊢
          have HO619 := n0_
          have HO623 := n1_
          have BK614 := n2_
          have BK625 := n3_
          have BK627 := n4_
          have HB := n5_
          clear n0_ n1_ n2_ n3_ n4_ n5_
          have n0_ := Aside0.mk (Kd.R_drew HO619.out)
          have n1_ := Aside0.mk (Kd.R_drew HO623.out)
          have n2_ := Aside0.mk (blk_drew BK614.out)
          have n3_ := Aside0.mk (blk_drew BK625.out)
          have n4_ := Aside0.mk (blk_drew BK627.out)
          have n5_ := Aside0.mk (below_drew1 HB.out)
          clear HO619
          clear HO623
          clear BK614
          clear BK625
          clear BK627
          clear HB
          have HO619 := n0_
          have HO623 := n1_
          have BK614 := n2_
          have BK625 := n3_
          have BK627 := n4_
          have HB := n5_
          clear n0_ n1_ n2_ n3_ n4_ n5_
          refine start_ (n := 18) (S := fun w' => w'.cell? ⟨gb614, 0, none⟩ = some (.string a0_0) ∧ w'.cell? ⟨gb614, 1, none⟩ = some (.int .i64 a0_1) ∧ w'.cell? ⟨gb614, 2, none⟩ = some (.int .i64 a0_2) ∧ w'.cell? ⟨gb614, 3, none⟩ = some (.int .i64 a0_3) ∧ w'.cell? ⟨gb614, 4, none⟩ = some (.int .i64 a0_4) ∧ w'.cell? ⟨gb614, 5, none⟩ = some (.int .i64 a0_5) ∧ w'.cell? ⟨gb614, 6, none⟩ = some (.slice A0_6 l0_6.length c0_6) ∧ w'.cell? ⟨gb625, 0, none⟩ = some (.slice Ao20 t617.length co20) ∧ w'.cell? ⟨gb625, 1, none⟩ = some (.int .i64 t620) ∧ w'.cell? ⟨gb625, 2, none⟩ = some (.slice Ao23 t621.length co23) ∧ w'.cell? ⟨gb627, 0, none⟩ = some (.slice Ao20 t617.length co20) ∧ w'.cell? ⟨gb627, 1, none⟩ = some (.int .i64 a2) ∧ w'.cell? ⟨gb627, 2, none⟩ = some (.slice Ao23 t621.length co23)) (ds := []) #[false, false, false, false, false, false, false, false, false, false, false, false, false, false, false, false, false, false] (by kernel_rfl) rfl rfl ⟨(blk_cell BK614.out 0).trans rfl, (blk_cell BK614.out 1).trans rfl, (blk_cell BK614.out 2).trans rfl, (blk_cell BK614.out 3).trans rfl, (blk_cell BK614.out 4).trans rfl, (blk_cell BK614.out 5).trans rfl, (blk_cell BK614.out 6).trans rfl, (blk_cell BK625.out 0).trans rfl, (blk_cell BK625.out 1).trans rfl, (blk_cell BK625.out 2).trans rfl, (blk_cell BK627.out 0).trans rfl, (blk_cell BK627.out 1).trans rfl, (blk_cell BK627.out 2).trans rfl⟩ (fun hHeld => ?_); refine with_tabW sizarlaw20_ProofAccepts.tab10 sizarlaw20_ProofAccepts.bits10 (fun HT_ HW_ => ?_)
          generalize w28.drew = w29 at HO619 HO623 BK614 BK625 BK627 HB hHeld ⊢
          refine pure_ (i := 1) (N := some 33) (v := ?_) (a' := ?_) #[false, true, false, false, false, false, false, false, false, false, false, false, false, false, false, false, false, false] rfl rfl (any_of HT_.out (by kernel_rfl)) (fun _ _ _ h => h) (Or.inl ⟨by rfl, ?_⟩) ?_ ?_
          rotate_left
          · intro w'
            go_simp
            with_reducible rfl
          rotate_left
          · simp only [Act.put, List.setIfInBounds_toArray, List.set_cons_zero, List.set_cons_succ, i64_w, i32_w]
            rfl
          refine take_ (i := 0) (N := some 32) (v := ?_) (a' := ?_) #[true, true, false, false, false, false, false, false, false, false, false, false, false, false, false, false, false, false] rfl rfl (take_ofW HT_.out HW_.out (by kernel_rfl)) (fun _ _ _ h => h) (Or.inl ⟨by rfl, ?_⟩) hHeld ?_ ?_
          rotate_left
          · rintro w' ⟨s0, s1, s2, s3, s4, s5, s6, s7, s8, s9, s10, s11, s12⟩
            go_simp
            with_reducible rfl
          rotate_left
          · simp only [Act.put, List.setIfInBounds_toArray, List.set_cons_zero, List.set_cons_succ, i64_w, i32_w]
            rfl
          refine take_ (i := 2) (N := some 34) (v := ?_) (a' := ?_) #[true, true, true, false, false, false, false, false, false, false, false, false, false, false, false, false, false, false] rfl rfl (take_ofW HT_.out HW_.out (by kernel_rfl)) (fun _ _ _ h => h) (Or.inl ⟨by rfl, ?_⟩) hHeld ?_ ?_
          rotate_left
          · rintro w' ⟨s0, s1, s2, s3, s4, s5, s6, s7, s8, s9, s10, s11, s12⟩
            go_simp
            with_reducible rfl
          rotate_left
          · simp only [Act.put, List.setIfInBounds_toArray, List.set_cons_zero, List.set_cons_succ, i64_w, i32_w]
            rfl
          refine one_ (i := 3) (N := some 35) #[true, true, true, true, false, false, false, false, false, false, false, false, false, false, false, false, false, false] rfl rfl (one_of HT_.out (by kernel_rfl)) (by decide) (fun K hK => ?_)
          refine goes_ Try.func35 (by kernel_rfl) rfl #[.agg #[.string a0_0, .int .i64 a0_1, .int .i64 a0_2, .int .i64 a0_3, .int .i64 a0_4, .int .i64 a0_5, .slice A0_6 l0_6.length c0_6], .slice A1 l1.length c1, .agg #[.slice Ao20 t617.length co20, .int .i64 t620, .slice Ao23 t621.length co23]] (by rfl) rfl rfl (by (try simp only [List.map_toArray, List.map_cons, List.map_nil]); first | done | rfl | (simp only [List.length_drop, List.length_take]; rfl)) ?_
          with_reducible refine (proof_Check.calls k a0_0 a0_1 a0_2 a0_3 a0_4 a0_5 _ _ l0_6 _ _ l1 _ _ t617 t620 _ _ t621 t628 _ ?side1 ?side2 ?side3 ?side4 ?side5 ?side6 ?side7 ?side8 A10.out).mono ?_
          (case side1 => repeat (first | exact (Kd.C_below HR0_6.out HB.out) | (with_reducible refine Kd.C_alloc ?_ _) | (with_reducible refine Kd.C_drewN ?_ _) | (with_reducible refine Kd.C_drew ?_)))
          (case side2 => exact HC0_6.out)
          (case side3 => repeat (first | exact (Kd.C_below HR1.out HB.out) | (with_reducible refine Kd.C_alloc ?_ _) | (with_reducible refine Kd.C_drewN ?_ _) | (with_reducible refine Kd.C_drew ?_)))
          (case side4 => exact HC1.out)
          (case side5 => repeat (first | exact (Kd.R_reads' HO619.out).2.2 | (with_reducible refine Kd.C_alloc ?_ _) | (with_reducible refine Kd.C_drewN ?_ _) | (with_reducible refine Kd.C_drew ?_)))
          (case side6 => exact (Kd.R_reads' HO619.out).2.1)
          (case side7 => repeat (first | exact (Kd.R_reads' HO623.out).2.2 | (with_reducible refine Kd.C_alloc ?_ _) | (with_reducible refine Kd.C_drewN ?_ _) | (with_reducible refine Kd.C_drew ?_)))
          (case side8 => exact (Kd.R_reads' HO623.out).2.1)
          rintro e w30 ⟨rfl, hb⟩
          refine ⟨_, rfl, ?_⟩
          have n0_ := Aside0.mk (Kd.R_below (by (with_reducible repeat (first | apply Kd.R_alloc | apply Kd.R_drewN | apply Kd.R_drew)); exact HO619.out) hb)
          have n1_ := Aside0.mk (Kd.R_below (by (with_reducible repeat (first | apply Kd.R_alloc | apply Kd.R_drewN | apply Kd.R_drew)); exact HO623.out) hb)
          have n2_ := Aside0.mk (blk_below (g := gb614) (o := .cells #[.string a0_0, .int .i64 a0_1, .int .i64 a0_2, .int .i64 a0_3, .int .i64 a0_4, .int .i64 a0_5, .slice A0_6 l0_6.length c0_6] 41 (0, 0)) (by (with_reducible repeat (first | refine blk_drewN ?_ _ | refine blk_drew ?_ | refine blk_alloc ?_ _)); exact BK614.out) hb)
          have n3_ := Aside0.mk (blk_below (g := gb625) (o := .cells #[.slice Ao20 t617.length co20, .int .i64 t620, .slice Ao23 t621.length co23] 48 (0, 0)) (by (with_reducible repeat (first | refine blk_drewN ?_ _ | refine blk_drew ?_ | refine blk_alloc ?_ _)); exact BK625.out) hb)
          have n4_ := Aside0.mk (blk_below (g := gb627) (o := .cells #[.slice Ao20 t617.length co20, .int .i64 a2, .slice Ao23 t621.length co23] 48 (0, 0)) (by (with_reducible repeat (first | refine blk_drewN ?_ _ | refine blk_drew ?_ | refine blk_alloc ?_ _)); exact BK627.out) hb)
          have n5_ := Aside0.mk (below_step (by repeat (first | (with_reducible first | exact HB.out | apply below_alloc | apply pw_below_drewN | apply below_drew1 | refine below_set ?_ GE614.out | refine below_set ?_ GE625.out | refine below_set ?_ GE627.out) | exact HB.out)) hb)
          clear HO619
          clear HO623
          clear BK614
          clear BK625
          clear BK627
          clear HB
          have HO619 := n0_
          have HO623 := n1_
          have BK614 := n2_
          have BK625 := n3_
          have BK627 := n4_
          have HB := n5_
          clear n0_ n1_ n2_ n3_ n4_ n5_
          (try clear hb)
          (try clear hb2)
          (try clear hk)
          (try clear hi)
          refine hK.out _ _ ⟨(blk_cell BK614.out 0).trans rfl, (blk_cell BK614.out 1).trans rfl, (blk_cell BK614.out 2).trans rfl, (blk_cell BK614.out 3).trans rfl, (blk_cell BK614.out 4).trans rfl, (blk_cell BK614.out 5).trans rfl, (blk_cell BK614.out 6).trans rfl, (blk_cell BK625.out 0).trans rfl, (blk_cell BK625.out 1).trans rfl, (blk_cell BK625.out 2).trans rfl, (blk_cell BK627.out 0).trans rfl, (blk_cell BK627.out 1).trans rfl, (blk_cell BK627.out 2).trans rfl⟩ (fun hHeld => ?_)
          clear hK K
          refine norm_ (a' := ?_) ?_ ?_
          rotate_left
          · show Act.put _ (some 35) _ = _
            simp only [Act.put, List.setIfInBounds_toArray, List.set_cons_zero, List.set_cons_succ, i64_w, i32_w]
            rfl
          refine pure_ (i := 4) (N := some 36) (v := ?_) (a' := ?_) #[true, true, true, true, true, false, false, false, false, false, false, false, false, false, false, false, false, false] rfl rfl (any_of HT_.out (by kernel_rfl)) (fun _ _ _ h => h) (Or.inl ⟨by rfl, ?_⟩) ?_ ?_
          rotate_left
          · intro w'
            go_simp
            with_reducible rfl
          rotate_left
          · simp only [Act.put, List.setIfInBounds_toArray, List.set_cons_zero, List.set_cons_succ, i64_w, i32_w]
            rfl
          refine pure_ (i := 5) (N := some 37) (v := ?_) (a' := ?_) #[true, true, true, true, true, true, false, false, false, false, false, false, false, false, false, false, false, false] rfl rfl (any_of HT_.out (by kernel_rfl)) (fun _ _ _ h => h) (Or.inl ⟨by rfl, ?_⟩) ?_ ?_
          rotate_left
          · intro w'
            go_simp
            with_reducible rfl
          rotate_left
          · simp only [Act.put, List.setIfInBounds_toArray, List.set_cons_zero, List.set_cons_succ, i64_w, i32_w]
            rfl
          refine pure_ (i := 7) (N := some 39) (v := ?_) (a' := ?_) #[true, true, true, true, true, true, false, true, false, false, false, false, false, false, false, false, false, false] rfl rfl (any_of HT_.out (by kernel_rfl)) (fun _ _ _ h => h) (Or.inl ⟨by rfl, ?_⟩) ?_ ?_
          rotate_left
          · intro w'
            go_simp
            with_reducible rfl
          rotate_left
          · simp only [Act.put, List.setIfInBounds_toArray, List.set_cons_zero, List.set_cons_succ, i64_w, i32_w]
            rfl
          refine pure_ (i := 11) (N := some 43) (v := ?_) (a' := ?_) #[true, true, true, true, true, true, false, true, false, false, false, true, false, false, false, false, false, false] rfl rfl (any_of HT_.out (by kernel_rfl)) (fun _ _ _ h => h) (Or.inl ⟨by rfl, ?_⟩) ?_ ?_
          rotate_left
          · intro w'
            go_simp
            with_reducible rfl
          rotate_left
          · simp only [Act.put, List.setIfInBounds_toArray, List.set_cons_zero, List.set_cons_succ, i64_w, i32_w]
            rfl
          refine pure_ (i := 12) (N := some 44) (v := ?_) (a' := ?_) #[true, true, true, true, true, true, false, true, false, false, false, true, true, false, false, false, false, false] rfl rfl (any_of HT_.out (by kernel_rfl)) (fun _ _ _ h => h) (Or.inl ⟨by rfl, ?_⟩) ?_ ?_
          rotate_left
          · intro w'
            go_simp
            with_reducible rfl
          rotate_left
          · simp only [Act.put, List.setIfInBounds_toArray, List.set_cons_zero, List.set_cons_succ, i64_w, i32_w]
            rfl
          refine take_ (i := 6) (N := some 38) (v := ?_) (a' := ?_) #[true, true, true, true, true, true, true, true, false, false, false, true, true, false, false, false, false, false] rfl rfl (take_ofW HT_.out HW_.out (by kernel_rfl)) (fun _ _ _ h => h) (Or.inl ⟨by rfl, ?_⟩) hHeld ?_ ?_
          rotate_left
          · rintro w' ⟨s0, s1, s2, s3, s4, s5, s6, s7, s8, s9, s10, s11, s12⟩
            go_simp
            with_reducible rfl
          rotate_left
          · simp only [Act.put, List.setIfInBounds_toArray, List.set_cons_zero, List.set_cons_succ, i64_w, i32_w]
            rfl
          refine take_ (i := 8) (N := some 40) (v := ?_) (a' := ?_) #[true, true, true, true, true, true, true, true, true, false, false, true, true, false, false, false, false, false] rfl rfl (take_ofW HT_.out HW_.out (by kernel_rfl)) (fun _ _ _ h => h) (Or.inl ⟨by rfl, ?_⟩) hHeld ?_ ?_
          rotate_left
          · rintro w' ⟨s0, s1, s2, s3, s4, s5, s6, s7, s8, s9, s10, s11, s12⟩
            go_simp
            with_reducible rfl
          rotate_left
          · simp only [Act.put, List.setIfInBounds_toArray, List.set_cons_zero, List.set_cons_succ, i64_w, i32_w]
            rfl
          refine take_ (i := 13) (N := some 45) (v := ?_) (a' := ?_) #[true, true, true, true, true, true, true, true, true, false, false, true, true, true, false, false, false, false] rfl rfl (take_ofW HT_.out HW_.out (by kernel_rfl)) (fun _ _ _ h => h) (Or.inl ⟨by rfl, ?_⟩) hHeld ?_ ?_
          rotate_left
          · rintro w' ⟨s0, s1, s2, s3, s4, s5, s6, s7, s8, s9, s10, s11, s12⟩
            go_simp
            with_reducible rfl
          rotate_left
          · simp only [Act.put, List.setIfInBounds_toArray, List.set_cons_zero, List.set_cons_succ, i64_w, i32_w]
            rfl
          refine pure_ (i := 14) (N := some 46) (v := ?_) (a' := ?_) #[true, true, true, true, true, true, true, true, true, false, false, true, true, true, true, false, false, false] rfl rfl (any_of HT_.out (by kernel_rfl)) (fun _ _ _ h => h) (Or.inl ⟨by rfl, ?_⟩) ?_ ?_
          rotate_left
          · intro w'
            go_simp
            with_reducible rfl
          rotate_left
          · simp only [Act.put, List.setIfInBounds_toArray, List.set_cons_zero, List.set_cons_succ, i64_w, i32_w]
            rfl
          refine one_ (i := 9) (N := some 41) #[true, true, true, true, true, true, true, true, true, true, false, true, true, true, true, false, false, false] rfl rfl (one_of HT_.out (by kernel_rfl)) (by decide) (fun K hK => ?_)
          refine goes_ Try.func35 (by kernel_rfl) rfl #[.agg #[.string a0_0, .int .i64 a0_1, .int .i64 a0_2, .int .i64 a0_3, .int .i64 a0_4, .int .i64 a0_5, .slice A0_6 l0_6.length c0_6], .slice A1 l1.length c1, .agg #[.slice Ao20 t617.length co20, .int .i64 a2, .slice Ao23 t621.length co23]] (by rfl) rfl rfl (by (try simp only [List.map_toArray, List.map_cons, List.map_nil]); first | done | rfl | (simp only [List.length_drop, List.length_take]; rfl)) ?_
          with_reducible refine (proof_Check.calls k a0_0 a0_1 a0_2 a0_3 a0_4 a0_5 _ _ l0_6 _ _ l1 _ _ t617 a2 _ _ t621 t629 _ ?side1 ?side2 ?side3 ?side4 ?side5 ?side6 ?side7 ?side8 A12.out).mono ?_
          (case side1 => repeat (first | exact (Kd.C_below HR0_6.out HB.out) | (with_reducible refine Kd.C_alloc ?_ _) | (with_reducible refine Kd.C_drewN ?_ _) | (with_reducible refine Kd.C_drew ?_)))
          (case side2 => exact HC0_6.out)
          (case side3 => repeat (first | exact (Kd.C_below HR1.out HB.out) | (with_reducible refine Kd.C_alloc ?_ _) | (with_reducible refine Kd.C_drewN ?_ _) | (with_reducible refine Kd.C_drew ?_)))
          (case side4 => exact HC1.out)
          (case side5 => repeat (first | exact (Kd.R_reads' HO619.out).2.2 | (with_reducible refine Kd.C_alloc ?_ _) | (with_reducible refine Kd.C_drewN ?_ _) | (with_reducible refine Kd.C_drew ?_)))
          (case side6 => exact (Kd.R_reads' HO619.out).2.1)
          (case side7 => repeat (first | exact (Kd.R_reads' HO623.out).2.2 | (with_reducible refine Kd.C_alloc ?_ _) | (with_reducible refine Kd.C_drewN ?_ _) | (with_reducible refine Kd.C_drew ?_)))
          (case side8 => exact (Kd.R_reads' HO623.out).2.1)
          rintro e w31 ⟨rfl, hb⟩
          refine ⟨_, rfl, ?_⟩
          have n0_ := Aside0.mk (Kd.R_below (by (with_reducible repeat (first | apply Kd.R_alloc | apply Kd.R_drewN | apply Kd.R_drew)); exact HO619.out) hb)
          have n1_ := Aside0.mk (Kd.R_below (by (with_reducible repeat (first | apply Kd.R_alloc | apply Kd.R_drewN | apply Kd.R_drew)); exact HO623.out) hb)
          have n2_ := Aside0.mk (blk_below (g := gb614) (o := .cells #[.string a0_0, .int .i64 a0_1, .int .i64 a0_2, .int .i64 a0_3, .int .i64 a0_4, .int .i64 a0_5, .slice A0_6 l0_6.length c0_6] 41 (0, 0)) (by (with_reducible repeat (first | refine blk_drewN ?_ _ | refine blk_drew ?_ | refine blk_alloc ?_ _)); exact BK614.out) hb)
          have n3_ := Aside0.mk (blk_below (g := gb625) (o := .cells #[.slice Ao20 t617.length co20, .int .i64 t620, .slice Ao23 t621.length co23] 48 (0, 0)) (by (with_reducible repeat (first | refine blk_drewN ?_ _ | refine blk_drew ?_ | refine blk_alloc ?_ _)); exact BK625.out) hb)
          have n4_ := Aside0.mk (blk_below (g := gb627) (o := .cells #[.slice Ao20 t617.length co20, .int .i64 a2, .slice Ao23 t621.length co23] 48 (0, 0)) (by (with_reducible repeat (first | refine blk_drewN ?_ _ | refine blk_drew ?_ | refine blk_alloc ?_ _)); exact BK627.out) hb)
          have n5_ := Aside0.mk (below_step (by repeat (first | (with_reducible first | exact HB.out | apply below_alloc | apply pw_below_drewN | apply below_drew1 | refine below_set ?_ GE614.out | refine below_set ?_ GE625.out | refine below_set ?_ GE627.out) | exact HB.out)) hb)
          clear HO619
          clear HO623
          clear BK614
          clear BK625
          clear BK627
          clear HB
          have HO619 := n0_
          have HO623 := n1_
          have BK614 := n2_
          have BK625 := n3_
          have BK627 := n4_
          have HB := n5_
          clear n0_ n1_ n2_ n3_ n4_ n5_
          (try clear hb)
          (try clear hb2)
          (try clear hk)
          (try clear hi)
          refine hK.out _ _ ⟨(blk_cell BK614.out 0).trans rfl, (blk_cell BK614.out 1).trans rfl, (blk_cell BK614.out 2).trans rfl, (blk_cell BK614.out 3).trans rfl, (blk_cell BK614.out 4).trans rfl, (blk_cell BK614.out 5).trans rfl, (blk_cell BK614.out 6).trans rfl, (blk_cell BK625.out 0).trans rfl, (blk_cell BK625.out 1).trans rfl, (blk_cell BK625.out 2).trans rfl, (blk_cell BK627.out 0).trans rfl, (blk_cell BK627.out 1).trans rfl, (blk_cell BK627.out 2).trans rfl⟩ (fun hHeld => ?_)
          clear hK K
          refine norm_ (a' := ?_) ?_ ?_
          rotate_left
          · show Act.put _ (some 41) _ = _
            simp only [Act.put, List.setIfInBounds_toArray, List.set_cons_zero, List.set_cons_succ, i64_w, i32_w]
            rfl
          refine pure_ (i := 10) (N := some 42) (v := ?_) (a' := ?_) #[true, true, true, true, true, true, true, true, true, true, true, true, true, true, true, false, false, false] rfl rfl (any_of HT_.out (by kernel_rfl)) (fun _ _ _ h => h) (Or.inl ⟨by rfl, ?_⟩) ?_ ?_
          rotate_left
          · intro w'
            go_simp
            with_reducible rfl
          rotate_left
          · simp only [Act.put, List.setIfInBounds_toArray, List.set_cons_zero, List.set_cons_succ, i64_w, i32_w]
            rfl
          refine pure_ (i := 15) (N := some 47) (v := ?_) (a' := ?_) #[true, true, true, true, true, true, true, true, true, true, true, true, true, true, true, true, false, false] rfl rfl (any_of HT_.out (by kernel_rfl)) (fun _ _ _ h => h) (Or.inl ⟨by rfl, ?_⟩) ?_ ?_
          rotate_left
          · intro w'
            go_simp
            with_reducible rfl
          rotate_left
          · simp only [Act.put, List.setIfInBounds_toArray, List.set_cons_zero, List.set_cons_succ, i64_w, i32_w]
            rfl
          refine pure_ (i := 16) (N := some 48) (v := ?_) (a' := ?_) #[true, true, true, true, true, true, true, true, true, true, true, true, true, true, true, true, true, false] rfl rfl (any_of HT_.out (by kernel_rfl)) (fun _ _ _ h => h) (Or.inl ⟨by rfl, ?_⟩) ?_ ?_
          rotate_left
          · intro w'
            go_simp
            with_reducible rfl
          rotate_left
          · simp only [Act.put, List.setIfInBounds_toArray, List.set_cons_zero, List.set_cons_succ, i64_w, i32_w]
            rfl
          refine pure_ (i := 17) (N := some 6) (v := ?_) (a' := ?_) #[true, true, true, true, true, true, true, true, true, true, true, true, true, true, true, true, true, true] rfl rfl (any_of HT_.out (by kernel_rfl)) (fun _ _ _ h => h) (Or.inl ⟨by rfl, ?_⟩) ?_ ?_
          rotate_left
          · intro w'
            go_simp
            with_reducible rfl
          rotate_left
          · simp only [Act.put, List.setIfInBounds_toArray, List.set_cons_zero, List.set_cons_succ, i64_w, i32_w]
            rfl
          refine done_ (done_of HT_.out (by kernel_rfl)) ?_
          try go_wp2
          go_ret
          exact ⟨by first | rfl | (simp [errW_none, errW_some] <;> rfl) | (simp [*, errW_none, errW_some] <;> rfl), by repeat (first | (with_reducible first | exact HB.out | apply below_alloc | apply pw_below_drewN | apply below_drew1 | refine below_set ?_ GE614.out | refine below_set ?_ GE625.out | refine below_set ?_ GE627.out) | exact HB.out)⟩
        · rw [if_neg c11] at H
          have c11b0 : (t628 == 0) = false := beq_eq_false_iff_ne.mpr c11
          have c11b1 : (t628 != 0) = true := bne_iff_ne.mpr c11
          obtain rfl := Option.some.inj H
          go_enter Try.func17, Try.ntmps17
          try go_wp2_with (first | ((with_reducible refine gate_dst (N := 3) rfl ?_); refine box_event ?hg (N := 3) ?hd (cs := #[.string a0_0, .int .i64 a0_1, .int .i64 a0_2, .int .i64 a0_3, .int .i64 a0_4, .int .i64 a0_5, .slice A0_6 l0_6.length c0_6]) (t := 41) ?hr ?_; (case hd => rfl); (case hg => rfl); (case hr => first | (go_simp; done) | (go_simp; rfl)); intro gb614 hg w32 hbox hb; have n0_ := Aside0.mk (below_step (by repeat (first | (with_reducible first | exact HB.out | apply below_alloc | apply pw_below_drewN | apply below_drew1) | exact HB.out)) hb); have n1_ := Aside0.mk (hbox); have n2_ := Aside0.mk ((by rw [hg]; exact (below_size (by repeat (first | (with_reducible first | exact HB.out | apply below_alloc | apply pw_below_drewN | apply below_drew1) | exact HB.out))) : w.heap.size ≤ gb614)); have n3_ := Aside0.mk ((by rw [hg]; exact (below_size (by repeat (first | (with_reducible first | exact HB.out | apply below_alloc | apply pw_below_drewN | apply below_drew1) | exact HB.out))) : w.heap.size ≤ gb614)); clear HB; have HB := n0_; have BK614 := n1_; have GW614 := n2_; have GE614 := n3_; clear n0_ n1_ n2_ n3_; clear hb hbox hg) | ((with_reducible refine gate_callee (f := 30) rfl ?_); refine goesL_ (some 10) rfl rfl Try.func30 (by kernel_rfl) rfl #[] rfl (by (try simp only [List.map_toArray, List.map_cons, List.map_nil]); first | done | rfl | (simp only [List.length_drop, List.length_take]; rfl)) ?_; (with_reducible refine (sizarlaw20_sane.calls k  true _ A4.out).mono ?_); rintro e w33 ⟨rfl, hb⟩; refine ⟨_, rfl, ?_⟩; have n0_ := Aside0.mk (blk_below (g := gb614) (o := .cells #[.string a0_0, .int .i64 a0_1, .int .i64 a0_2, .int .i64 a0_3, .int .i64 a0_4, .int .i64 a0_5, .slice A0_6 l0_6.length c0_6] 41 (0, 0)) (by (with_reducible repeat (first | refine blk_drewN ?_ _ | refine blk_drew ?_ | refine blk_alloc ?_ _)); exact BK614.out) hb); have n1_ := Aside0.mk (below_step (by repeat (first | (with_reducible first | exact HB.out | apply below_alloc | apply pw_below_drewN | apply below_drew1 | refine below_set ?_ GE614.out) | exact HB.out)) hb); clear BK614; clear HB; have BK614 := n0_; have HB := n1_; clear n0_ n1_; (try clear hb); (try clear hb2); (try clear hk); (try clear hi); have hcz34_0 : w33.cell? ⟨gb614, 0, none⟩ = some (.string a0_0) := (blk_cell BK614.out 0).trans rfl; have hcz34_1 : w33.cell? ⟨gb614, 1, none⟩ = some (.int .i64 a0_1) := (blk_cell BK614.out 1).trans rfl; have hcz34_2 : w33.cell? ⟨gb614, 2, none⟩ = some (.int .i64 a0_2) := (blk_cell BK614.out 2).trans rfl; have hcz34_3 : w33.cell? ⟨gb614, 3, none⟩ = some (.int .i64 a0_3) := (blk_cell BK614.out 3).trans rfl; have hcz34_4 : w33.cell? ⟨gb614, 4, none⟩ = some (.int .i64 a0_4) := (blk_cell BK614.out 4).trans rfl; have hcz34_5 : w33.cell? ⟨gb614, 5, none⟩ = some (.int .i64 a0_5) := (blk_cell BK614.out 5).trans rfl; have hcz34_6 : w33.cell? ⟨gb614, 6, none⟩ = some (.slice A0_6 l0_6.length c0_6) := (blk_cell BK614.out 6).trans rfl; have hfz34_0 := blk_frozen BK614.out 0; have hfz34_1 := blk_frozen BK614.out 1; have hfz34_2 := blk_frozen BK614.out 2; have hfz34_3 := blk_frozen BK614.out 3; have hfz34_4 := blk_frozen BK614.out 4; have hfz34_5 := blk_frozen BK614.out 5; have hfz34_6 := blk_frozen BK614.out 6) | ((with_reducible refine gate_callee (f := 31) rfl ?_); refine goesL_ (some 14) rfl rfl Try.func31 (by kernel_rfl) rfl #[.agg #[.string a0_0, .int .i64 a0_1, .int .i64 a0_2, .int .i64 a0_3, .int .i64 a0_4, .int .i64 a0_5, .slice A0_6 l0_6.length c0_6], .slice A1 l1.length c1] rfl (by (try simp only [List.map_toArray, List.map_cons, List.map_nil]); first | done | rfl | (simp only [List.length_drop, List.length_take]; rfl)) ?_; (with_reducible refine (sizarref20_Few.calls k a0_0 a0_1 a0_2 a0_3 a0_4 a0_5 _ _ l0_6 _ _ l1 true _ ?side1 ?side2 ?side3 ?side4 A6.out).mono ?_); (case side1 => repeat (first | exact (Kd.C_below HR0_6.out HB.out) | (with_reducible refine Kd.C_alloc ?_ _) | (with_reducible refine Kd.C_drewN ?_ _) | (with_reducible refine Kd.C_drew ?_))); (case side2 => exact HC0_6.out); (case side3 => repeat (first | exact (Kd.C_below HR1.out HB.out) | (with_reducible refine Kd.C_alloc ?_ _) | (with_reducible refine Kd.C_drewN ?_ _) | (with_reducible refine Kd.C_drew ?_))); (case side4 => exact HC1.out); rintro e w35 ⟨rfl, hb⟩; refine ⟨_, rfl, ?_⟩; have n0_ := Aside0.mk (blk_below (g := gb614) (o := .cells #[.string a0_0, .int .i64 a0_1, .int .i64 a0_2, .int .i64 a0_3, .int .i64 a0_4, .int .i64 a0_5, .slice A0_6 l0_6.length c0_6] 41 (0, 0)) (by (with_reducible repeat (first | refine blk_drewN ?_ _ | refine blk_drew ?_ | refine blk_alloc ?_ _)); exact BK614.out) hb); have n1_ := Aside0.mk (below_step (by repeat (first | (with_reducible first | exact HB.out | apply below_alloc | apply pw_below_drewN | apply below_drew1 | refine below_set ?_ GE614.out) | exact HB.out)) hb); clear BK614; clear HB; have BK614 := n0_; have HB := n1_; clear n0_ n1_; (try clear hb); (try clear hb2); (try clear hk); (try clear hi); have hcz36_0 : w35.cell? ⟨gb614, 0, none⟩ = some (.string a0_0) := (blk_cell BK614.out 0).trans rfl; have hcz36_1 : w35.cell? ⟨gb614, 1, none⟩ = some (.int .i64 a0_1) := (blk_cell BK614.out 1).trans rfl; have hcz36_2 : w35.cell? ⟨gb614, 2, none⟩ = some (.int .i64 a0_2) := (blk_cell BK614.out 2).trans rfl; have hcz36_3 : w35.cell? ⟨gb614, 3, none⟩ = some (.int .i64 a0_3) := (blk_cell BK614.out 3).trans rfl; have hcz36_4 : w35.cell? ⟨gb614, 4, none⟩ = some (.int .i64 a0_4) := (blk_cell BK614.out 4).trans rfl; have hcz36_5 : w35.cell? ⟨gb614, 5, none⟩ = some (.int .i64 a0_5) := (blk_cell BK614.out 5).trans rfl; have hcz36_6 : w35.cell? ⟨gb614, 6, none⟩ = some (.slice A0_6 l0_6.length c0_6) := (blk_cell BK614.out 6).trans rfl; have hfz36_0 := blk_frozen BK614.out 0; have hfz36_1 := blk_frozen BK614.out 1; have hfz36_2 := blk_frozen BK614.out 2; have hfz36_3 := blk_frozen BK614.out 3; have hfz36_4 := blk_frozen BK614.out 4; have hfz36_5 := blk_frozen BK614.out 5; have hfz36_6 := blk_frozen BK614.out 6) | ((with_reducible refine gate_callee (f := 32) rfl ?_); refine goesL_ (some 19) rfl rfl Try.func32 (by kernel_rfl) rfl #[.agg #[.string a0_0, .int .i64 a0_1, .int .i64 a0_2, .int .i64 a0_3, .int .i64 a0_4, .int .i64 a0_5, .slice A0_6 l0_6.length c0_6], .slice A1 l1.length c1] rfl (by (try simp only [List.map_toArray, List.map_cons, List.map_nil]); first | done | rfl | (simp only [List.length_drop, List.length_take]; rfl)) ?_; (with_reducible refine (degree_Audit.calls k a0_0 a0_1 a0_2 a0_3 a0_4 a0_5 _ _ l0_6 _ _ l1 t617 t620 t621 t624 _ ?side1 ?side2 ?side3 ?side4 A8.out).mono ?_); (case side1 => repeat (first | exact (Kd.C_below HR0_6.out HB.out) | (with_reducible refine Kd.C_alloc ?_ _) | (with_reducible refine Kd.C_drewN ?_ _) | (with_reducible refine Kd.C_drew ?_))); (case side2 => exact HC0_6.out); (case side3 => repeat (first | exact (Kd.C_below HR1.out HB.out) | (with_reducible refine Kd.C_alloc ?_ _) | (with_reducible refine Kd.C_drewN ?_ _) | (with_reducible refine Kd.C_drew ?_))); (case side4 => exact HC1.out); rintro e w37 ⟨v618, v622, rfl, ho0, ho1, hb⟩; refine ⟨_, rfl, ?_⟩; have n0_ := Aside0.mk (Kd.R_lower ho0 (below_size (by repeat (first | (with_reducible first | exact HB.out | apply below_alloc | apply pw_below_drewN | apply below_drew1 | refine below_set ?_ GE614.out) | exact HB.out)))); have n1_ := Aside0.mk (Kd.R_lower ho1 (below_size (by repeat (first | (with_reducible first | exact HB.out | apply below_alloc | apply pw_below_drewN | apply below_drew1 | refine below_set ?_ GE614.out) | exact HB.out)))); have n2_ := Aside0.mk (blk_below (g := gb614) (o := .cells #[.string a0_0, .int .i64 a0_1, .int .i64 a0_2, .int .i64 a0_3, .int .i64 a0_4, .int .i64 a0_5, .slice A0_6 l0_6.length c0_6] 41 (0, 0)) (by (with_reducible repeat (first | refine blk_drewN ?_ _ | refine blk_drew ?_ | refine blk_alloc ?_ _)); exact BK614.out) hb); have n3_ := Aside0.mk (below_step (by repeat (first | (with_reducible first | exact HB.out | apply below_alloc | apply pw_below_drewN | apply below_drew1 | refine below_set ?_ GE614.out) | exact HB.out)) hb); clear BK614; clear HB; have HO619 := n0_; have HO623 := n1_; have BK614 := n2_; have HB := n3_; clear n0_ n1_ n2_ n3_; (try clear hb); (try clear hb2); (try clear hk); (try clear hi); (try clear ho0); (try clear ho1)) | ((with_reducible refine gate_dst (N := 7) rfl ?_); refine box_event ?hg (N := 7) ?hd (cs := #[.slice none 0 0, .int .i64 0, .slice none 0 0]) (t := 48) ?hr ?_; (case hd => rfl); (case hg => rfl); (case hr => first | (go_simp; done) | (go_simp; rfl)); intro gb625 hg w38 hbox hb; have n0_ := Aside0.mk (Kd.R_below (by (with_reducible repeat (first | apply Kd.R_alloc | apply Kd.R_drewN | apply Kd.R_drew)); exact HO619.out) hb); have n1_ := Aside0.mk (Kd.R_below (by (with_reducible repeat (first | apply Kd.R_alloc | apply Kd.R_drewN | apply Kd.R_drew)); exact HO623.out) hb); have n2_ := Aside0.mk (blk_below (g := gb614) (o := .cells #[.string a0_0, .int .i64 a0_1, .int .i64 a0_2, .int .i64 a0_3, .int .i64 a0_4, .int .i64 a0_5, .slice A0_6 l0_6.length c0_6] 41 (0, 0)) (by (with_reducible repeat (first | refine blk_drewN ?_ _ | refine blk_drew ?_ | refine blk_alloc ?_ _)); exact BK614.out) hb); have n3_ := Aside0.mk (below_step (by repeat (first | (with_reducible first | exact HB.out | apply below_alloc | apply pw_below_drewN | apply below_drew1 | refine below_set ?_ GE614.out) | exact HB.out)) hb); have n4_ := Aside0.mk (hbox); have n5_ := Aside0.mk ((by rw [hg]; exact (below_size (by repeat (first | (with_reducible first | exact HB.out | apply below_alloc | apply pw_below_drewN | apply below_drew1 | refine below_set ?_ GE614.out) | exact HB.out))) : w.heap.size ≤ gb625)); have n6_ := Aside0.mk ((by rw [hg]; exact (below_size (by repeat (first | (with_reducible first | exact HB.out | apply below_alloc | apply pw_below_drewN | apply below_drew1 | refine below_set ?_ GE614.out) | exact HB.out))) : w.heap.size ≤ gb625)); have n7_ := Aside0.mk ((by rw [hg]; exact Nat.ne_of_lt (blk_lt (g := gb614) (o := .cells #[.string a0_0, .int .i64 a0_1, .int .i64 a0_2, .int .i64 a0_3, .int .i64 a0_4, .int .i64 a0_5, .slice A0_6 l0_6.length c0_6] 41 (0, 0)) (by (with_reducible repeat (first | refine blk_drewN ?_ _ | refine blk_drew ?_ | refine blk_alloc ?_ _)); exact BK614.out)) : gb614 ≠ gb625)); have n8_ := Aside0.mk ((by rw [hg]; exact Nat.ne_of_gt (blk_lt (g := gb614) (o := .cells #[.string a0_0, .int .i64 a0_1, .int .i64 a0_2, .int .i64 a0_3, .int .i64 a0_4, .int .i64 a0_5, .slice A0_6 l0_6.length c0_6] 41 (0, 0)) (by (with_reducible repeat (first | refine blk_drewN ?_ _ | refine blk_drew ?_ | refine blk_alloc ?_ _)); exact BK614.out)) : gb625 ≠ gb614)); clear HO619; clear HO623; clear BK614; clear HB; have HO619 := n0_; have HO623 := n1_; have BK614 := n2_; have HB := n3_; have BK625 := n4_; have GW625 := n5_; have GE625 := n6_; have NB614_625 := n7_; have NB625_614 := n8_; clear n0_ n1_ n2_ n3_ n4_ n5_ n6_ n7_ n8_; clear hb hbox hg; obtain ⟨Ao39, co39, eo39⟩ := Kd.R_slice HO619.out; subst eo39; have hnb40 := NB625_614.out; have hnc40 := NB614_625.out; have hcz41_0 : w38.cell? ⟨gb625, 0, none⟩ = some (.slice none 0 0) := (blk_cell BK625.out 0).trans rfl; have hcz41_1 : w38.cell? ⟨gb625, 1, none⟩ = some (.int .i64 0) := (blk_cell BK625.out 1).trans rfl; have hcz41_2 : w38.cell? ⟨gb625, 2, none⟩ = some (.slice none 0 0) := (blk_cell BK625.out 2).trans rfl; have hfz41_0 := blk_frozen BK625.out 0; have hfz41_1 := blk_frozen BK625.out 1; have hfz41_2 := blk_frozen BK625.out 2; obtain ⟨Ao42, co42, eo42⟩ := Kd.R_slice HO623.out; subst eo42) | ((with_reducible refine gate_dst (N := 9) rfl ?_); refine box_event ?hg (N := 9) ?hd (cs := #[.slice none 0 0, .int .i64 0, .slice none 0 0]) (t := 48) ?hr ?_; (case hd => rfl); (case hg => rfl); (case hr => first | (go_simp; done) | (go_simp; rfl)); intro gb627 hg w43 hbox hb; have n0_ := Aside0.mk (Kd.R_below (by (with_reducible repeat (first | apply Kd.R_alloc | apply Kd.R_drewN | apply Kd.R_drew)); exact (Kd.R_mono (Kd.R_far (p := ⟨gb625, 2, none⟩) (Kd.R_far (p := ⟨gb625, 1, none⟩) (Kd.R_far (p := ⟨gb625, 0, none⟩) (Kd.R_types HO619.out BK625.out (by decide)) (fun _ hk => hk.2) (.slice Ao39 t617.length co39)) (fun _ hk => hk.2) (.int .i64 t620)) (fun _ hk => hk.2) (.slice Ao42 t621.length co42)) (fun _ h_ => h_.1))) hb); have n1_ := Aside0.mk (Kd.R_below (by (with_reducible repeat (first | apply Kd.R_alloc | apply Kd.R_drewN | apply Kd.R_drew)); exact (Kd.R_mono (Kd.R_far (p := ⟨gb625, 2, none⟩) (Kd.R_far (p := ⟨gb625, 1, none⟩) (Kd.R_far (p := ⟨gb625, 0, none⟩) (Kd.R_types HO623.out BK625.out (by decide)) (fun _ hk => hk.2) (.slice Ao39 t617.length co39)) (fun _ hk => hk.2) (.int .i64 t620)) (fun _ hk => hk.2) (.slice Ao42 t621.length co42)) (fun _ h_ => h_.1))) hb); have n2_ := Aside0.mk (blk_below (g := gb614) (o := .cells #[.string a0_0, .int .i64 a0_1, .int .i64 a0_2, .int .i64 a0_3, .int .i64 a0_4, .int .i64 a0_5, .slice A0_6 l0_6.length c0_6] 41 (0, 0)) (by (with_reducible repeat (first | refine blk_drewN ?_ _ | refine blk_drew ?_ | refine blk_alloc ?_ _)); refine blk_far ?_ NB614_625.out _; (with_reducible repeat (first | refine blk_drewN ?_ _ | refine blk_drew ?_ | refine blk_alloc ?_ _)); refine blk_far ?_ NB614_625.out _; (with_reducible repeat (first | refine blk_drewN ?_ _ | refine blk_drew ?_ | refine blk_alloc ?_ _)); refine blk_far ?_ NB614_625.out _; (with_reducible repeat (first | refine blk_drewN ?_ _ | refine blk_drew ?_ | refine blk_alloc ?_ _)); exact BK614.out) hb); have n3_ := Aside0.mk (blk_below (g := gb625) (o := .cells #[.slice Ao39 t617.length co39, .int .i64 t620, .slice Ao42 t621.length co42] 48 (0, 0)) (by (with_reducible repeat (first | refine blk_drewN ?_ _ | refine blk_drew ?_ | refine blk_alloc ?_ _)); refine blk_put (cs := #[.slice Ao39 t617.length co39, .int .i64 t620, .slice none 0 0]) ?_ 2 _ rfl; (with_reducible repeat (first | refine blk_drewN ?_ _ | refine blk_drew ?_ | refine blk_alloc ?_ _)); refine blk_put (cs := #[.slice Ao39 t617.length co39, .int .i64 0, .slice none 0 0]) ?_ 1 _ rfl; (with_reducible repeat (first | refine blk_drewN ?_ _ | refine blk_drew ?_ | refine blk_alloc ?_ _)); refine blk_put (cs := #[.slice none 0 0, .int .i64 0, .slice none 0 0]) ?_ 0 _ rfl; (with_reducible repeat (first | refine blk_drewN ?_ _ | refine blk_drew ?_ | refine blk_alloc ?_ _)); exact BK625.out) hb); have n4_ := Aside0.mk (below_step (by repeat (first | (with_reducible first | exact HB.out | apply below_alloc | apply pw_below_drewN | apply below_drew1 | refine below_set ?_ GE614.out | refine below_set ?_ GE625.out) | exact HB.out)) hb); have n5_ := Aside0.mk (hbox); have n6_ := Aside0.mk ((by rw [hg]; exact (below_size (by repeat (first | (with_reducible first | exact HB.out | apply below_alloc | apply pw_below_drewN | apply below_drew1 | refine below_set ?_ GE614.out | refine below_set ?_ GE625.out) | exact HB.out))) : w.heap.size ≤ gb627)); have n7_ := Aside0.mk ((by rw [hg]; exact (below_size (by repeat (first | (with_reducible first | exact HB.out | apply below_alloc | apply pw_below_drewN | apply below_drew1 | refine below_set ?_ GE614.out | refine below_set ?_ GE625.out) | exact HB.out))) : w.heap.size ≤ gb627)); have n8_ := Aside0.mk ((by rw [hg]; exact Nat.ne_of_lt (blk_lt (g := gb614) (o := .cells #[.string a0_0, .int .i64 a0_1, .int .i64 a0_2, .int .i64 a0_3, .int .i64 a0_4, .int .i64 a0_5, .slice A0_6 l0_6.length c0_6] 41 (0, 0)) (by (with_reducible repeat (first | refine blk_drewN ?_ _ | refine blk_drew ?_ | refine blk_alloc ?_ _)); refine blk_far ?_ NB614_625.out _; (with_reducible repeat (first | refine blk_drewN ?_ _ | refine blk_drew ?_ | refine blk_alloc ?_ _)); refine blk_far ?_ NB614_625.out _; (with_reducible repeat (first | refine blk_drewN ?_ _ | refine blk_drew ?_ | refine blk_alloc ?_ _)); refine blk_far ?_ NB614_625.out _; (with_reducible repeat (first | refine blk_drewN ?_ _ | refine blk_drew ?_ | refine blk_alloc ?_ _)); exact BK614.out)) : gb614 ≠ gb627)); have n9_ := Aside0.mk ((by rw [hg]; exact Nat.ne_of_gt (blk_lt (g := gb614) (o := .cells #[.string a0_0, .int .i64 a0_1, .int .i64 a0_2, .int .i64 a0_3, .int .i64 a0_4, .int .i64 a0_5, .slice A0_6 l0_6.length c0_6] 41 (0, 0)) (by (with_reducible repeat (first | refine blk_drewN ?_ _ | refine blk_drew ?_ | refine blk_alloc ?_ _)); refine blk_far ?_ NB614_625.out _; (with_reducible repeat (first | refine blk_drewN ?_ _ | refine blk_drew ?_ | refine blk_alloc ?_ _)); refine blk_far ?_ NB614_625.out _; (with_reducible repeat (first | refine blk_drewN ?_ _ | refine blk_drew ?_ | refine blk_alloc ?_ _)); refine blk_far ?_ NB614_625.out _; (with_reducible repeat (first | refine blk_drewN ?_ _ | refine blk_drew ?_ | refine blk_alloc ?_ _)); exact BK614.out)) : gb627 ≠ gb614)); have n10_ := Aside0.mk ((by rw [hg]; exact Nat.ne_of_lt (blk_lt (g := gb625) (o := .cells #[.slice Ao39 t617.length co39, .int .i64 t620, .slice Ao42 t621.length co42] 48 (0, 0)) (by (with_reducible repeat (first | refine blk_drewN ?_ _ | refine blk_drew ?_ | refine blk_alloc ?_ _)); refine blk_put (cs := #[.slice Ao39 t617.length co39, .int .i64 t620, .slice none 0 0]) ?_ 2 _ rfl; (with_reducible repeat (first | refine blk_drewN ?_ _ | refine blk_drew ?_ | refine blk_alloc ?_ _)); refine blk_put (cs := #[.slice Ao39 t617.length co39, .int .i64 0, .slice none 0 0]) ?_ 1 _ rfl; (with_reducible repeat (first | refine blk_drewN ?_ _ | refine blk_drew ?_ | refine blk_alloc ?_ _)); refine blk_put (cs := #[.slice none 0 0, .int .i64 0, .slice none 0 0]) ?_ 0 _ rfl; (with_reducible repeat (first | refine blk_drewN ?_ _ | refine blk_drew ?_ | refine blk_alloc ?_ _)); exact BK625.out)) : gb625 ≠ gb627)); have n11_ := Aside0.mk ((by rw [hg]; exact Nat.ne_of_gt (blk_lt (g := gb625) (o := .cells #[.slice Ao39 t617.length co39, .int .i64 t620, .slice Ao42 t621.length co42] 48 (0, 0)) (by (with_reducible repeat (first | refine blk_drewN ?_ _ | refine blk_drew ?_ | refine blk_alloc ?_ _)); refine blk_put (cs := #[.slice Ao39 t617.length co39, .int .i64 t620, .slice none 0 0]) ?_ 2 _ rfl; (with_reducible repeat (first | refine blk_drewN ?_ _ | refine blk_drew ?_ | refine blk_alloc ?_ _)); refine blk_put (cs := #[.slice Ao39 t617.length co39, .int .i64 0, .slice none 0 0]) ?_ 1 _ rfl; (with_reducible repeat (first | refine blk_drewN ?_ _ | refine blk_drew ?_ | refine blk_alloc ?_ _)); refine blk_put (cs := #[.slice none 0 0, .int .i64 0, .slice none 0 0]) ?_ 0 _ rfl; (with_reducible repeat (first | refine blk_drewN ?_ _ | refine blk_drew ?_ | refine blk_alloc ?_ _)); exact BK625.out)) : gb627 ≠ gb625)); clear HO619; clear HO623; clear BK614; clear BK625; clear HB; have HO619 := n0_; have HO623 := n1_; have BK614 := n2_; have BK625 := n3_; have HB := n4_; have BK627 := n5_; have GW627 := n6_; have GE627 := n7_; have NB614_627 := n8_; have NB627_614 := n9_; have NB625_627 := n10_; have NB627_625 := n11_; clear n0_ n1_ n2_ n3_ n4_ n5_ n6_ n7_ n8_ n9_ n10_ n11_; clear hb hbox hg; have hnb44 := NB627_614.out; have hnc44 := NB614_627.out; have hnb45 := NB627_625.out; have hnc45 := NB625_627.out; have hcz46_0 : w43.cell? ⟨gb627, 0, none⟩ = some (.slice none 0 0) := (blk_cell BK627.out 0).trans rfl; have hcz46_1 : w43.cell? ⟨gb627, 1, none⟩ = some (.int .i64 0) := (blk_cell BK627.out 1).trans rfl; have hcz46_2 : w43.cell? ⟨gb627, 2, none⟩ = some (.slice none 0 0) := (blk_cell BK627.out 2).trans rfl; have hfz46_0 := blk_frozen BK627.out 0; have hfz46_1 := blk_frozen BK627.out 1; have hfz46_2 := blk_frozen BK627.out 2))
          have n0_ : Aside0 (Kd.R k57 57 ((((w43.setCell ⟨gb627, 0, none⟩ (.slice Ao39 t617.length co39)).setCell ⟨gb627, 1, none⟩ (.int .i64 t620)).setCell ⟨gb627, 2, none⟩ (.slice Ao42 t621.length co42)).setCell ⟨gb627, 1, none⟩ (.int .i64 a2)) w.heap.size (fun _ => True) (.slice Ao39 t617.length co39) t617) := ⟨by (with_reducible repeat (first | apply Kd.R_alloc | apply Kd.R_drewN | apply Kd.R_drew)); exact Kd.R_mono (Kd.R_far (p := ⟨gb627, 1, none⟩) (Kd.R_far (p := ⟨gb627, 2, none⟩) (Kd.R_far (p := ⟨gb627, 1, none⟩) (Kd.R_far (p := ⟨gb627, 0, none⟩) (Kd.R_types HO619.out BK627.out (by decide)) (fun _ hk => hk.2) (.slice Ao39 t617.length co39)) (fun _ hk => hk.2) (.int .i64 t620)) (fun _ hk => hk.2) (.slice Ao42 t621.length co42)) (fun _ hk => hk.2) (.int .i64 a2)) (fun _ hk => trivial)⟩
          have n1_ : Aside0 (Kd.R Kd.bool 4 ((((w43.setCell ⟨gb627, 0, none⟩ (.slice Ao39 t617.length co39)).setCell ⟨gb627, 1, none⟩ (.int .i64 t620)).setCell ⟨gb627, 2, none⟩ (.slice Ao42 t621.length co42)).setCell ⟨gb627, 1, none⟩ (.int .i64 a2)) w.heap.size (fun _ => True) (.slice Ao42 t621.length co42) t621) := ⟨by (with_reducible repeat (first | apply Kd.R_alloc | apply Kd.R_drewN | apply Kd.R_drew)); exact Kd.R_mono (Kd.R_far (p := ⟨gb627, 1, none⟩) (Kd.R_far (p := ⟨gb627, 2, none⟩) (Kd.R_far (p := ⟨gb627, 1, none⟩) (Kd.R_far (p := ⟨gb627, 0, none⟩) (Kd.R_types HO623.out BK627.out (by decide)) (fun _ hk => hk.2) (.slice Ao39 t617.length co39)) (fun _ hk => hk.2) (.int .i64 t620)) (fun _ hk => hk.2) (.slice Ao42 t621.length co42)) (fun _ hk => hk.2) (.int .i64 a2)) (fun _ hk => trivial)⟩
          have n2_ : Aside0 (((((w43.setCell ⟨gb627, 0, none⟩ (.slice Ao39 t617.length co39)).setCell ⟨gb627, 1, none⟩ (.int .i64 t620)).setCell ⟨gb627, 2, none⟩ (.slice Ao42 t621.length co42)).setCell ⟨gb627, 1, none⟩ (.int .i64 a2)).heap[gb614]? = some (.cells #[.string a0_0, .int .i64 a0_1, .int .i64 a0_2, .int .i64 a0_3, .int .i64 a0_4, .int .i64 a0_5, .slice A0_6 l0_6.length c0_6] 41 (0, 0))) := ⟨by (with_reducible repeat (first | refine blk_drewN ?_ _ | refine blk_drew ?_ | refine blk_alloc ?_ _)); refine blk_far ?_ NB614_627.out _; (with_reducible repeat (first | refine blk_drewN ?_ _ | refine blk_drew ?_ | refine blk_alloc ?_ _)); refine blk_far ?_ NB614_627.out _; (with_reducible repeat (first | refine blk_drewN ?_ _ | refine blk_drew ?_ | refine blk_alloc ?_ _)); refine blk_far ?_ NB614_627.out _; (with_reducible repeat (first | refine blk_drewN ?_ _ | refine blk_drew ?_ | refine blk_alloc ?_ _)); refine blk_far ?_ NB614_627.out _; (with_reducible repeat (first | refine blk_drewN ?_ _ | refine blk_drew ?_ | refine blk_alloc ?_ _)); exact BK614.out⟩
          have n3_ : Aside0 (((((w43.setCell ⟨gb627, 0, none⟩ (.slice Ao39 t617.length co39)).setCell ⟨gb627, 1, none⟩ (.int .i64 t620)).setCell ⟨gb627, 2, none⟩ (.slice Ao42 t621.length co42)).setCell ⟨gb627, 1, none⟩ (.int .i64 a2)).heap[gb625]? = some (.cells #[.slice Ao39 t617.length co39, .int .i64 t620, .slice Ao42 t621.length co42] 48 (0, 0))) := ⟨by (with_reducible repeat (first | refine blk_drewN ?_ _ | refine blk_drew ?_ | refine blk_alloc ?_ _)); refine blk_far ?_ NB625_627.out _; (with_reducible repeat (first | refine blk_drewN ?_ _ | refine blk_drew ?_ | refine blk_alloc ?_ _)); refine blk_far ?_ NB625_627.out _; (with_reducible repeat (first | refine blk_drewN ?_ _ | refine blk_drew ?_ | refine blk_alloc ?_ _)); refine blk_far ?_ NB625_627.out _; (with_reducible repeat (first | refine blk_drewN ?_ _ | refine blk_drew ?_ | refine blk_alloc ?_ _)); refine blk_far ?_ NB625_627.out _; (with_reducible repeat (first | refine blk_drewN ?_ _ | refine blk_drew ?_ | refine blk_alloc ?_ _)); exact BK625.out⟩
          have n4_ : Aside0 (((((w43.setCell ⟨gb627, 0, none⟩ (.slice Ao39 t617.length co39)).setCell ⟨gb627, 1, none⟩ (.int .i64 t620)).setCell ⟨gb627, 2, none⟩ (.slice Ao42 t621.length co42)).setCell ⟨gb627, 1, none⟩ (.int .i64 a2)).heap[gb627]? = some (.cells #[.slice Ao39 t617.length co39, .int .i64 a2, .slice Ao42 t621.length co42] 48 (0, 0))) := ⟨by (with_reducible repeat (first | refine blk_drewN ?_ _ | refine blk_drew ?_ | refine blk_alloc ?_ _)); refine blk_put (cs := #[.slice Ao39 t617.length co39, .int .i64 t620, .slice Ao42 t621.length co42]) ?_ 1 _ rfl; (with_reducible repeat (first | refine blk_drewN ?_ _ | refine blk_drew ?_ | refine blk_alloc ?_ _)); refine blk_put (cs := #[.slice Ao39 t617.length co39, .int .i64 t620, .slice none 0 0]) ?_ 2 _ rfl; (with_reducible repeat (first | refine blk_drewN ?_ _ | refine blk_drew ?_ | refine blk_alloc ?_ _)); refine blk_put (cs := #[.slice Ao39 t617.length co39, .int .i64 0, .slice none 0 0]) ?_ 1 _ rfl; (with_reducible repeat (first | refine blk_drewN ?_ _ | refine blk_drew ?_ | refine blk_alloc ?_ _)); refine blk_put (cs := #[.slice none 0 0, .int .i64 0, .slice none 0 0]) ?_ 0 _ rfl; (with_reducible repeat (first | refine blk_drewN ?_ _ | refine blk_drew ?_ | refine blk_alloc ?_ _)); exact BK627.out⟩
          have n5_ : Aside0 (Below w.heap.size w ((((w43.setCell ⟨gb627, 0, none⟩ (.slice Ao39 t617.length co39)).setCell ⟨gb627, 1, none⟩ (.int .i64 t620)).setCell ⟨gb627, 2, none⟩ (.slice Ao42 t621.length co42)).setCell ⟨gb627, 1, none⟩ (.int .i64 a2))) := ⟨by repeat (first | (with_reducible first | exact HB.out | apply below_alloc | apply pw_below_drewN | apply below_drew1 | refine below_set ?_ GE614.out | refine below_set ?_ GE625.out | refine below_set ?_ GE627.out) | exact HB.out)⟩
          (try clear HO619)
          (try clear HO623)
          (try clear BK614)
          (try clear BK625)
          (try clear BK627)
          (try clear HB)
          generalize ((((w43.setCell ⟨gb627, 0, none⟩ (.slice Ao39 t617.length co39)).setCell ⟨gb627, 1, none⟩ (.int .i64 t620)).setCell ⟨gb627, 2, none⟩ (.slice Ao42 t621.length co42)).setCell ⟨gb627, 1, none⟩ (.int .i64 a2)) = w47 at n0_ n1_ n2_ n3_ n4_ n5_ ⊢
          have HO619 := n0_
          have HO623 := n1_
          have BK614 := n2_
          have BK625 := n3_
          have BK627 := n4_
          have HB := n5_
          clear n0_ n1_ n2_ n3_ n4_ n5_
          have n0_ := Aside0.mk (Kd.R_drew HO619.out)
          have n1_ := Aside0.mk (Kd.R_drew HO623.out)
          have n2_ := Aside0.mk (blk_drew BK614.out)
          have n3_ := Aside0.mk (blk_drew BK625.out)
          have n4_ := Aside0.mk (blk_drew BK627.out)
          have n5_ := Aside0.mk (below_drew1 HB.out)
          clear HO619
          clear HO623
          clear BK614
          clear BK625
          clear BK627
          clear HB
          have HO619 := n0_
          have HO623 := n1_
          have BK614 := n2_
          have BK625 := n3_
          have BK627 := n4_
          have HB := n5_
          clear n0_ n1_ n2_ n3_ n4_ n5_
          refine start_ (n := 18) (S := fun w' => w'.cell? ⟨gb614, 0, none⟩ = some (.string a0_0) ∧ w'.cell? ⟨gb614, 1, none⟩ = some (.int .i64 a0_1) ∧ w'.cell? ⟨gb614, 2, none⟩ = some (.int .i64 a0_2) ∧ w'.cell? ⟨gb614, 3, none⟩ = some (.int .i64 a0_3) ∧ w'.cell? ⟨gb614, 4, none⟩ = some (.int .i64 a0_4) ∧ w'.cell? ⟨gb614, 5, none⟩ = some (.int .i64 a0_5) ∧ w'.cell? ⟨gb614, 6, none⟩ = some (.slice A0_6 l0_6.length c0_6) ∧ w'.cell? ⟨gb625, 0, none⟩ = some (.slice Ao39 t617.length co39) ∧ w'.cell? ⟨gb625, 1, none⟩ = some (.int .i64 t620) ∧ w'.cell? ⟨gb625, 2, none⟩ = some (.slice Ao42 t621.length co42)) (ds := []) #[false, false, false, false, false, false, false, false, false, false, false, false, false, false, false, false, false, false] (by kernel_rfl) rfl rfl ⟨(blk_cell BK614.out 0).trans rfl, (blk_cell BK614.out 1).trans rfl, (blk_cell BK614.out 2).trans rfl, (blk_cell BK614.out 3).trans rfl, (blk_cell BK614.out 4).trans rfl, (blk_cell BK614.out 5).trans rfl, (blk_cell BK614.out 6).trans rfl, (blk_cell BK625.out 0).trans rfl, (blk_cell BK625.out 1).trans rfl, (blk_cell BK625.out 2).trans rfl⟩ (fun hHeld => ?_); refine with_tabW sizarlaw20_ProofAccepts.tab10 sizarlaw20_ProofAccepts.bits10 (fun HT_ HW_ => ?_)
          generalize w47.drew = w48 at HO619 HO623 BK614 BK625 BK627 HB hHeld ⊢
          refine pure_ (i := 1) (N := some 33) (v := ?_) (a' := ?_) #[false, true, false, false, false, false, false, false, false, false, false, false, false, false, false, false, false, false] rfl rfl (any_of HT_.out (by kernel_rfl)) (fun _ _ _ h => h) (Or.inl ⟨by rfl, ?_⟩) ?_ ?_
          rotate_left
          · intro w'
            go_simp
            with_reducible rfl
          rotate_left
          · simp only [Act.put, List.setIfInBounds_toArray, List.set_cons_zero, List.set_cons_succ, i64_w, i32_w]
            rfl
          refine take_ (i := 0) (N := some 32) (v := ?_) (a' := ?_) #[true, true, false, false, false, false, false, false, false, false, false, false, false, false, false, false, false, false] rfl rfl (take_ofW HT_.out HW_.out (by kernel_rfl)) (fun _ _ _ h => h) (Or.inl ⟨by rfl, ?_⟩) hHeld ?_ ?_
          rotate_left
          · rintro w' ⟨s0, s1, s2, s3, s4, s5, s6, s7, s8, s9⟩
            go_simp
            with_reducible rfl
          rotate_left
          · simp only [Act.put, List.setIfInBounds_toArray, List.set_cons_zero, List.set_cons_succ, i64_w, i32_w]
            rfl
          refine take_ (i := 2) (N := some 34) (v := ?_) (a' := ?_) #[true, true, true, false, false, false, false, false, false, false, false, false, false, false, false, false, false, false] rfl rfl (take_ofW HT_.out HW_.out (by kernel_rfl)) (fun _ _ _ h => h) (Or.inl ⟨by rfl, ?_⟩) hHeld ?_ ?_
          rotate_left
          · rintro w' ⟨s0, s1, s2, s3, s4, s5, s6, s7, s8, s9⟩
            go_simp
            with_reducible rfl
          rotate_left
          · simp only [Act.put, List.setIfInBounds_toArray, List.set_cons_zero, List.set_cons_succ, i64_w, i32_w]
            rfl
          refine one_ (i := 3) (N := some 35) #[true, true, true, true, false, false, false, false, false, false, false, false, false, false, false, false, false, false] rfl rfl (one_of HT_.out (by kernel_rfl)) (by decide) (fun K hK => ?_)
          refine goes_ Try.func35 (by kernel_rfl) rfl #[.agg #[.string a0_0, .int .i64 a0_1, .int .i64 a0_2, .int .i64 a0_3, .int .i64 a0_4, .int .i64 a0_5, .slice A0_6 l0_6.length c0_6], .slice A1 l1.length c1, .agg #[.slice Ao39 t617.length co39, .int .i64 t620, .slice Ao42 t621.length co42]] (by rfl) rfl rfl (by (try simp only [List.map_toArray, List.map_cons, List.map_nil]); first | done | rfl | (simp only [List.length_drop, List.length_take]; rfl)) ?_
          with_reducible refine (proof_Check.calls k a0_0 a0_1 a0_2 a0_3 a0_4 a0_5 _ _ l0_6 _ _ l1 _ _ t617 t620 _ _ t621 t628 _ ?side1 ?side2 ?side3 ?side4 ?side5 ?side6 ?side7 ?side8 A10.out).mono ?_
          (case side1 => repeat (first | exact (Kd.C_below HR0_6.out HB.out) | (with_reducible refine Kd.C_alloc ?_ _) | (with_reducible refine Kd.C_drewN ?_ _) | (with_reducible refine Kd.C_drew ?_)))
          (case side2 => exact HC0_6.out)
          (case side3 => repeat (first | exact (Kd.C_below HR1.out HB.out) | (with_reducible refine Kd.C_alloc ?_ _) | (with_reducible refine Kd.C_drewN ?_ _) | (with_reducible refine Kd.C_drew ?_)))
          (case side4 => exact HC1.out)
          (case side5 => repeat (first | exact (Kd.R_reads' HO619.out).2.2 | (with_reducible refine Kd.C_alloc ?_ _) | (with_reducible refine Kd.C_drewN ?_ _) | (with_reducible refine Kd.C_drew ?_)))
          (case side6 => exact (Kd.R_reads' HO619.out).2.1)
          (case side7 => repeat (first | exact (Kd.R_reads' HO623.out).2.2 | (with_reducible refine Kd.C_alloc ?_ _) | (with_reducible refine Kd.C_drewN ?_ _) | (with_reducible refine Kd.C_drew ?_)))
          (case side8 => exact (Kd.R_reads' HO623.out).2.1)
          rintro e w49 ⟨rfl, hb⟩
          refine ⟨_, rfl, ?_⟩
          have n0_ := Aside0.mk (Kd.R_below (by (with_reducible repeat (first | apply Kd.R_alloc | apply Kd.R_drewN | apply Kd.R_drew)); exact HO619.out) hb)
          have n1_ := Aside0.mk (Kd.R_below (by (with_reducible repeat (first | apply Kd.R_alloc | apply Kd.R_drewN | apply Kd.R_drew)); exact HO623.out) hb)
          have n2_ := Aside0.mk (blk_below (g := gb614) (o := .cells #[.string a0_0, .int .i64 a0_1, .int .i64 a0_2, .int .i64 a0_3, .int .i64 a0_4, .int .i64 a0_5, .slice A0_6 l0_6.length c0_6] 41 (0, 0)) (by (with_reducible repeat (first | refine blk_drewN ?_ _ | refine blk_drew ?_ | refine blk_alloc ?_ _)); exact BK614.out) hb)
          have n3_ := Aside0.mk (blk_below (g := gb625) (o := .cells #[.slice Ao39 t617.length co39, .int .i64 t620, .slice Ao42 t621.length co42] 48 (0, 0)) (by (with_reducible repeat (first | refine blk_drewN ?_ _ | refine blk_drew ?_ | refine blk_alloc ?_ _)); exact BK625.out) hb)
          have n4_ := Aside0.mk (blk_below (g := gb627) (o := .cells #[.slice Ao39 t617.length co39, .int .i64 a2, .slice Ao42 t621.length co42] 48 (0, 0)) (by (with_reducible repeat (first | refine blk_drewN ?_ _ | refine blk_drew ?_ | refine blk_alloc ?_ _)); exact BK627.out) hb)
          have n5_ := Aside0.mk (below_step (by repeat (first | (with_reducible first | exact HB.out | apply below_alloc | apply pw_below_drewN | apply below_drew1 | refine below_set ?_ GE614.out | refine below_set ?_ GE625.out | refine below_set ?_ GE627.out) | exact HB.out)) hb)
          clear HO619
          clear HO623
          clear BK614
          clear BK625
          clear BK627
          clear HB
          have HO619 := n0_
          have HO623 := n1_
          have BK614 := n2_
          have BK625 := n3_
          have BK627 := n4_
          have HB := n5_
          clear n0_ n1_ n2_ n3_ n4_ n5_
          (try clear hb)
          (try clear hb2)
          (try clear hk)
          (try clear hi)
          refine hK.out _ _ ⟨(blk_cell BK614.out 0).trans rfl, (blk_cell BK614.out 1).trans rfl, (blk_cell BK614.out 2).trans rfl, (blk_cell BK614.out 3).trans rfl, (blk_cell BK614.out 4).trans rfl, (blk_cell BK614.out 5).trans rfl, (blk_cell BK614.out 6).trans rfl, (blk_cell BK625.out 0).trans rfl, (blk_cell BK625.out 1).trans rfl, (blk_cell BK625.out 2).trans rfl⟩ (fun hHeld => ?_)
          clear hK K
          refine norm_ (a' := ?_) ?_ ?_
          rotate_left
          · show Act.put _ (some 35) _ = _
            simp only [Act.put, List.setIfInBounds_toArray, List.set_cons_zero, List.set_cons_succ, i64_w, i32_w]
            rfl
          refine pure_ (i := 4) (N := some 36) (v := ?_) (a' := ?_) #[true, true, true, true, true, false, false, false, false, false, false, false, false, false, false, false, false, false] rfl rfl (any_of HT_.out (by kernel_rfl)) (fun _ _ _ h => h) (Or.inl ⟨by rfl, ?_⟩) ?_ ?_
          rotate_left
          · intro w'
            go_simp
            with_reducible rfl
          rotate_left
          · simp only [Act.put, List.setIfInBounds_toArray, List.set_cons_zero, List.set_cons_succ, i64_w, i32_w]
            rfl
          refine pure_ (i := 5) (N := some 37) (v := ?_) (a' := ?_) #[true, true, true, true, true, true, false, false, false, false, false, false, false, false, false, false, false, false] rfl rfl (any_of HT_.out (by kernel_rfl)) (fun _ _ _ h => h) (Or.inl ⟨by rfl, ?_⟩) ?_ ?_
          rotate_left
          · intro w'
            go_simp
            with_reducible rfl
          rotate_left
          · simp only [Act.put, List.setIfInBounds_toArray, List.set_cons_zero, List.set_cons_succ, i64_w, i32_w]
            rfl
          refine pure_ (i := 6) (N := some 38) (v := undef) (a' := ?_) #[true, true, true, true, true, true, true, false, false, false, false, false, false, false, false, false, false, false] rfl rfl (any_of HT_.out (by kernel_rfl)) (fun _ _ _ h => h) (Or.inr ⟨by rfl, rfl⟩) ?_ ?_
          rotate_left
          · simp only [Act.put, List.setIfInBounds_toArray, List.set_cons_zero, List.set_cons_succ, i64_w, i32_w]
            rfl
          refine pure_ (i := 7) (N := some 39) (v := undef) (a' := ?_) #[true, true, true, true, true, true, true, true, false, false, false, false, false, false, false, false, false, false] rfl rfl (any_of HT_.out (by kernel_rfl)) (fun _ _ _ h => h) (Or.inr ⟨by rfl, rfl⟩) ?_ ?_
          rotate_left
          · simp only [Act.put, List.setIfInBounds_toArray, List.set_cons_zero, List.set_cons_succ, i64_w, i32_w]
            rfl
          refine pure_ (i := 8) (N := some 40) (v := undef) (a' := ?_) #[true, true, true, true, true, true, true, true, true, false, false, false, false, false, false, false, false, false] rfl rfl (any_of HT_.out (by kernel_rfl)) (fun _ _ _ h => h) (Or.inr ⟨by rfl, rfl⟩) ?_ ?_
          rotate_left
          · simp only [Act.put, List.setIfInBounds_toArray, List.set_cons_zero, List.set_cons_succ, i64_w, i32_w]
            rfl
          refine pure_ (i := 9) (N := some 41) (v := undef) (a' := ?_) #[true, true, true, true, true, true, true, true, true, true, false, false, false, false, false, false, false, false] rfl rfl (any_of HT_.out (by kernel_rfl)) (fun _ _ _ h => h) (Or.inr ⟨by rfl, rfl⟩) ?_ ?_
          rotate_left
          · simp only [Act.put, List.setIfInBounds_toArray, List.set_cons_zero, List.set_cons_succ, i64_w, i32_w]
            rfl
          refine pure_ (i := 10) (N := some 42) (v := undef) (a' := ?_) #[true, true, true, true, true, true, true, true, true, true, true, false, false, false, false, false, false, false] rfl rfl (any_of HT_.out (by kernel_rfl)) (fun _ _ _ h => h) (Or.inr ⟨by rfl, rfl⟩) ?_ ?_
          rotate_left
          · simp only [Act.put, List.setIfInBounds_toArray, List.set_cons_zero, List.set_cons_succ, i64_w, i32_w]
            rfl
          refine pure_ (i := 11) (N := some 43) (v := undef) (a' := ?_) #[true, true, true, true, true, true, true, true, true, true, true, true, false, false, false, false, false, false] rfl rfl (any_of HT_.out (by kernel_rfl)) (fun _ _ _ h => h) (Or.inr ⟨by rfl, rfl⟩) ?_ ?_
          rotate_left
          · simp only [Act.put, List.setIfInBounds_toArray, List.set_cons_zero, List.set_cons_succ, i64_w, i32_w]
            rfl
          refine pure_ (i := 12) (N := some 44) (v := undef) (a' := ?_) #[true, true, true, true, true, true, true, true, true, true, true, true, true, false, false, false, false, false] rfl rfl (any_of HT_.out (by kernel_rfl)) (fun _ _ _ h => h) (Or.inr ⟨by rfl, rfl⟩) ?_ ?_
          rotate_left
          · simp only [Act.put, List.setIfInBounds_toArray, List.set_cons_zero, List.set_cons_succ, i64_w, i32_w]
            rfl
          refine pure_ (i := 13) (N := some 45) (v := undef) (a' := ?_) #[true, true, true, true, true, true, true, true, true, true, true, true, true, true, false, false, false, false] rfl rfl (any_of HT_.out (by kernel_rfl)) (fun _ _ _ h => h) (Or.inr ⟨by rfl, rfl⟩) ?_ ?_
          rotate_left
          · simp only [Act.put, List.setIfInBounds_toArray, List.set_cons_zero, List.set_cons_succ, i64_w, i32_w]
            rfl
          refine pure_ (i := 14) (N := some 46) (v := undef) (a' := ?_) #[true, true, true, true, true, true, true, true, true, true, true, true, true, true, true, false, false, false] rfl rfl (any_of HT_.out (by kernel_rfl)) (fun _ _ _ h => h) (Or.inr ⟨by rfl, rfl⟩) ?_ ?_
          rotate_left
          · simp only [Act.put, List.setIfInBounds_toArray, List.set_cons_zero, List.set_cons_succ, i64_w, i32_w]
            rfl
          refine pure_ (i := 15) (N := some 47) (v := undef) (a' := ?_) #[true, true, true, true, true, true, true, true, true, true, true, true, true, true, true, true, false, false] rfl rfl (any_of HT_.out (by kernel_rfl)) (fun _ _ _ h => h) (Or.inr ⟨by rfl, rfl⟩) ?_ ?_
          rotate_left
          · simp only [Act.put, List.setIfInBounds_toArray, List.set_cons_zero, List.set_cons_succ, i64_w, i32_w]
            rfl
          refine pure_ (i := 16) (N := some 48) (v := ?_) (a' := ?_) #[true, true, true, true, true, true, true, true, true, true, true, true, true, true, true, true, true, false] rfl rfl (any_of HT_.out (by kernel_rfl)) (fun _ _ _ h => h) (Or.inl ⟨by rfl, ?_⟩) ?_ ?_
          rotate_left
          · intro w'
            go_simp
            with_reducible rfl
          rotate_left
          · simp only [Act.put, List.setIfInBounds_toArray, List.set_cons_zero, List.set_cons_succ, i64_w, i32_w]
            rfl
          refine pure_ (i := 17) (N := some 6) (v := ?_) (a' := ?_) #[true, true, true, true, true, true, true, true, true, true, true, true, true, true, true, true, true, true] rfl rfl (any_of HT_.out (by kernel_rfl)) (fun _ _ _ h => h) (Or.inl ⟨by rfl, ?_⟩) ?_ ?_
          rotate_left
          · intro w'
            go_simp
            with_reducible rfl
          rotate_left
          · simp only [Act.put, List.setIfInBounds_toArray, List.set_cons_zero, List.set_cons_succ, i64_w, i32_w]
            rfl
          refine done_ (done_of HT_.out (by kernel_rfl)) ?_
          try go_wp2
          go_ret
          exact ⟨by first | rfl | (simp [errW_none, errW_some] <;> rfl) | (simp [*, errW_none, errW_some] <;> rfl), by repeat (first | (with_reducible first | exact HB.out | apply below_alloc | apply pw_below_drewN | apply below_drew1 | refine below_set ?_ GE614.out | refine below_set ?_ GE625.out | refine below_set ?_ GE627.out) | exact HB.out)⟩
      · rw [if_neg c9] at H
        have c9b0 : (t624 == 0) = false := beq_eq_false_iff_ne.mpr c9
        have c9b1 : (t624 != 0) = true := bne_iff_ne.mpr c9
        replace H := Option.bind_eq_some_iff.mp H
        obtain ⟨t626, A500, H⟩ := H
        replace H : (some (t626 != 0)) = some r := H
        have A50 := Aside0.mk A500
        clear A500
        obtain rfl := Option.some.inj H
        go_enter Try.func17, Try.ntmps17
        go_wp2_with (first | ((with_reducible refine gate_dst (N := 3) rfl ?_); refine box_event ?hg (N := 3) ?hd (cs := #[.string a0_0, .int .i64 a0_1, .int .i64 a0_2, .int .i64 a0_3, .int .i64 a0_4, .int .i64 a0_5, .slice A0_6 l0_6.length c0_6]) (t := 41) ?hr ?_; (case hd => rfl); (case hg => rfl); (case hr => first | (go_simp; done) | (go_simp; rfl)); intro gb614 hg w51 hbox hb; have n0_ := Aside0.mk (below_step (by repeat (first | (with_reducible first | exact HB.out | apply below_alloc | apply pw_below_drewN | apply below_drew1) | exact HB.out)) hb); have n1_ := Aside0.mk (hbox); have n2_ := Aside0.mk ((by rw [hg]; exact (below_size (by repeat (first | (with_reducible first | exact HB.out | apply below_alloc | apply pw_below_drewN | apply below_drew1) | exact HB.out))) : w.heap.size ≤ gb614)); have n3_ := Aside0.mk ((by rw [hg]; exact (below_size (by repeat (first | (with_reducible first | exact HB.out | apply below_alloc | apply pw_below_drewN | apply below_drew1) | exact HB.out))) : w.heap.size ≤ gb614)); clear HB; have HB := n0_; have BK614 := n1_; have GW614 := n2_; have GE614 := n3_; clear n0_ n1_ n2_ n3_; clear hb hbox hg) | ((with_reducible refine gate_callee (f := 30) rfl ?_); refine goesL_ (some 10) rfl rfl Try.func30 (by kernel_rfl) rfl #[] rfl (by (try simp only [List.map_toArray, List.map_cons, List.map_nil]); first | done | rfl | (simp only [List.length_drop, List.length_take]; rfl)) ?_; (with_reducible refine (sizarlaw20_sane.calls k  true _ A4.out).mono ?_); rintro e w52 ⟨rfl, hb⟩; refine ⟨_, rfl, ?_⟩; have n0_ := Aside0.mk (blk_below (g := gb614) (o := .cells #[.string a0_0, .int .i64 a0_1, .int .i64 a0_2, .int .i64 a0_3, .int .i64 a0_4, .int .i64 a0_5, .slice A0_6 l0_6.length c0_6] 41 (0, 0)) (by (with_reducible repeat (first | refine blk_drewN ?_ _ | refine blk_drew ?_ | refine blk_alloc ?_ _)); exact BK614.out) hb); have n1_ := Aside0.mk (below_step (by repeat (first | (with_reducible first | exact HB.out | apply below_alloc | apply pw_below_drewN | apply below_drew1 | refine below_set ?_ GE614.out) | exact HB.out)) hb); clear BK614; clear HB; have BK614 := n0_; have HB := n1_; clear n0_ n1_; (try clear hb); (try clear hb2); (try clear hk); (try clear hi); have hcz53_0 : w52.cell? ⟨gb614, 0, none⟩ = some (.string a0_0) := (blk_cell BK614.out 0).trans rfl; have hcz53_1 : w52.cell? ⟨gb614, 1, none⟩ = some (.int .i64 a0_1) := (blk_cell BK614.out 1).trans rfl; have hcz53_2 : w52.cell? ⟨gb614, 2, none⟩ = some (.int .i64 a0_2) := (blk_cell BK614.out 2).trans rfl; have hcz53_3 : w52.cell? ⟨gb614, 3, none⟩ = some (.int .i64 a0_3) := (blk_cell BK614.out 3).trans rfl; have hcz53_4 : w52.cell? ⟨gb614, 4, none⟩ = some (.int .i64 a0_4) := (blk_cell BK614.out 4).trans rfl; have hcz53_5 : w52.cell? ⟨gb614, 5, none⟩ = some (.int .i64 a0_5) := (blk_cell BK614.out 5).trans rfl; have hcz53_6 : w52.cell? ⟨gb614, 6, none⟩ = some (.slice A0_6 l0_6.length c0_6) := (blk_cell BK614.out 6).trans rfl; have hfz53_0 := blk_frozen BK614.out 0; have hfz53_1 := blk_frozen BK614.out 1; have hfz53_2 := blk_frozen BK614.out 2; have hfz53_3 := blk_frozen BK614.out 3; have hfz53_4 := blk_frozen BK614.out 4; have hfz53_5 := blk_frozen BK614.out 5; have hfz53_6 := blk_frozen BK614.out 6) | ((with_reducible refine gate_callee (f := 31) rfl ?_); refine goesL_ (some 14) rfl rfl Try.func31 (by kernel_rfl) rfl #[.agg #[.string a0_0, .int .i64 a0_1, .int .i64 a0_2, .int .i64 a0_3, .int .i64 a0_4, .int .i64 a0_5, .slice A0_6 l0_6.length c0_6], .slice A1 l1.length c1] rfl (by (try simp only [List.map_toArray, List.map_cons, List.map_nil]); first | done | rfl | (simp only [List.length_drop, List.length_take]; rfl)) ?_; (with_reducible refine (sizarref20_Few.calls k a0_0 a0_1 a0_2 a0_3 a0_4 a0_5 _ _ l0_6 _ _ l1 true _ ?side1 ?side2 ?side3 ?side4 A6.out).mono ?_); (case side1 => repeat (first | exact (Kd.C_below HR0_6.out HB.out) | (with_reducible refine Kd.C_alloc ?_ _) | (with_reducible refine Kd.C_drewN ?_ _) | (with_reducible refine Kd.C_drew ?_))); (case side2 => exact HC0_6.out); (case side3 => repeat (first | exact (Kd.C_below HR1.out HB.out) | (with_reducible refine Kd.C_alloc ?_ _) | (with_reducible refine Kd.C_drewN ?_ _) | (with_reducible refine Kd.C_drew ?_))); (case side4 => exact HC1.out); rintro e w54 ⟨rfl, hb⟩; refine ⟨_, rfl, ?_⟩; have n0_ := Aside0.mk (blk_below (g := gb614) (o := .cells #[.string a0_0, .int .i64 a0_1, .int .i64 a0_2, .int .i64 a0_3, .int .i64 a0_4, .int .i64 a0_5, .slice A0_6 l0_6.length c0_6] 41 (0, 0)) (by (with_reducible repeat (first | refine blk_drewN ?_ _ | refine blk_drew ?_ | refine blk_alloc ?_ _)); exact BK614.out) hb); have n1_ := Aside0.mk (below_step (by repeat (first | (with_reducible first | exact HB.out | apply below_alloc | apply pw_below_drewN | apply below_drew1 | refine below_set ?_ GE614.out) | exact HB.out)) hb); clear BK614; clear HB; have BK614 := n0_; have HB := n1_; clear n0_ n1_; (try clear hb); (try clear hb2); (try clear hk); (try clear hi); have hcz55_0 : w54.cell? ⟨gb614, 0, none⟩ = some (.string a0_0) := (blk_cell BK614.out 0).trans rfl; have hcz55_1 : w54.cell? ⟨gb614, 1, none⟩ = some (.int .i64 a0_1) := (blk_cell BK614.out 1).trans rfl; have hcz55_2 : w54.cell? ⟨gb614, 2, none⟩ = some (.int .i64 a0_2) := (blk_cell BK614.out 2).trans rfl; have hcz55_3 : w54.cell? ⟨gb614, 3, none⟩ = some (.int .i64 a0_3) := (blk_cell BK614.out 3).trans rfl; have hcz55_4 : w54.cell? ⟨gb614, 4, none⟩ = some (.int .i64 a0_4) := (blk_cell BK614.out 4).trans rfl; have hcz55_5 : w54.cell? ⟨gb614, 5, none⟩ = some (.int .i64 a0_5) := (blk_cell BK614.out 5).trans rfl; have hcz55_6 : w54.cell? ⟨gb614, 6, none⟩ = some (.slice A0_6 l0_6.length c0_6) := (blk_cell BK614.out 6).trans rfl; have hfz55_0 := blk_frozen BK614.out 0; have hfz55_1 := blk_frozen BK614.out 1; have hfz55_2 := blk_frozen BK614.out 2; have hfz55_3 := blk_frozen BK614.out 3; have hfz55_4 := blk_frozen BK614.out 4; have hfz55_5 := blk_frozen BK614.out 5; have hfz55_6 := blk_frozen BK614.out 6) | ((with_reducible refine gate_callee (f := 32) rfl ?_); refine goesL_ (some 19) rfl rfl Try.func32 (by kernel_rfl) rfl #[.agg #[.string a0_0, .int .i64 a0_1, .int .i64 a0_2, .int .i64 a0_3, .int .i64 a0_4, .int .i64 a0_5, .slice A0_6 l0_6.length c0_6], .slice A1 l1.length c1] rfl (by (try simp only [List.map_toArray, List.map_cons, List.map_nil]); first | done | rfl | (simp only [List.length_drop, List.length_take]; rfl)) ?_; (with_reducible refine (degree_Audit.calls k a0_0 a0_1 a0_2 a0_3 a0_4 a0_5 _ _ l0_6 _ _ l1 t617 t620 t621 t624 _ ?side1 ?side2 ?side3 ?side4 A8.out).mono ?_); (case side1 => repeat (first | exact (Kd.C_below HR0_6.out HB.out) | (with_reducible refine Kd.C_alloc ?_ _) | (with_reducible refine Kd.C_drewN ?_ _) | (with_reducible refine Kd.C_drew ?_))); (case side2 => exact HC0_6.out); (case side3 => repeat (first | exact (Kd.C_below HR1.out HB.out) | (with_reducible refine Kd.C_alloc ?_ _) | (with_reducible refine Kd.C_drewN ?_ _) | (with_reducible refine Kd.C_drew ?_))); (case side4 => exact HC1.out); rintro e w56 ⟨v618, v622, rfl, ho0, ho1, hb⟩; refine ⟨_, rfl, ?_⟩; have n0_ := Aside0.mk (Kd.R_lower ho0 (below_size (by repeat (first | (with_reducible first | exact HB.out | apply below_alloc | apply pw_below_drewN | apply below_drew1 | refine below_set ?_ GE614.out) | exact HB.out)))); have n1_ := Aside0.mk (Kd.R_lower ho1 (below_size (by repeat (first | (with_reducible first | exact HB.out | apply below_alloc | apply pw_below_drewN | apply below_drew1 | refine below_set ?_ GE614.out) | exact HB.out)))); have n2_ := Aside0.mk (blk_below (g := gb614) (o := .cells #[.string a0_0, .int .i64 a0_1, .int .i64 a0_2, .int .i64 a0_3, .int .i64 a0_4, .int .i64 a0_5, .slice A0_6 l0_6.length c0_6] 41 (0, 0)) (by (with_reducible repeat (first | refine blk_drewN ?_ _ | refine blk_drew ?_ | refine blk_alloc ?_ _)); exact BK614.out) hb); have n3_ := Aside0.mk (below_step (by repeat (first | (with_reducible first | exact HB.out | apply below_alloc | apply pw_below_drewN | apply below_drew1 | refine below_set ?_ GE614.out) | exact HB.out)) hb); clear BK614; clear HB; have HO619 := n0_; have HO623 := n1_; have BK614 := n2_; have HB := n3_; clear n0_ n1_ n2_ n3_; (try clear hb); (try clear hb2); (try clear hk); (try clear hi); (try clear ho0); (try clear ho1)) | ((with_reducible refine gate_dst (N := 7) rfl ?_); refine box_event ?hg (N := 7) ?hd (cs := #[.slice none 0 0, .int .i64 0, .slice none 0 0]) (t := 48) ?hr ?_; (case hd => rfl); (case hg => rfl); (case hr => first | (go_simp; done) | (go_simp; rfl)); intro gb625 hg w57 hbox hb; have n0_ := Aside0.mk (Kd.R_below (by (with_reducible repeat (first | apply Kd.R_alloc | apply Kd.R_drewN | apply Kd.R_drew)); exact HO619.out) hb); have n1_ := Aside0.mk (Kd.R_below (by (with_reducible repeat (first | apply Kd.R_alloc | apply Kd.R_drewN | apply Kd.R_drew)); exact HO623.out) hb); have n2_ := Aside0.mk (blk_below (g := gb614) (o := .cells #[.string a0_0, .int .i64 a0_1, .int .i64 a0_2, .int .i64 a0_3, .int .i64 a0_4, .int .i64 a0_5, .slice A0_6 l0_6.length c0_6] 41 (0, 0)) (by (with_reducible repeat (first | refine blk_drewN ?_ _ | refine blk_drew ?_ | refine blk_alloc ?_ _)); exact BK614.out) hb); have n3_ := Aside0.mk (below_step (by repeat (first | (with_reducible first | exact HB.out | apply below_alloc | apply pw_below_drewN | apply below_drew1 | refine below_set ?_ GE614.out) | exact HB.out)) hb); have n4_ := Aside0.mk (hbox); have n5_ := Aside0.mk ((by rw [hg]; exact (below_size (by repeat (first | (with_reducible first | exact HB.out | apply below_alloc | apply pw_below_drewN | apply below_drew1 | refine below_set ?_ GE614.out) | exact HB.out))) : w.heap.size ≤ gb625)); have n6_ := Aside0.mk ((by rw [hg]; exact (below_size (by repeat (first | (with_reducible first | exact HB.out | apply below_alloc | apply pw_below_drewN | apply below_drew1 | refine below_set ?_ GE614.out) | exact HB.out))) : w.heap.size ≤ gb625)); have n7_ := Aside0.mk ((by rw [hg]; exact Nat.ne_of_lt (blk_lt (g := gb614) (o := .cells #[.string a0_0, .int .i64 a0_1, .int .i64 a0_2, .int .i64 a0_3, .int .i64 a0_4, .int .i64 a0_5, .slice A0_6 l0_6.length c0_6] 41 (0, 0)) (by (with_reducible repeat (first | refine blk_drewN ?_ _ | refine blk_drew ?_ | refine blk_alloc ?_ _)); exact BK614.out)) : gb614 ≠ gb625)); have n8_ := Aside0.mk ((by rw [hg]; exact Nat.ne_of_gt (blk_lt (g := gb614) (o := .cells #[.string a0_0, .int .i64 a0_1, .int .i64 a0_2, .int .i64 a0_3, .int .i64 a0_4, .int .i64 a0_5, .slice A0_6 l0_6.length c0_6] 41 (0, 0)) (by (with_reducible repeat (first | refine blk_drewN ?_ _ | refine blk_drew ?_ | refine blk_alloc ?_ _)); exact BK614.out)) : gb625 ≠ gb614)); clear HO619; clear HO623; clear BK614; clear HB; have HO619 := n0_; have HO623 := n1_; have BK614 := n2_; have HB := n3_; have BK625 := n4_; have GW625 := n5_; have GE625 := n6_; have NB614_625 := n7_; have NB625_614 := n8_; clear n0_ n1_ n2_ n3_ n4_ n5_ n6_ n7_ n8_; clear hb hbox hg; obtain ⟨Ao58, co58, eo58⟩ := Kd.R_slice HO619.out; subst eo58; have hnb59 := NB625_614.out; have hnc59 := NB614_625.out; have hcz60_0 : w57.cell? ⟨gb625, 0, none⟩ = some (.slice none 0 0) := (blk_cell BK625.out 0).trans rfl; have hcz60_1 : w57.cell? ⟨gb625, 1, none⟩ = some (.int .i64 0) := (blk_cell BK625.out 1).trans rfl; have hcz60_2 : w57.cell? ⟨gb625, 2, none⟩ = some (.slice none 0 0) := (blk_cell BK625.out 2).trans rfl; have hfz60_0 := blk_frozen BK625.out 0; have hfz60_1 := blk_frozen BK625.out 1; have hfz60_2 := blk_frozen BK625.out 2; obtain ⟨Ao61, co61, eo61⟩ := Kd.R_slice HO623.out; subst eo61; have hcz62_0 : w57.cell? ⟨gb614, 0, none⟩ = some (.string a0_0) := (blk_cell BK614.out 0).trans rfl; have hcz62_1 : w57.cell? ⟨gb614, 1, none⟩ = some (.int .i64 a0_1) := (blk_cell BK614.out 1).trans rfl; have hcz62_2 : w57.cell? ⟨gb614, 2, none⟩ = some (.int .i64 a0_2) := (blk_cell BK614.out 2).trans rfl; have hcz62_3 : w57.cell? ⟨gb614, 3, none⟩ = some (.int .i64 a0_3) := (blk_cell BK614.out 3).trans rfl; have hcz62_4 : w57.cell? ⟨gb614, 4, none⟩ = some (.int .i64 a0_4) := (blk_cell BK614.out 4).trans rfl; have hcz62_5 : w57.cell? ⟨gb614, 5, none⟩ = some (.int .i64 a0_5) := (blk_cell BK614.out 5).trans rfl; have hcz62_6 : w57.cell? ⟨gb614, 6, none⟩ = some (.slice A0_6 l0_6.length c0_6) := (blk_cell BK614.out 6).trans rfl; have hfz62_0 := blk_frozen BK614.out 0; have hfz62_1 := blk_frozen BK614.out 1; have hfz62_2 := blk_frozen BK614.out 2; have hfz62_3 := blk_frozen BK614.out 3; have hfz62_4 := blk_frozen BK614.out 4; have hfz62_5 := blk_frozen BK614.out 5; have hfz62_6 := blk_frozen BK614.out 6) | ((with_reducible refine gate_callee (f := 35) rfl ?_); refine goesL_ (some 27) rfl rfl Try.func35 (by kernel_rfl) rfl #[.agg #[.string a0_0, .int .i64 a0_1, .int .i64 a0_2, .int .i64 a0_3, .int .i64 a0_4, .int .i64 a0_5, .slice A0_6 l0_6.length c0_6], .slice A1 l1.length c1, .agg #[.slice Ao58 t617.length co58, .int .i64 t620, .slice Ao61 t621.length co61]] rfl (by (try simp only [List.map_toArray, List.map_cons, List.map_nil]); first | done | rfl | (simp only [List.length_drop, List.length_take]; rfl)) ?_; (with_reducible refine (proof_Check.calls k a0_0 a0_1 a0_2 a0_3 a0_4 a0_5 _ _ l0_6 _ _ l1 _ _ t617 t620 _ _ t621 t626 _ ?side1 ?side2 ?side3 ?side4 ?side5 ?side6 ?side7 ?side8 A50.out).mono ?_); (case side1 => exact Kd.C_below HR0_6.out (by repeat (first | (with_reducible first | exact HB.out | apply below_alloc | apply pw_below_drewN | apply below_drew1 | refine below_set ?_ GE614.out | refine below_set ?_ GE625.out) | exact HB.out))); (case side2 => exact HC0_6.out); (case side3 => exact Kd.C_below HR1.out (by repeat (first | (with_reducible first | exact HB.out | apply below_alloc | apply pw_below_drewN | apply below_drew1 | refine below_set ?_ GE614.out | refine below_set ?_ GE625.out) | exact HB.out))); (case side4 => exact HC1.out); (case side5 => refine (Kd.R_reads' (e := 57) (base := w.heap.size) (ok := fun k_ => True) (n := t617.length) (c := co58) ?_).2.2; exact (by (with_reducible repeat (first | apply Kd.R_alloc | apply Kd.R_drewN | apply Kd.R_drew)); exact (Kd.R_mono (Kd.R_far (p := ⟨gb625, 2, none⟩) (Kd.R_far (p := ⟨gb625, 1, none⟩) (Kd.R_far (p := ⟨gb625, 0, none⟩) (Kd.R_types HO619.out BK625.out (by decide)) (fun _ hk => hk.2) (.slice Ao58 t617.length co58)) (fun _ hk => hk.2) (.int .i64 t620)) (fun _ hk => hk.2) (.slice Ao61 t621.length co61)) (fun _ h_ => h_.1)))); (case side6 => exact (Kd.R_reads' HO619.out).2.1); (case side7 => refine (Kd.R_reads' (e := 4) (base := w.heap.size) (ok := fun k_ => True) (n := t621.length) (c := co61) ?_).2.2; exact (by (with_reducible repeat (first | apply Kd.R_alloc | apply Kd.R_drewN | apply Kd.R_drew)); exact (Kd.R_mono (Kd.R_far (p := ⟨gb625, 2, none⟩) (Kd.R_far (p := ⟨gb625, 1, none⟩) (Kd.R_far (p := ⟨gb625, 0, none⟩) (Kd.R_types HO623.out BK625.out (by decide)) (fun _ hk => hk.2) (.slice Ao58 t617.length co58)) (fun _ hk => hk.2) (.int .i64 t620)) (fun _ hk => hk.2) (.slice Ao61 t621.length co61)) (fun _ h_ => h_.1)))); (case side8 => exact (Kd.R_reads' HO623.out).2.1); rintro e w63 ⟨rfl, hb⟩; refine ⟨_, rfl, ?_⟩; have n0_ := Aside0.mk (Kd.R_below (by (with_reducible repeat (first | apply Kd.R_alloc | apply Kd.R_drewN | apply Kd.R_drew)); exact (Kd.R_mono (Kd.R_far (p := ⟨gb625, 2, none⟩) (Kd.R_far (p := ⟨gb625, 1, none⟩) (Kd.R_far (p := ⟨gb625, 0, none⟩) (Kd.R_types HO619.out BK625.out (by decide)) (fun _ hk => hk.2) (.slice Ao58 t617.length co58)) (fun _ hk => hk.2) (.int .i64 t620)) (fun _ hk => hk.2) (.slice Ao61 t621.length co61)) (fun _ h_ => h_.1))) hb); have n1_ := Aside0.mk (Kd.R_below (by (with_reducible repeat (first | apply Kd.R_alloc | apply Kd.R_drewN | apply Kd.R_drew)); exact (Kd.R_mono (Kd.R_far (p := ⟨gb625, 2, none⟩) (Kd.R_far (p := ⟨gb625, 1, none⟩) (Kd.R_far (p := ⟨gb625, 0, none⟩) (Kd.R_types HO623.out BK625.out (by decide)) (fun _ hk => hk.2) (.slice Ao58 t617.length co58)) (fun _ hk => hk.2) (.int .i64 t620)) (fun _ hk => hk.2) (.slice Ao61 t621.length co61)) (fun _ h_ => h_.1))) hb); have n2_ := Aside0.mk (blk_below (g := gb614) (o := .cells #[.string a0_0, .int .i64 a0_1, .int .i64 a0_2, .int .i64 a0_3, .int .i64 a0_4, .int .i64 a0_5, .slice A0_6 l0_6.length c0_6] 41 (0, 0)) (by (with_reducible repeat (first | refine blk_drewN ?_ _ | refine blk_drew ?_ | refine blk_alloc ?_ _)); refine blk_far ?_ NB614_625.out _; (with_reducible repeat (first | refine blk_drewN ?_ _ | refine blk_drew ?_ | refine blk_alloc ?_ _)); refine blk_far ?_ NB614_625.out _; (with_reducible repeat (first | refine blk_drewN ?_ _ | refine blk_drew ?_ | refine blk_alloc ?_ _)); refine blk_far ?_ NB614_625.out _; (with_reducible repeat (first | refine blk_drewN ?_ _ | refine blk_drew ?_ | refine blk_alloc ?_ _)); exact BK614.out) hb); have n3_ := Aside0.mk (blk_below (g := gb625) (o := .cells #[.slice Ao58 t617.length co58, .int .i64 t620, .slice Ao61 t621.length co61] 48 (0, 0)) (by (with_reducible repeat (first | refine blk_drewN ?_ _ | refine blk_drew ?_ | refine blk_alloc ?_ _)); refine blk_put (cs := #[.slice Ao58 t617.length co58, .int .i64 t620, .slice none 0 0]) ?_ 2 _ rfl; (with_reducible repeat (first | refine blk_drewN ?_ _ | refine blk_drew ?_ | refine blk_alloc ?_ _)); refine blk_put (cs := #[.slice Ao58 t617.length co58, .int .i64 0, .slice none 0 0]) ?_ 1 _ rfl; (with_reducible repeat (first | refine blk_drewN ?_ _ | refine blk_drew ?_ | refine blk_alloc ?_ _)); refine blk_put (cs := #[.slice none 0 0, .int .i64 0, .slice none 0 0]) ?_ 0 _ rfl; (with_reducible repeat (first | refine blk_drewN ?_ _ | refine blk_drew ?_ | refine blk_alloc ?_ _)); exact BK625.out) hb); have n4_ := Aside0.mk (below_step (by repeat (first | (with_reducible first | exact HB.out | apply below_alloc | apply pw_below_drewN | apply below_drew1 | refine below_set ?_ GE614.out | refine below_set ?_ GE625.out) | exact HB.out)) hb); clear HO619; clear HO623; clear BK614; clear BK625; clear HB; have HO619 := n0_; have HO623 := n1_; have BK614 := n2_; have BK625 := n3_; have HB := n4_; clear n0_ n1_ n2_ n3_ n4_; (try clear hb); (try clear hb2); (try clear hk); (try clear hi)))
        go_ret
        exact ⟨by first | rfl | (simp [errW_none, errW_some] <;> rfl) | (simp [*, errW_none, errW_some] <;> rfl), by repeat (first | (with_reducible first | exact HB.out | apply below_alloc | apply pw_below_drewN | apply below_drew1 | refine below_set ?_ GE614.out | refine below_set ?_ GE625.out) | exact HB.out)⟩
    · replace c7 := Bool.eq_false_iff.mpr c7
      subst c7
      have H1 : (some true) = some r := by rw [if_neg (show ¬ (false = true) by decide)] at H; exact H
      clear H
      have H := H1
      clear H1
      obtain rfl := Option.some.inj H
      go_enter Try.func17, Try.ntmps17
      go_wp2_with (first | ((with_reducible refine gate_dst (N := 3) rfl ?_); refine box_event ?hg (N := 3) ?hd (cs := #[.string a0_0, .int .i64 a0_1, .int .i64 a0_2, .int .i64 a0_3, .int .i64 a0_4, .int .i64 a0_5, .slice A0_6 l0_6.length c0_6]) (t := 41) ?hr ?_; (case hd => rfl); (case hg => rfl); (case hr => first | (go_simp; done) | (go_simp; rfl)); intro gb614 hg w64 hbox hb; have n0_ := Aside0.mk (below_step (by repeat (first | (with_reducible first | exact HB.out | apply below_alloc | apply pw_below_drewN | apply below_drew1) | exact HB.out)) hb); have n1_ := Aside0.mk (hbox); have n2_ := Aside0.mk ((by rw [hg]; exact (below_size (by repeat (first | (with_reducible first | exact HB.out | apply below_alloc | apply pw_below_drewN | apply below_drew1) | exact HB.out))) : w.heap.size ≤ gb614)); have n3_ := Aside0.mk ((by rw [hg]; exact (below_size (by repeat (first | (with_reducible first | exact HB.out | apply below_alloc | apply pw_below_drewN | apply below_drew1) | exact HB.out))) : w.heap.size ≤ gb614)); clear HB; have HB := n0_; have BK614 := n1_; have GW614 := n2_; have GE614 := n3_; clear n0_ n1_ n2_ n3_; clear hb hbox hg) | ((with_reducible refine gate_callee (f := 30) rfl ?_); refine goesL_ (some 10) rfl rfl Try.func30 (by kernel_rfl) rfl #[] rfl (by (try simp only [List.map_toArray, List.map_cons, List.map_nil]); first | done | rfl | (simp only [List.length_drop, List.length_take]; rfl)) ?_; (with_reducible refine (sizarlaw20_sane.calls k  true _ A4.out).mono ?_); rintro e w65 ⟨rfl, hb⟩; refine ⟨_, rfl, ?_⟩; have n0_ := Aside0.mk (blk_below (g := gb614) (o := .cells #[.string a0_0, .int .i64 a0_1, .int .i64 a0_2, .int .i64 a0_3, .int .i64 a0_4, .int .i64 a0_5, .slice A0_6 l0_6.length c0_6] 41 (0, 0)) (by (with_reducible repeat (first | refine blk_drewN ?_ _ | refine blk_drew ?_ | refine blk_alloc ?_ _)); exact BK614.out) hb); have n1_ := Aside0.mk (below_step (by repeat (first | (with_reducible first | exact HB.out | apply below_alloc | apply pw_below_drewN | apply below_drew1 | refine below_set ?_ GE614.out) | exact HB.out)) hb); clear BK614; clear HB; have BK614 := n0_; have HB := n1_; clear n0_ n1_; (try clear hb); (try clear hb2); (try clear hk); (try clear hi); have hcz66_0 : w65.cell? ⟨gb614, 0, none⟩ = some (.string a0_0) := (blk_cell BK614.out 0).trans rfl; have hcz66_1 : w65.cell? ⟨gb614, 1, none⟩ = some (.int .i64 a0_1) := (blk_cell BK614.out 1).trans rfl; have hcz66_2 : w65.cell? ⟨gb614, 2, none⟩ = some (.int .i64 a0_2) := (blk_cell BK614.out 2).trans rfl; have hcz66_3 : w65.cell? ⟨gb614, 3, none⟩ = some (.int .i64 a0_3) := (blk_cell BK614.out 3).trans rfl; have hcz66_4 : w65.cell? ⟨gb614, 4, none⟩ = some (.int .i64 a0_4) := (blk_cell BK614.out 4).trans rfl; have hcz66_5 : w65.cell? ⟨gb614, 5, none⟩ = some (.int .i64 a0_5) := (blk_cell BK614.out 5).trans rfl; have hcz66_6 : w65.cell? ⟨gb614, 6, none⟩ = some (.slice A0_6 l0_6.length c0_6) := (blk_cell BK614.out 6).trans rfl; have hfz66_0 := blk_frozen BK614.out 0; have hfz66_1 := blk_frozen BK614.out 1; have hfz66_2 := blk_frozen BK614.out 2; have hfz66_3 := blk_frozen BK614.out 3; have hfz66_4 := blk_frozen BK614.out 4; have hfz66_5 := blk_frozen BK614.out 5; have hfz66_6 := blk_frozen BK614.out 6) | ((with_reducible refine gate_callee (f := 31) rfl ?_); refine goesL_ (some 14) rfl rfl Try.func31 (by kernel_rfl) rfl #[.agg #[.string a0_0, .int .i64 a0_1, .int .i64 a0_2, .int .i64 a0_3, .int .i64 a0_4, .int .i64 a0_5, .slice A0_6 l0_6.length c0_6], .slice A1 l1.length c1] rfl (by (try simp only [List.map_toArray, List.map_cons, List.map_nil]); first | done | rfl | (simp only [List.length_drop, List.length_take]; rfl)) ?_; (with_reducible refine (sizarref20_Few.calls k a0_0 a0_1 a0_2 a0_3 a0_4 a0_5 _ _ l0_6 _ _ l1 false _ ?side1 ?side2 ?side3 ?side4 A6.out).mono ?_); (case side1 => repeat (first | exact (Kd.C_below HR0_6.out HB.out) | (with_reducible refine Kd.C_alloc ?_ _) | (with_reducible refine Kd.C_drewN ?_ _) | (with_reducible refine Kd.C_drew ?_))); (case side2 => exact HC0_6.out); (case side3 => repeat (first | exact (Kd.C_below HR1.out HB.out) | (with_reducible refine Kd.C_alloc ?_ _) | (with_reducible refine Kd.C_drewN ?_ _) | (with_reducible refine Kd.C_drew ?_))); (case side4 => exact HC1.out); rintro e w67 ⟨rfl, hb⟩; refine ⟨_, rfl, ?_⟩; have n0_ := Aside0.mk (blk_below (g := gb614) (o := .cells #[.string a0_0, .int .i64 a0_1, .int .i64 a0_2, .int .i64 a0_3, .int .i64 a0_4, .int .i64 a0_5, .slice A0_6 l0_6.length c0_6] 41 (0, 0)) (by (with_reducible repeat (first | refine blk_drewN ?_ _ | refine blk_drew ?_ | refine blk_alloc ?_ _)); exact BK614.out) hb); have n1_ := Aside0.mk (below_step (by repeat (first | (with_reducible first | exact HB.out | apply below_alloc | apply pw_below_drewN | apply below_drew1 | refine below_set ?_ GE614.out) | exact HB.out)) hb); clear BK614; clear HB; have BK614 := n0_; have HB := n1_; clear n0_ n1_; (try clear hb); (try clear hb2); (try clear hk); (try clear hi)))
      go_ret
      exact ⟨by first | rfl | (simp [errW_none, errW_some] <;> rfl) | (simp [*, errW_none, errW_some] <;> rfl), by repeat (first | (with_reducible first | exact HB.out | apply below_alloc | apply pw_below_drewN | apply below_drew1 | refine below_set ?_ GE614.out) | exact HB.out)⟩
  · replace c5 := Bool.eq_false_iff.mpr c5
    subst c5
    have H1 : (some false) = some r := by rw [if_neg (show ¬ (false = true) by decide)] at H; exact H
    clear H
    have H := H1
    clear H1
    obtain rfl := Option.some.inj H
    go_enter Try.func17, Try.ntmps17
    go_wp2_with (first | ((with_reducible refine gate_dst (N := 3) rfl ?_); refine box_event ?hg (N := 3) ?hd (cs := #[.string a0_0, .int .i64 a0_1, .int .i64 a0_2, .int .i64 a0_3, .int .i64 a0_4, .int .i64 a0_5, .slice A0_6 l0_6.length c0_6]) (t := 41) ?hr ?_; (case hd => rfl); (case hg => rfl); (case hr => first | (go_simp; done) | (go_simp; rfl)); intro gb614 hg w68 hbox hb; have n0_ := Aside0.mk (below_step (by repeat (first | (with_reducible first | exact HB.out | apply below_alloc | apply pw_below_drewN | apply below_drew1) | exact HB.out)) hb); have n1_ := Aside0.mk (hbox); have n2_ := Aside0.mk ((by rw [hg]; exact (below_size (by repeat (first | (with_reducible first | exact HB.out | apply below_alloc | apply pw_below_drewN | apply below_drew1) | exact HB.out))) : w.heap.size ≤ gb614)); have n3_ := Aside0.mk ((by rw [hg]; exact (below_size (by repeat (first | (with_reducible first | exact HB.out | apply below_alloc | apply pw_below_drewN | apply below_drew1) | exact HB.out))) : w.heap.size ≤ gb614)); clear HB; have HB := n0_; have BK614 := n1_; have GW614 := n2_; have GE614 := n3_; clear n0_ n1_ n2_ n3_; clear hb hbox hg) | ((with_reducible refine gate_callee (f := 30) rfl ?_); refine goesL_ (some 10) rfl rfl Try.func30 (by kernel_rfl) rfl #[] rfl (by (try simp only [List.map_toArray, List.map_cons, List.map_nil]); first | done | rfl | (simp only [List.length_drop, List.length_take]; rfl)) ?_; (with_reducible refine (sizarlaw20_sane.calls k  false _ A4.out).mono ?_); rintro e w69 ⟨rfl, hb⟩; refine ⟨_, rfl, ?_⟩; have n0_ := Aside0.mk (blk_below (g := gb614) (o := .cells #[.string a0_0, .int .i64 a0_1, .int .i64 a0_2, .int .i64 a0_3, .int .i64 a0_4, .int .i64 a0_5, .slice A0_6 l0_6.length c0_6] 41 (0, 0)) (by (with_reducible repeat (first | refine blk_drewN ?_ _ | refine blk_drew ?_ | refine blk_alloc ?_ _)); exact BK614.out) hb); have n1_ := Aside0.mk (below_step (by repeat (first | (with_reducible first | exact HB.out | apply below_alloc | apply pw_below_drewN | apply below_drew1 | refine below_set ?_ GE614.out) | exact HB.out)) hb); clear BK614; clear HB; have BK614 := n0_; have HB := n1_; clear n0_ n1_; (try clear hb); (try clear hb2); (try clear hk); (try clear hi)))
    go_ret
    exact ⟨by first | rfl | (simp [errW_none, errW_some] <;> rfl) | (simp [*, errW_none, errW_some] <;> rfl), by repeat (first | (with_reducible first | exact HB.out | apply below_alloc | apply pw_below_drewN | apply below_drew1 | refine below_set ?_ GE614.out) | exact HB.out)⟩
end
end Go.Proofs.Ytadeidhefjifaaa.Px
end
section
set_option linter.unusedVariables false
set_option linter.unusedSimpArgs false
namespace Go.Proofs.Ytadeidhefjifaaa.Px.L20
open Go.RowKit Go.Proofs.YtadeidhefjifaaaW.PrintWords Go.Proofs.YtadeidhefjifaaaW.PrintLast Go.Proofs.YtadeidhefjifaaaW.PrintMore
theorem sane_ok : sizarlaw20_sane.f 30 = some true := by decide +kernel
theorem ev_sane : Ev (fun k => sizarlaw20_sane.f k) true := Ev.mono sane_ok sizarlaw20_sane.mono
/-- proof.Check's answer -/
def chkP (n u e mn md : Int) (q : List S92) (l : List S44) (us : List S57) (m : Int) (c : List Bool) : Int :=
  if alV n u e mn md q l us = 0 then (if (missV n u e mn md q us).2 = 0 then (if (missV n u e mn md q us).1 = m then (if (boundV n u e mn md q l c).2 = 0 then (if (boundV n u e mn md q l c).1 = m then 0 else 200) else (boundV n u e mn md q l c).2) else 200) else (missV n u e mn md q us).2) else alV n u e mn md q l us
theorem ev_chk (s : ByteArray) (n u e mn md : Int) (q : List S92) (l : List S44) (us : List S57) (m : Int) (c : List Bool) (h : us.length ≤ 100000) : Ev (fun k => proof_Check.f k s n u e mn md q l us m c) (chkP n u e mn md q l us m c) := by
  unfold proof_Check.f chkP
  refine Ev.bind (Ev.of (alV n u e mn md q l us)) ?_
  by_cases h1 : alV n u e mn md q l us = 0
  · refine Ev.eq (Ev.pos h1 (Ev.bind (ev_missL s n u e mn md q us h) ?_)) (if_pos h1).symm
    by_cases h2 : (missV n u e mn md q us).2 = 0
    · refine Ev.eq (Ev.pos h2 ?_) (if_pos h2).symm
      by_cases h3 : (missV n u e mn md q us).1 = m
      · refine Ev.eq (Ev.pos h3 (Ev.bind (Ev.of (boundV n u e mn md q l c)) ?_)) (if_pos h3).symm
        by_cases h4 : (boundV n u e mn md q l c).2 = 0
        · refine Ev.eq (Ev.pos h4 ?_) (if_pos h4).symm
          by_cases h5 : (boundV n u e mn md q l c).1 = m
          · exact Ev.eq (Ev.pos h5 (Ev.of _)) (if_pos h5).symm
          · exact Ev.eq (Ev.neg h5 (Ev.of _)) (if_neg h5).symm
        · exact Ev.eq (Ev.neg h4 (Ev.of _)) (if_neg h4).symm
      · exact Ev.eq (Ev.neg h3 (Ev.of _)) (if_neg h3).symm
    · exact Ev.eq (Ev.neg h2 (Ev.of _)) (if_neg h2).symm
  · exact Ev.eq (Ev.neg h1 (Ev.of _)) (if_neg h1).symm
theorem chk_zero {n u e mn md : Int} {q : List S92} {l : List S44} {us : List S57} {m : Int} {c : List Bool} (h : chkP n u e mn md q l us m c = 0) : alV n u e mn md q l us = 0 ∧ (missV n u e mn md q us).1 = m ∧ (boundV n u e mn md q l c).2 = 0 ∧ (boundV n u e mn md q l c).1 = m := by
  unfold chkP at h
  split at h
  · rename_i h1
    split at h
    · split at h
      · rename_i h3
        split at h
        · rename_i h4
          split at h
          · rename_i h5; exact ⟨h1, h3, h4, h5⟩
          · cases h
        · rename_i h4; exact absurd h h4
      · cases h
    · rename_i h2; exact absurd h h2
  · rename_i h1; exact absurd h h1
theorem ev_aud (s : ByteArray) (n u e mn md : Int) (q : List S92) (l : List S44) (hl : l.length ≤ 100) : Ev (fun k => degree_Audit.f k s n u e mn md q l) (audV n u e mn md q l) :=
  ⟨0, fun k _ => if_pos hl⟩
theorem aud_bad {n u e mn md : Int} {q : List S92} {l : List S44} (ha : askV n u e mn md q l ≠ 0) : audV n u e mn md q l = ([], 0, [], askV n u e mn md q l) := by
  unfold audV; rw [if_neg ha]
/-- Check, of what Audit returns, with any number as Missing -/
theorem aud_chk {n u e mn md : Int} {q : List S92} {l : List S44} (ha : askV n u e mn md q l = 0) (hl : l.length ≤ 100) {us : List S57} {m er : Int} {c : List Bool} (h : audV n u e mn md q l = (us, m, c, er)) (m' : Int) :
    chkP n u e mn md q l us m' c = if m = m' then 0 else 200 := by
  obtain ⟨h1, h2, h3, h4, h5⟩ := aud_ok ha hl h
  unfold chkP
  rw [if_pos h2, h3, h4, if_pos rfl]
  dsimp only
  by_cases e : m = m'
  · rw [if_pos e, if_pos rfl, if_pos e]
  · rw [if_neg e, if_neg e]
end Go.Proofs.Ytadeidhefjifaaa.Px.L20
end
section
set_option linter.unusedVariables false
set_option linter.unusedSimpArgs false
set_option linter.constructorNameAsVariable false
set_option maxRecDepth 100000
namespace Go.Proofs.Ytadeidhefjifaaa.Px
open Go.RowKit Go.Deep Go.ChangeShapes Go.WideShapes Go.Proofs.YtadeidhefjifaaaW.PrintWords Go.Proofs.YtadeidhefjifaaaW.PrintLast Go.Proofs.YtadeidhefjifaaaW.PrintMore
/-- What reads as the type t is of the kind d. -/
def Opens {H : Type} (enc : TypeId × Value → H) (base : Nat) (spare : Nat → Bool) (held : Bool) (t : TypeId) {α : Type} (d : Kd α) : Prop :=
  Try.prog.cellsOf t = d.sz ∧ ∀ (w : World) (fuel : Nat) (cs : List Value) (x : DataW H × List MemPlace), DataW.trod enc Try.prog w base spare held fuel t cs = some x → ∃ v : α, d.K w v cs
section
variable {H : Type} {enc : TypeId × Value → H} {base : Nat} {spare : Nat → Bool} {held : Bool}
theorem opens_int : Opens enc base spare held 3 (Kd.int .i64) := ⟨by kernel_rfl, fun w fuel cs x h => by
  obtain ⟨n, hn, _⟩ := DataW.trod_int Try.underlying3 h
  exact ⟨n, hn⟩⟩
theorem opens_bool : Opens enc base spare held 4 Kd.bool := ⟨by kernel_rfl, fun w fuel cs x h => by
  obtain ⟨n, hn, _⟩ := DataW.trod_bool Try.underlying4 h
  exact ⟨n, hn⟩⟩
theorem opens_string : Opens enc base spare held 9 Kd.string := ⟨by kernel_rfl, fun w fuel cs x h => by
  obtain ⟨n, hn, _⟩ := DataW.trod_string (by kernel_rfl) h
  exact ⟨n, hn⟩⟩
theorem opens_row {α : Type} {d : Kd α} {t e : TypeId} {fuel : Nat} {w : World} {a : Option Addr} {len cap : Nat} {x : DataW H × List MemPlace} (ht : Try.prog.underlying t = some (.slice e)) (hd : Opens enc base spare held e d) (h : DataW.trod enc Try.prog w base spare held fuel t [.slice a len cap] = some x) : len ≤ cap ∧ ∃ l : List α, l.length = len ∧ Kd.C d w a len l := by
  rcases open_slice ht h with ⟨hc, _⟩ | ⟨ad, l, c, m, n, D, Pl, hc, hb, hl, hm, hmm, hx, hi⟩
  · cases hc
    exact ⟨Nat.le_refl _, [], rfl, rfl, by omega, fun h => by omega⟩
  · cases hc
    have hlm : len ≤ m := by rw [hmm]; split <;> omega
    have hcell : ∀ i : Fin len, ∃ v : α, ∃ cs', w.cells? base (ad.add (i.1 * d.sz)) d.sz = some cs' ∧ d.K w v cs' := by
      intro i
      obtain ⟨cs', hcs, ht⟩ := hi i.1 (by have := i.2; omega)
      rw [hd.1] at hcs
      obtain ⟨v, hv⟩ := hd.2 w n cs' _ ht
      exact ⟨v, cs', hcs, hv⟩
    refine ⟨hl, List.ofFn fun i => Classical.choose (hcell i), by simp, by simp, Nat.le_trans (Nat.le_trans hl hm) (by decide), fun _ => ⟨ad, rfl, fun j p hj => ?_⟩⟩
    obtain ⟨hjl, hp⟩ := List.getElem?_eq_some_iff.1 hj
    have hjl : j < len := by simpa using hjl
    simp only [List.getElem_ofFn] at hp
    have hs := Classical.choose_spec (hcell ⟨j, hjl⟩)
    rw [hp] at hs
    obtain ⟨cs', hcs, hK⟩ := hs
    have hlen := d.K_len hK
    obtain ⟨_, hcl, hat⟩ := World.cells?_some hcs
    refine ⟨cs', hlen, hK, fun i u hu => ?_⟩
    obtain ⟨hil, hiu⟩ := List.getElem?_eq_some_iff.1 hu
    rw [← Go.Deep.add_add, hat i (by omega), hu]
theorem opens_slice {α : Type} {d : Kd α} {t e : TypeId} (h1 : Try.prog.cellsOf t = 1) (ht : Try.prog.underlying t = some (.slice e)) (hd : Opens enc base spare held e d) : Opens enc base spare held t (Kd.slice e d) := ⟨h1, fun w fuel cs x h => by
  have hcs : ∃ a len cap, cs = [.slice a len cap] := by
    rcases open_slice ht h with ⟨hc, _⟩ | ⟨ad, l, c, m, n, D, Pl, hc, _⟩
    · exact ⟨_, _, _, hc⟩
    · exact ⟨_, _, _, hc⟩
  obtain ⟨a, len, cap, rfl⟩ := hcs
  obtain ⟨hl, l, hll, hC⟩ := opens_row ht hd h
  subst hll
  exact ⟨l, a, cap, rfl, hl, hC⟩⟩
/-- One field of a struct. -/
theorem opens_field {α : Type} {d : Kd α} {w : World} {n : Nat} {t o : Nat} {cs : List Value} {y : Option (DataW H × List MemPlace)} (hd : Opens enc base spare held t d) (hy : ∃ z, y = some z) (h : DataW.trod enc Try.prog w base spare held n t ((cs.drop o).take (Try.prog.cellsOf t)) = y) : ∃ v : α, d.K w v ((cs.drop o).take d.sz) := by
  obtain ⟨z, rfl⟩ := hy
  rw [hd.1] at h
  exact hd.2 w n _ _ h
theorem opens_att : Opens enc base spare held 44 k44 := ⟨by kernel_rfl, fun w fuel cs x h => by
  obtain ⟨ys, n', hn', hy, hlen, hyl, hf⟩ := DataW.trod_struct Try.underlying44 h
  have hyl' : ys.length = 5 := hyl
  have hlen : cs.length = 5 := hlen.trans (by kernel_rfl)
  have hys : ∀ j, j < 5 → ∃ y, ys[j]? = some y := fun j hj => ⟨_, List.getElem?_eq_getElem (by omega)⟩
  obtain ⟨n0, e0⟩ := opens_field opens_int (hys 0 (by omega)) (hf 0 _ rfl)
  obtain ⟨n1, e1⟩ := opens_field opens_int (hys 1 (by omega)) (hf 1 _ rfl)
  obtain ⟨n2, e2⟩ := opens_field opens_int (hys 2 (by omega)) (hf 2 _ rfl)
  obtain ⟨n3, e3⟩ := opens_field opens_int (hys 3 (by omega)) (hf 3 _ rfl)
  obtain ⟨n4, e4⟩ := opens_field opens_int (hys 4 (by omega)) (hf 4 _ rfl)
  match cs, hlen with
  | [c0, c1, c2, c3, c4], _ =>
    replace e0 : [c0] = [Value.int .i64 n0] := e0
    replace e1 : [c1] = [Value.int .i64 n1] := e1
    replace e2 : [c2] = [Value.int .i64 n2] := e2
    replace e3 : [c3] = [Value.int .i64 n3] := e3
    replace e4 : [c4] = [Value.int .i64 n4] := e4
    injection e0 with e0; injection e1 with e1; injection e2 with e2; injection e3 with e3; injection e4 with e4
    subst e0 e1 e2 e3 e4
    exact ⟨⟨n0, n1, n2, n3, n4⟩, k44_mk w _⟩⟩
theorem opens_strings : Opens enc base spare held 90 (Kd.slice 9 Kd.string) := opens_slice (by kernel_rfl) (by kernel_rfl) opens_string
theorem opens_ints : Opens enc base spare held 23 (Kd.slice 3 (Kd.int .i64)) := opens_slice (by kernel_rfl) Try.underlying23 opens_int
theorem opens_req : Opens enc base spare held 92 k92 := ⟨by kernel_rfl, fun w fuel cs x h => by
  obtain ⟨ys, n', hn', hy, hlen, hyl, hf⟩ := DataW.trod_struct Try.underlying92 h
  have hyl' : ys.length = 6 := hyl
  have hlen : cs.length = 6 := hlen.trans (by kernel_rfl)
  have hys : ∀ j, j < 6 → ∃ y, ys[j]? = some y := fun j hj => ⟨_, List.getElem?_eq_getElem (by omega)⟩
  obtain ⟨n0, e0⟩ := opens_field opens_string (hys 0 (by omega)) (hf 0 _ rfl)
  obtain ⟨n1, e1⟩ := opens_field opens_int (hys 1 (by omega)) (hf 1 _ rfl)
  obtain ⟨n2, e2⟩ := opens_field opens_int (hys 2 (by omega)) (hf 2 _ rfl)
  obtain ⟨n3, e3⟩ := opens_field opens_bool (hys 3 (by omega)) (hf 3 _ rfl)
  obtain ⟨n4, e4⟩ := opens_field opens_strings (hys 4 (by omega)) (hf 4 _ rfl)
  obtain ⟨n5, e5⟩ := opens_field opens_ints (hys 5 (by omega)) (hf 5 _ rfl)
  match cs, hlen with
  | [c0, c1, c2, c3, c4, c5], _ =>
    replace e0 : [c0] = [Value.string n0] := e0
    replace e1 : [c1] = [Value.int .i64 n1] := e1
    replace e2 : [c2] = [Value.int .i64 n2] := e2
    replace e3 : [c3] = [Value.bool n3] := e3
    obtain ⟨A4, k4, e4, l4, g4⟩ := e4
    obtain ⟨A5, k5, e5, l5, g5⟩ := e5
    replace e4 : [c4] = [Value.slice A4 n4.length k4] := e4
    replace e5 : [c5] = [Value.slice A5 n5.length k5] := e5
    injection e0 with e0; injection e1 with e1; injection e2 with e2; injection e3 with e3; injection e4 with e4; injection e5 with e5
    subst e0 e1 e2 e3 e4 e5
    exact ⟨⟨n0, n1, n2, n3, n4, n5⟩, k92_mk w ⟨n0, n1, n2, n3, n4, n5⟩ l4 g4 l5 g5⟩⟩
theorem opens_reqs : Opens enc base spare held 39 (Kd.slice 92 k92) := opens_slice (by kernel_rfl) (by kernel_rfl) opens_req
theorem opens_ratio : Opens enc base spare held 38 (Kd.pair (Kd.int .i64) (Kd.int .i64)) := ⟨by kernel_rfl, fun w fuel cs x h => by
  obtain ⟨ys, n', hn', hy, hlen, hyl, hf⟩ := DataW.trod_struct Try.underlying38 h
  have hyl' : ys.length = 2 := hyl
  have hlen : cs.length = 2 := hlen.trans (by kernel_rfl)
  have hys : ∀ j, j < 2 → ∃ y, ys[j]? = some y := fun j hj => ⟨_, List.getElem?_eq_getElem (by omega)⟩
  obtain ⟨n0, e0⟩ := opens_field opens_int (hys 0 (by omega)) (hf 0 _ rfl)
  obtain ⟨n1, e1⟩ := opens_field opens_int (hys 1 (by omega)) (hf 1 _ rfl)
  match cs, hlen with
  | [c0, c1], _ => exact ⟨(n0, n1), [c0], [c1], rfl, e0, e1⟩⟩
theorem open_struct {α : Type} {d : Kd α} {t : TypeId} {fs : Array Field} {w : World} {r : Reach} {b0 : Nat} {v : Value} {D : DataW H} {p : List MemPlace} (ht : Try.prog.underlying t = some (.struct fs)) (hd : Opens enc base spare held t d) (hv : Value.okWide Try.prog w r b0 t v) (h : DataW.Trod enc Try.prog w base spare held t v D p) :
    ∃ cs : List Value, v = .agg cs.toArray ∧ ∃ x : α, d.K w x cs := by
  obtain ⟨cs, rfl, hsz⟩ := okWide_struct ht hv
  obtain ⟨fuel, hf⟩ := h
  obtain ⟨x, hx⟩ := hd.2 w fuel _ _ hf
  exact ⟨cs.toList, by simp, x, hx⟩
theorem opens_prog : Opens enc base spare held 41 (Kd.pair Kd.string (Kd.pair (Kd.int .i64) (Kd.pair (Kd.int .i64) (Kd.pair (Kd.int .i64) (Kd.pair (Kd.pair (Kd.int .i64) (Kd.int .i64)) (Kd.slice 92 k92)))))) := ⟨by kernel_rfl, fun w fuel cs x h => by
  obtain ⟨ys, n', hn', hy, hlen, hyl, hf⟩ := DataW.trod_struct Try.underlying41 h
  have hyl' : ys.length = 6 := hyl
  have hlen : cs.length = 7 := hlen.trans (by kernel_rfl)
  have hys : ∀ j, j < 6 → ∃ y, ys[j]? = some y := fun j hj => ⟨_, List.getElem?_eq_getElem (by omega)⟩
  obtain ⟨n0, e0⟩ := opens_field opens_string (hys 0 (by omega)) (hf 0 _ rfl)
  obtain ⟨n1, e1⟩ := opens_field opens_int (hys 1 (by omega)) (hf 1 _ rfl)
  obtain ⟨n2, e2⟩ := opens_field opens_int (hys 2 (by omega)) (hf 2 _ rfl)
  obtain ⟨n3, e3⟩ := opens_field opens_int (hys 3 (by omega)) (hf 3 _ rfl)
  obtain ⟨n4, e4⟩ := opens_field opens_ratio (hys 4 (by omega)) (hf 4 _ rfl)
  obtain ⟨n5, e5⟩ := opens_field opens_reqs (hys 5 (by omega)) (hf 5 _ rfl)
  match cs, hlen with
  | [c0, c1, c2, c3, c4, c5, c6], _ =>
    exact ⟨(n0, n1, n2, n3, n4, n5), [c0], [c1, c2, c3, c4, c5, c6], rfl, e0, [c1], [c2, c3, c4, c5, c6], rfl, e1, [c2], [c3, c4, c5, c6], rfl, e2, [c3], [c4, c5, c6], rfl, e3, [c4, c5], [c6], rfl, e4, e5⟩⟩
theorem open_prog {w : World} {r : Reach} {b0 : Nat} {v : Value} {D : DataW H} {p : List MemPlace} (hv : Value.okWide Try.prog w r b0 41 v) (h : DataW.Trod enc Try.prog w base spare held 41 v D p) :
    ∃ (s : ByteArray) (n1 n2 n3 n4 n5 : Int) (A : Option Addr) (c : Nat) (l : List S92), v = .agg #[.string s, .int .i64 n1, .int .i64 n2, .int .i64 n3, .int .i64 n4, .int .i64 n5, .slice A l.length c] ∧ l.length ≤ c ∧ Kd.C k92 w A l.length l := by
  obtain ⟨cs, rfl, ⟨s, n1, n2, n3, ⟨n4, n5⟩, l⟩, hK⟩ := open_struct Try.underlying41 opens_prog hv h
  obtain ⟨_, _, rfl, rfl, _, _, rfl, rfl, _, _, rfl, rfl, _, _, rfl, rfl, _, _, rfl, ⟨_, _, rfl, rfl, rfl⟩, A, c, rfl, hl, hC⟩ := hK
  exact ⟨s, n1, n2, n3, n4, n5, A, c, l, rfl, hl, hC⟩
end
end Go.Proofs.Ytadeidhefjifaaa.Px
end
