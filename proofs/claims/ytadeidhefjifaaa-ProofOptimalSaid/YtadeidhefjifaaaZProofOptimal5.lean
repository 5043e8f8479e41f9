/- Parts of the proof of ProofOptimal, put together from several texts (words that the printing program wrote for this claim, walks, plain facts): the declarations that this law needs. -/
import Derived.Test.YtadeidhefjifaaaZProofOptimal4
import Derived.ChangeSame
import Derived.Deep.Fields
import Derived.Deep.Grids
import Derived.Deep.Slices
section
namespace Go.Proofs.Ytadeidhefjifaaa.Px
open Go.RowKit Go.Proofs.YtadeidhefjifaaaW.PrintWords Go.Proofs.YtadeidhefjifaaaW.PrintLast Go.Proofs.YtadeidhefjifaaaW.PrintMore
attribute [local go_sem] max2_int min2_int max_two min_two max_three min_three max_four min_four   -- for this text's walks alone
set_option linter.unusedVariables false
set_option linter.unusedSimpArgs false
mutual
def sizarref20_Few.j0 : Nat → Bool → ByteArray → Int → Int → Int → Int → Int → List (S92) → Option (Bool)
  | 0, _, _, _, _, _, _, _, _ => none
  | k + 1, x14, x359000, x359001, x359002, x359003, x359004, x359005, x359006 => if x14 = true then (some false) else (sizarref20_Few.l0 k 0 x359000 x359001 x359002 x359003 x359004 x359005 x359006)
def sizarref20_Few.l0 : Nat → Int → ByteArray → Int → Int → Int → Int → Int → List (S92) → Option (Bool)
  | 0, _, _, _, _, _, _, _, _ => none
  | k + 1, x5, x359000, x359001, x359002, x359003, x359004, x359005, x359006 => if x5 < (x359006.length : Int) then (if 0 ≤ x5 then (if (((rd_T92 x359006 x5).f5).length : Int) > 20 then (some false) else (sizarref20_Few.l0 k (wrap64 (x5 + 1)) x359000 x359001 x359002 x359003 x359004 x359005 x359006)) else (none)) else (some true)
end
def sizarref20_Few.f (k : Nat) (a0_0 : ByteArray) (a0_1 : Int) (a0_2 : Int) (a0_3 : Int) (a0_4 : Int) (a0_5 : Int) (l0_6 : List (S92)) (l1 : List (S44)) : Option (Bool) := if (l0_6.length : Int) > 10 then (sizarref20_Few.j0 k true a0_0 a0_1 a0_2 a0_3 a0_4 a0_5 l0_6) else (sizarref20_Few.j0 k (decide ((l1.length : Int) > 12)) a0_0 a0_1 a0_2 a0_3 a0_4 a0_5 l0_6)
set_option maxHeartbeats 8000000 in
set_option maxRecDepth 100000 in
theorem sizarref20_Few.calls (k : Nat) (a0_0 : ByteArray) (a0_1 : Int) (a0_2 : Int) (a0_3 : Int) (a0_4 : Int) (a0_5 : Int) (A0_6 : Option Addr) (c0_6 : Nat) (l0_6 : List (S92)) (A1 : Option Addr) (c1 : Nat) (l1 : List (S44)) (r : Bool) (w : World) (hr0_6 : Kd.C k92 w A0_6 l0_6.length l0_6) (hc0_6 : l0_6.length ≤ c0_6) (hr1 : Kd.C k44 w A1 l1.length l1) (hc1 : l1.length ≤ c1) (h : sizarref20_Few.f k a0_0 a0_1 a0_2 a0_3 a0_4 a0_5 l0_6 l1 = some r) :
    Calls Try.prog 31 #[.agg #[.string a0_0, .int .i64 a0_1, .int .i64 a0_2, .int .i64 a0_3, .int .i64 a0_4, .int .i64 a0_5, .slice A0_6 l0_6.length c0_6], .slice A1 l1.length c1] w fun e w' => e = .returned (.bool r) ∧ Below w.heap.size w w' := by
  have hu41 := Try.underlying41
  have HR0_6 := Aside0.mk hr0_6
  have HC0_6 := Aside0.mk hc0_6
  clear hr0_6 hc0_6
  have HR1 := Aside0.mk hr1
  have HC1 := Aside0.mk hc1
  clear hr1 hc1
  have HB := Aside0.mk (Below.refl w.heap.size w)
  have H : (if (l0_6.length : Int) > 10 then (sizarref20_Few.j0 k true a0_0 a0_1 a0_2 a0_3 a0_4 a0_5 l0_6) else (sizarref20_Few.j0 k (decide ((l1.length : Int) > 12)) a0_0 a0_1 a0_2 a0_3 a0_4 a0_5 l0_6)) = some r := h
  clear h
  have HC3 := Aside0.mk H
  clear H
  go_enter Try.func31, Try.ntmps31
  go_upto_region 1 with (first | ((with_reducible refine gate_dst (N := 2) rfl ?_); (try (refine gate_guard (by rfl) ?_; dsimp only)); refine box_event ?hg (N := 2) ?hd (cs := #[.string a0_0, .int .i64 a0_1, .int .i64 a0_2, .int .i64 a0_3, .int .i64 a0_4, .int .i64 a0_5, .slice A0_6 l0_6.length c0_6]) (t := 41) ?hr ?_; (case hd => rfl); (case hg => rfl); (case hr => first | (go_simp; done) | (go_simp; rfl)); intro gb358 hg w4 hbox hb; have n0_ := Aside0.mk (below_step (by repeat (first | (with_reducible first | exact HB.out | apply below_alloc | apply pw_below_drewN | apply below_drew1) | exact HB.out)) hb); have n1_ := Aside0.mk (hbox); have n2_ := Aside0.mk ((by rw [hg]; exact (below_size (by repeat (first | (with_reducible first | exact HB.out | apply below_alloc | apply pw_below_drewN | apply below_drew1) | exact HB.out))) : w.heap.size ≤ gb358)); have n3_ := Aside0.mk ((by rw [hg]; exact (below_size (by repeat (first | (with_reducible first | exact HB.out | apply below_alloc | apply pw_below_drewN | apply below_drew1) | exact HB.out))) : w.heap.size ≤ gb358)); clear HB; have HB := n0_; have BK358 := n1_; have GW358 := n2_; have GE358 := n3_; clear n0_ n1_ n2_ n3_; clear hb hbox hg))
  (try simp only [Act.put, List.setIfInBounds_toArray, List.set_cons_zero, List.set_cons_succ])
  go_cut [14] (fun v14 wc => ∃ (kq : Nat) (x14_2 : Bool), v14 = .bool x14_2 ∧ Aside0 (sizarref20_Few.j0 kq x14_2 a0_0 a0_1 a0_2 a0_3 a0_4 a0_5 l0_6 = some r) ∧ Aside0 (kq ≤ k) ∧ Aside0 (wc.heap[gb358]? = some (.cells #[.string a0_0, .int .i64 a0_1, .int .i64 a0_2, .int .i64 a0_3, .int .i64 a0_4, .int .i64 a0_5, (.slice A0_6 l0_6.length c0_6)] 41 (0, 0))) ∧ Aside0 (Below w.heap.size w wc))
  case first =>
    have H := HC3.out
    clear HC3
    by_cases c5 : (l0_6.length : Int) > 10
    · rw [if_pos c5] at H
      have c5b0 : decide (10 < (l0_6.length : Int)) = true := decide_eq_true c5
      have c5b1 : decide (10 < l0_6.length) = true := decide_eq_true (by omega)
      clear c5
      (first | rw [c5b0] | (simp only [i64_w, i32_w]; rw [c5b0]) | skip)
      have H' := Aside0.mk H
      clear H
      have hcz6_0 : w4.cell? ⟨gb358, 0, none⟩ = some (.string a0_0) := (blk_cell BK358.out 0).trans rfl
      have hcz6_1 : w4.cell? ⟨gb358, 1, none⟩ = some (.int .i64 a0_1) := (blk_cell BK358.out 1).trans rfl
      have hcz6_2 : w4.cell? ⟨gb358, 2, none⟩ = some (.int .i64 a0_2) := (blk_cell BK358.out 2).trans rfl
      have hcz6_3 : w4.cell? ⟨gb358, 3, none⟩ = some (.int .i64 a0_3) := (blk_cell BK358.out 3).trans rfl
      have hcz6_4 : w4.cell? ⟨gb358, 4, none⟩ = some (.int .i64 a0_4) := (blk_cell BK358.out 4).trans rfl
      have hcz6_5 : w4.cell? ⟨gb358, 5, none⟩ = some (.int .i64 a0_5) := (blk_cell BK358.out 5).trans rfl
      have hcz6_6 : w4.cell? ⟨gb358, 6, none⟩ = some (.slice A0_6 l0_6.length c0_6) := (blk_cell BK358.out 6).trans rfl
      have hfz6_0 := blk_frozen BK358.out 0
      have hfz6_1 := blk_frozen BK358.out 1
      have hfz6_2 := blk_frozen BK358.out 2
      have hfz6_3 := blk_frozen BK358.out 3
      have hfz6_4 := blk_frozen BK358.out 4
      have hfz6_5 := blk_frozen BK358.out 5
      have hfz6_6 := blk_frozen BK358.out 6
      go_wp2
      go_meet
      case rel => exact ⟨_, (true), (by first | rfl | (simp; done) | (simp [*]; done)), H', ⟨by first | omega | exact Nat.le_refl _⟩, ⟨by (with_reducible repeat (first | refine blk_drewN ?_ _ | refine blk_drew ?_ | refine blk_alloc ?_ _)); exact BK358.out⟩, ⟨by repeat (first | (with_reducible first | exact HB.out | apply below_alloc | apply pw_below_drewN | apply below_drew1 | refine below_set ?_ GE358.out) | exact HB.out)⟩⟩
    · rw [if_neg c5] at H
      have c5b0 : decide (10 < (l0_6.length : Int)) = false := decide_eq_false c5
      have c5b1 : decide (10 < l0_6.length) = false := decide_eq_false (by omega)
      clear c5
      (first | rw [c5b0] | (simp only [i64_w, i32_w]; rw [c5b0]) | skip)
      have H' := Aside0.mk H
      clear H
      have hcz7_0 : w4.cell? ⟨gb358, 0, none⟩ = some (.string a0_0) := (blk_cell BK358.out 0).trans rfl
      have hcz7_1 : w4.cell? ⟨gb358, 1, none⟩ = some (.int .i64 a0_1) := (blk_cell BK358.out 1).trans rfl
      have hcz7_2 : w4.cell? ⟨gb358, 2, none⟩ = some (.int .i64 a0_2) := (blk_cell BK358.out 2).trans rfl
      have hcz7_3 : w4.cell? ⟨gb358, 3, none⟩ = some (.int .i64 a0_3) := (blk_cell BK358.out 3).trans rfl
      have hcz7_4 : w4.cell? ⟨gb358, 4, none⟩ = some (.int .i64 a0_4) := (blk_cell BK358.out 4).trans rfl
      have hcz7_5 : w4.cell? ⟨gb358, 5, none⟩ = some (.int .i64 a0_5) := (blk_cell BK358.out 5).trans rfl
      have hcz7_6 : w4.cell? ⟨gb358, 6, none⟩ = some (.slice A0_6 l0_6.length c0_6) := (blk_cell BK358.out 6).trans rfl
      have hfz7_0 := blk_frozen BK358.out 0
      have hfz7_1 := blk_frozen BK358.out 1
      have hfz7_2 := blk_frozen BK358.out 2
      have hfz7_3 := blk_frozen BK358.out 3
      have hfz7_4 := blk_frozen BK358.out 4
      have hfz7_5 := blk_frozen BK358.out 5
      have hfz7_6 := blk_frozen BK358.out 6
      go_wp2
      go_meet
      case rel => exact ⟨_, (decide ((l1.length : Int) > 12)), (by first | rfl | (simp; done) | (simp [*]; done)), H', ⟨by first | omega | exact Nat.le_refl _⟩, ⟨by (with_reducible repeat (first | refine blk_drewN ?_ _ | refine blk_drew ?_ | refine blk_alloc ?_ _)); exact BK358.out⟩, ⟨by repeat (first | (with_reducible first | exact HB.out | apply below_alloc | apply pw_below_drewN | apply below_drew1 | refine below_set ?_ GE358.out) | exact HB.out)⟩⟩
  case rest =>
    clear HC3
    try clear c1
    try clear p2
    try clear c3
    try clear c5
    try clear c5b0
    try clear c5b1
    try clear hcz6_0
    try clear hcz6_1
    try clear hcz6_2
    try clear hcz6_3
    try clear hcz6_4
    try clear hcz6_5
    try clear hcz6_6
    try clear hcz7_0
    try clear hcz7_1
    try clear hcz7_2
    try clear hcz7_3
    try clear hcz7_4
    try clear hcz7_5
    try clear hcz7_6
    try clear hfz6_0
    try clear hfz6_1
    try clear hfz6_2
    try clear hfz6_3
    try clear hfz6_4
    try clear hfz6_5
    try clear hfz6_6
    try clear hfz7_0
    try clear hfz7_1
    try clear hfz7_2
    try clear hfz7_3
    try clear hfz7_4
    try clear hfz7_5
    try clear hfz7_6
    obtain ⟨kq, x14_2, rfl, HA, HJ2, BK358, HB⟩ := hcut
    cases kq with
    | zero => exact absurd HA.out (by simp [sizarref20_Few.j0])
    | succ kj2 =>
      have H := HA.out
      clear HA
      simp only [sizarref20_Few.j0] at H
      by_cases c8 : x14_2 = true
      · subst c8
        have H1 : (some false) = some r := by rw [if_pos rfl] at H; exact H
        clear H
        have H := H1
        clear H1
        obtain rfl := Option.some.inj H
        go_wp2
        go_ret
        exact ⟨by first | rfl | (simp [errW_none, errW_some] <;> rfl) | (simp [*, errW_none, errW_some] <;> rfl), by repeat (first | (with_reducible first | exact HB.out | apply below_alloc | apply pw_below_drewN | apply below_drew1 | refine below_set ?_ GE358.out) | exact HB.out)⟩
      · replace c8 := Bool.eq_false_iff.mpr c8
        subst c8
        have H1 : (sizarref20_Few.l0 kj2 0 a0_0 a0_1 a0_2 a0_3 a0_4 a0_5 l0_6) = some r := by rw [if_neg (show ¬ (false = true) by decide)] at H; exact H
        clear H
        have H := H1
        clear H1
        have H' := Aside0.mk H
        clear H
        go_wp2
        go_loopg [5] kj2 (fun kq v5 w' => ∃ (x5_2 : Int), v5 = .int .i64 x5_2 ∧ Aside0 (sizarref20_Few.l0 kq x5_2 a0_0 a0_1 a0_2 a0_3 a0_4 a0_5 l0_6 = some r) ∧ Aside0 (kq ≤ kj2) ∧ Aside0 (w'.heap[gb358]? = some (.cells #[.string a0_0, .int .i64 a0_1, .int .i64 a0_2, .int .i64 a0_3, .int .i64 a0_4, .int .i64 a0_5, (.slice A0_6 l0_6.length c0_6)] 41 (0, 0))) ∧ Aside0 (Below w.heap.size w w'))
        case atStart => exact ⟨(0), (by first | rfl | (simp; done) | (simp [*]; done)), H', ⟨Nat.le_refl _⟩, ⟨by (with_reducible repeat (first | refine blk_drewN ?_ _ | refine blk_drew ?_ | refine blk_alloc ?_ _)); exact BK358.out⟩, ⟨by repeat (first | (with_reducible first | exact HB.out | apply below_alloc | apply pw_below_drewN | apply below_drew1 | refine below_set ?_ GE358.out) | exact HB.out)⟩⟩
        case round =>
          clear H'
          try clear c1
          try clear p2
          try clear c3
          try clear c5
          try clear c5b0
          try clear c5b1
          try clear c8
          try clear hcz6_0
          try clear hcz6_1
          try clear hcz6_2
          try clear hcz6_3
          try clear hcz6_4
          try clear hcz6_5
          try clear hcz6_6
          try clear hcz7_0
          try clear hcz7_1
          try clear hcz7_2
          try clear hcz7_3
          try clear hcz7_4
          try clear hcz7_5
          try clear hcz7_6
          try clear hfz6_0
          try clear hfz6_1
          try clear hfz6_2
          try clear hfz6_3
          try clear hfz6_4
          try clear hfz6_5
          try clear hfz6_6
          try clear hfz7_0
          try clear hfz7_1
          try clear hfz7_2
          try clear hfz7_3
          try clear hfz7_4
          try clear hfz7_5
          try clear hfz7_6
          try clear p2
          obtain ⟨x5_2, rfl, HA, HK2, BK358, HB⟩ := hrel
          cases gk with
          | zero => exact absurd HA.out (by simp [sizarref20_Few.l0])
          | succ k2 =>
            have H := HA.out
            clear HA
            simp only [sizarref20_Few.l0] at H
            by_cases c9 : x5_2 < (l0_6.length : Int)
            · rw [if_pos c9] at H
              have c9b0 : decide (x5_2 < (l0_6.length : Int)) = true := decide_eq_true c9
              clear c9
              by_cases c10 : 0 ≤ x5_2
              · rw [if_pos c10] at H
                have c10b0 : decide (0 ≤ x5_2) = true := decide_eq_true c10
                clear c10
                by_cases c11 : (((rd_T92 l0_6 x5_2).f5).length : Int) > 20
                · rw [if_pos c11] at H
                  have c11b0 : decide (20 < (((rd_T92 l0_6 x5_2).f5).length : Int)) = true := decide_eq_true c11
                  have c11b1 : decide (20 < ((rd_T92 l0_6 x5_2).f5).length) = true := decide_eq_true (by omega)
                  clear c11
                  obtain rfl := Option.some.inj H
                  have hcz12_0 : wr.cell? ⟨gb358, 0, none⟩ = some (.string a0_0) := (blk_cell BK358.out 0).trans rfl
                  have hcz12_1 : wr.cell? ⟨gb358, 1, none⟩ = some (.int .i64 a0_1) := (blk_cell BK358.out 1).trans rfl
                  have hcz12_2 : wr.cell? ⟨gb358, 2, none⟩ = some (.int .i64 a0_2) := (blk_cell BK358.out 2).trans rfl
                  have hcz12_3 : wr.cell? ⟨gb358, 3, none⟩ = some (.int .i64 a0_3) := (blk_cell BK358.out 3).trans rfl
                  have hcz12_4 : wr.cell? ⟨gb358, 4, none⟩ = some (.int .i64 a0_4) := (blk_cell BK358.out 4).trans rfl
                  have hcz12_5 : wr.cell? ⟨gb358, 5, none⟩ = some (.int .i64 a0_5) := (blk_cell BK358.out 5).trans rfl
                  have hcz12_6 : wr.cell? ⟨gb358, 6, none⟩ = some (.slice A0_6 l0_6.length c0_6) := (blk_cell BK358.out 6).trans rfl
                  have hfz12_0 := blk_frozen BK358.out 0
                  have hfz12_1 := blk_frozen BK358.out 1
                  have hfz12_2 := blk_frozen BK358.out 2
                  have hfz12_3 := blk_frozen BK358.out 3
                  have hfz12_4 := blk_frozen BK358.out 4
                  have hfz12_5 := blk_frozen BK358.out 5
                  have hfz12_6 := blk_frozen BK358.out 6
                  have p359 : 0 ≤ (x5_2 : Int) := of_decide_eq_true (by first | (with_reducible assumption) | assumption)
                  have q359 : x5_2 < (l0_6.length : Int) := of_decide_eq_true (by first | (with_reducible assumption) | assumption)
                  obtain ⟨ad359, A359_4, c359_4, A359_5, c359_5, e359, hx359_0, hx359_1, hx359_2, hx359_3, hx359_4, hx359_5, hl359_4, hi359_4, hl359_5, hi359_5⟩ := at_T92 HR0_6.out x5_2 p359 q359
                  cases e359
                  replace hx359_0 := (HB.out.cell (World.block_lt_of_cell? w _ hx359_0)).trans hx359_0
                  replace hx359_1 := (HB.out.cell (World.block_lt_of_cell? w _ hx359_1)).trans hx359_1
                  replace hx359_2 := (HB.out.cell (World.block_lt_of_cell? w _ hx359_2)).trans hx359_2
                  replace hx359_3 := (HB.out.cell (World.block_lt_of_cell? w _ hx359_3)).trans hx359_3
                  replace hx359_4 := (HB.out.cell (World.block_lt_of_cell? w _ hx359_4)).trans hx359_4
                  replace hx359_5 := (HB.out.cell (World.block_lt_of_cell? w _ hx359_5)).trans hx359_5
                  have HR359_4 := Aside0.mk hi359_4
                  have HC359_4 := Aside0.mk hl359_4
                  clear hi359_4 hl359_4
                  have HR359_5 := Aside0.mk hi359_5
                  have HC359_5 := Aside0.mk hl359_5
                  clear hi359_5 hl359_5
                  replace p359 := eq_true p359
                  replace q359 := eq_true q359
                  go_wp2
                  go_ret
                  exact ⟨by first | rfl | (simp [errW_none, errW_some] <;> rfl) | (simp [*, errW_none, errW_some] <;> rfl), by repeat (first | (with_reducible first | exact HB.out | apply below_alloc | apply pw_below_drewN | apply below_drew1 | refine below_set ?_ GE358.out) | exact HB.out)⟩
                · rw [if_neg c11] at H
                  have c11b0 : decide (20 < (((rd_T92 l0_6 x5_2).f5).length : Int)) = false := decide_eq_false c11
                  have c11b1 : decide (20 < ((rd_T92 l0_6 x5_2).f5).length) = false := decide_eq_false (by omega)
                  clear c11
                  have H' := Aside0.mk H
                  clear H
                  have hcz13_0 : wr.cell? ⟨gb358, 0, none⟩ = some (.string a0_0) := (blk_cell BK358.out 0).trans rfl
                  have hcz13_1 : wr.cell? ⟨gb358, 1, none⟩ = some (.int .i64 a0_1) := (blk_cell BK358.out 1).trans rfl
                  have hcz13_2 : wr.cell? ⟨gb358, 2, none⟩ = some (.int .i64 a0_2) := (blk_cell BK358.out 2).trans rfl
                  have hcz13_3 : wr.cell? ⟨gb358, 3, none⟩ = some (.int .i64 a0_3) := (blk_cell BK358.out 3).trans rfl
                  have hcz13_4 : wr.cell? ⟨gb358, 4, none⟩ = some (.int .i64 a0_4) := (blk_cell BK358.out 4).trans rfl
                  have hcz13_5 : wr.cell? ⟨gb358, 5, none⟩ = some (.int .i64 a0_5) := (blk_cell BK358.out 5).trans rfl
                  have hcz13_6 : wr.cell? ⟨gb358, 6, none⟩ = some (.slice A0_6 l0_6.length c0_6) := (blk_cell BK358.out 6).trans rfl
                  have hfz13_0 := blk_frozen BK358.out 0
                  have hfz13_1 := blk_frozen BK358.out 1
                  have hfz13_2 := blk_frozen BK358.out 2
                  have hfz13_3 := blk_frozen BK358.out 3
                  have hfz13_4 := blk_frozen BK358.out 4
                  have hfz13_5 := blk_frozen BK358.out 5
                  have hfz13_6 := blk_frozen BK358.out 6
                  have p359 : 0 ≤ (x5_2 : Int) := of_decide_eq_true (by first | (with_reducible assumption) | assumption)
                  have q359 : x5_2 < (l0_6.length : Int) := of_decide_eq_true (by first | (with_reducible assumption) | assumption)
                  obtain ⟨ad359, A359_4, c359_4, A359_5, c359_5, e359, hx359_0, hx359_1, hx359_2, hx359_3, hx359_4, hx359_5, hl359_4, hi359_4, hl359_5, hi359_5⟩ := at_T92 HR0_6.out x5_2 p359 q359
                  cases e359
                  replace hx359_0 := (HB.out.cell (World.block_lt_of_cell? w _ hx359_0)).trans hx359_0
                  replace hx359_1 := (HB.out.cell (World.block_lt_of_cell? w _ hx359_1)).trans hx359_1
                  replace hx359_2 := (HB.out.cell (World.block_lt_of_cell? w _ hx359_2)).trans hx359_2
                  replace hx359_3 := (HB.out.cell (World.block_lt_of_cell? w _ hx359_3)).trans hx359_3
                  replace hx359_4 := (HB.out.cell (World.block_lt_of_cell? w _ hx359_4)).trans hx359_4
                  replace hx359_5 := (HB.out.cell (World.block_lt_of_cell? w _ hx359_5)).trans hx359_5
                  have HR359_4 := Aside0.mk hi359_4
                  have HC359_4 := Aside0.mk hl359_4
                  clear hi359_4 hl359_4
                  have HR359_5 := Aside0.mk hi359_5
                  have HC359_5 := Aside0.mk hl359_5
                  clear hi359_5 hl359_5
                  replace p359 := eq_true p359
                  replace q359 := eq_true q359
                  go_wp2
                  go_roundg k2
                  case measure => have := HJ2.out; have := HK2.out; omega
                  case rel => exact ⟨(wrap64 (x5_2 + 1)), (by first | rfl | (simp; done) | (simp [*]; done)), H', ⟨by have := HJ2.out; have := HK2.out; omega⟩, ⟨by (with_reducible repeat (first | refine blk_drewN ?_ _ | refine blk_drew ?_ | refine blk_alloc ?_ _)); exact BK358.out⟩, ⟨by repeat (first | (with_reducible first | exact HB.out | apply below_alloc | apply pw_below_drewN | apply below_drew1 | refine below_set ?_ GE358.out) | exact HB.out)⟩⟩
              · rw [if_neg c10] at H
                exact absurd H (by simp)
            · rw [if_neg c9] at H
              have c9b0 : decide (x5_2 < (l0_6.length : Int)) = false := decide_eq_false c9
              clear c9
              obtain rfl := Option.some.inj H
              have hcz14_0 : wr.cell? ⟨gb358, 0, none⟩ = some (.string a0_0) := (blk_cell BK358.out 0).trans rfl
              have hcz14_1 : wr.cell? ⟨gb358, 1, none⟩ = some (.int .i64 a0_1) := (blk_cell BK358.out 1).trans rfl
              have hcz14_2 : wr.cell? ⟨gb358, 2, none⟩ = some (.int .i64 a0_2) := (blk_cell BK358.out 2).trans rfl
              have hcz14_3 : wr.cell? ⟨gb358, 3, none⟩ = some (.int .i64 a0_3) := (blk_cell BK358.out 3).trans rfl
              have hcz14_4 : wr.cell? ⟨gb358, 4, none⟩ = some (.int .i64 a0_4) := (blk_cell BK358.out 4).trans rfl
              have hcz14_5 : wr.cell? ⟨gb358, 5, none⟩ = some (.int .i64 a0_5) := (blk_cell BK358.out 5).trans rfl
              have hcz14_6 : wr.cell? ⟨gb358, 6, none⟩ = some (.slice A0_6 l0_6.length c0_6) := (blk_cell BK358.out 6).trans rfl
              have hfz14_0 := blk_frozen BK358.out 0
              have hfz14_1 := blk_frozen BK358.out 1
              have hfz14_2 := blk_frozen BK358.out 2
              have hfz14_3 := blk_frozen BK358.out 3
              have hfz14_4 := blk_frozen BK358.out 4
              have hfz14_5 := blk_frozen BK358.out 5
              have hfz14_6 := blk_frozen BK358.out 6
              go_wp2
              go_ret
              exact ⟨by first | rfl | (simp [errW_none, errW_some] <;> rfl) | (simp [*, errW_none, errW_some] <;> rfl), by repeat (first | (with_reducible first | exact HB.out | apply below_alloc | apply pw_below_drewN | apply below_drew1 | refine below_set ?_ GE358.out) | exact HB.out)⟩
end Go.Proofs.Ytadeidhefjifaaa.Px
end
section
namespace Go.Proofs.Ytadeidhefjifaaa.Px
open Go.RowKit Go.Proofs.YtadeidhefjifaaaW.PrintWords Go.Proofs.YtadeidhefjifaaaW.PrintLast Go.Proofs.YtadeidhefjifaaaW.PrintMore
attribute [local go_sem] max2_int min2_int max_two min_two max_three min_three max_four min_four   -- for this text's walks alone
set_option linter.unusedVariables false
set_option linter.unusedSimpArgs false
def sizarlaw20_ProofOptimal.j0 : Nat → List (S57) → Bool → ByteArray → Int → Int → Int → Int → Int → List (S92) → List (S57) → Int → List Bool → Option (Bool)
  | 0, _, _, _, _, _, _, _, _, _, _, _, _ => none
  | k + 1, x3, x41, x607000, x607001, x607002, x607003, x607004, x607005, x607006, x608000, x608001, x608002 => if x41 = true then (some true) else ((proof_Missing.f k x607000 x607001 x607002 x607003 x607004 x607005 x607006 x3).bind fun bt612 => (if bt612.2 = 0 then (some (decide (bt612.1 ≥ x608001))) else (some false)))
def sizarlaw20_ProofOptimal.f (k : Nat) (a0_0 : ByteArray) (a0_1 : Int) (a0_2 : Int) (a0_3 : Int) (a0_4 : Int) (a0_5 : Int) (l0_6 : List (S92)) (l1 : List (S44)) (l2_0 : List (S57)) (a2_1 : Int) (l2_2 : List Bool) (l3 : List (S57)) : Option (Bool) := (sizarlaw20_sane.f k).bind fun t608 => (if t608 = true then ((sizarref20_Few.f k a0_0 a0_1 a0_2 a0_3 a0_4 a0_5 l0_6 l1).bind fun t609 => (if t609 = true then (if (l3.length : Int) > 60 then (sizarlaw20_ProofOptimal.j0 k l3 true a0_0 a0_1 a0_2 a0_3 a0_4 a0_5 l0_6 l2_0 a2_1 l2_2) else (if (l2_0.length : Int) > 60 then (sizarlaw20_ProofOptimal.j0 k l3 true a0_0 a0_1 a0_2 a0_3 a0_4 a0_5 l0_6 l2_0 a2_1 l2_2) else ((proof_Check.f k a0_0 a0_1 a0_2 a0_3 a0_4 a0_5 l0_6 l1 l2_0 a2_1 l2_2).bind fun t610 => (if t610 = 0 then ((proof_Allowed.f a0_0 a0_1 a0_2 a0_3 a0_4 a0_5 l0_6 l1 l3).bind fun t611 => (sizarlaw20_ProofOptimal.j0 k l3 (t611 != 0) a0_0 a0_1 a0_2 a0_3 a0_4 a0_5 l0_6 l2_0 a2_1 l2_2)) else (sizarlaw20_ProofOptimal.j0 k l3 true a0_0 a0_1 a0_2 a0_3 a0_4 a0_5 l0_6 l2_0 a2_1 l2_2))))) else (sizarlaw20_ProofOptimal.j0 k l3 true a0_0 a0_1 a0_2 a0_3 a0_4 a0_5 l0_6 l2_0 a2_1 l2_2))) else (some false))
set_option maxHeartbeats 8000000 in
set_option maxRecDepth 100000 in
theorem sizarlaw20_ProofOptimal.calls (k : Nat) (a0_0 : ByteArray) (a0_1 : Int) (a0_2 : Int) (a0_3 : Int) (a0_4 : Int) (a0_5 : Int) (A0_6 : Option Addr) (c0_6 : Nat) (l0_6 : List (S92)) (A1 : Option Addr) (c1 : Nat) (l1 : List (S44)) (A2_0 : Option Addr) (c2_0 : Nat) (l2_0 : List (S57)) (a2_1 : Int) (A2_2 : Option Addr) (c2_2 : Nat) (l2_2 : List Bool) (A3 : Option Addr) (c3 : Nat) (l3 : List (S57)) (r : Bool) (w : World) (hr0_6 : Kd.C k92 w A0_6 l0_6.length l0_6) (hc0_6 : l0_6.length ≤ c0_6) (hr1 : Kd.C k44 w A1 l1.length l1) (hc1 : l1.length ≤ c1) (hr2_0 : Kd.C k57 w A2_0 l2_0.length l2_0) (hc2_0 : l2_0.length ≤ c2_0) (hr2_2 : Kd.C Kd.bool w A2_2 l2_2.length l2_2) (hc2_2 : l2_2.length ≤ c2_2) (hr3 : Kd.C k57 w A3 l3.length l3) (hc3 : l3.length ≤ c3) (h : sizarlaw20_ProofOptimal.f k a0_0 a0_1 a0_2 a0_3 a0_4 a0_5 l0_6 l1 l2_0 a2_1 l2_2 l3 = some r) :
    Calls Try.prog 16 #[.agg #[.string a0_0, .int .i64 a0_1, .int .i64 a0_2, .int .i64 a0_3, .int .i64 a0_4, .int .i64 a0_5, .slice A0_6 l0_6.length c0_6], .slice A1 l1.length c1, .agg #[.slice A2_0 l2_0.length c2_0, .int .i64 a2_1, .slice A2_2 l2_2.length c2_2], .slice A3 l3.length c3] w fun e w' => e = .returned (.bool r) ∧ Below w.heap.size w w' := by
  have hu41 := Try.underlying41
  have hu48 := Try.underlying48
  have HR0_6 := Aside0.mk hr0_6
  have HC0_6 := Aside0.mk hc0_6
  clear hr0_6 hc0_6
  have HR1 := Aside0.mk hr1
  have HC1 := Aside0.mk hc1
  clear hr1 hc1
  have HR2_0 := Aside0.mk hr2_0
  have HC2_0 := Aside0.mk hc2_0
  clear hr2_0 hc2_0
  have HR2_2 := Aside0.mk hr2_2
  have HC2_2 := Aside0.mk hc2_2
  clear hr2_2 hc2_2
  have HR3 := Aside0.mk hr3
  have HC3 := Aside0.mk hc3
  clear hr3 hc3
  have HB := Aside0.mk (Below.refl w.heap.size w)
  have H : ((sizarlaw20_sane.f k).bind fun t608 => (if t608 = true then ((sizarref20_Few.f k a0_0 a0_1 a0_2 a0_3 a0_4 a0_5 l0_6 l1).bind fun t609 => (if t609 = true then (if (l3.length : Int) > 60 then (sizarlaw20_ProofOptimal.j0 k l3 true a0_0 a0_1 a0_2 a0_3 a0_4 a0_5 l0_6 l2_0 a2_1 l2_2) else (if (l2_0.length : Int) > 60 then (sizarlaw20_ProofOptimal.j0 k l3 true a0_0 a0_1 a0_2 a0_3 a0_4 a0_5 l0_6 l2_0 a2_1 l2_2) else ((proof_Check.f k a0_0 a0_1 a0_2 a0_3 a0_4 a0_5 l0_6 l1 l2_0 a2_1 l2_2).bind fun t610 => (if t610 = 0 then ((proof_Allowed.f a0_0 a0_1 a0_2 a0_3 a0_4 a0_5 l0_6 l1 l3).bind fun t611 => (sizarlaw20_ProofOptimal.j0 k l3 (t611 != 0) a0_0 a0_1 a0_2 a0_3 a0_4 a0_5 l0_6 l2_0 a2_1 l2_2)) else (sizarlaw20_ProofOptimal.j0 k l3 true a0_0 a0_1 a0_2 a0_3 a0_4 a0_5 l0_6 l2_0 a2_1 l2_2))))) else (sizarlaw20_ProofOptimal.j0 k l3 true a0_0 a0_1 a0_2 a0_3 a0_4 a0_5 l0_6 l2_0 a2_1 l2_2))) else (some false))) = some r := h
  clear h
  replace H := Option.bind_eq_some_iff.mp H
  obtain ⟨t608, A50, H⟩ := H
  replace H : (if t608 = true then ((sizarref20_Few.f k a0_0 a0_1 a0_2 a0_3 a0_4 a0_5 l0_6 l1).bind fun t609 => (if t609 = true then (if (l3.length : Int) > 60 then (sizarlaw20_ProofOptimal.j0 k l3 true a0_0 a0_1 a0_2 a0_3 a0_4 a0_5 l0_6 l2_0 a2_1 l2_2) else (if (l2_0.length : Int) > 60 then (sizarlaw20_ProofOptimal.j0 k l3 true a0_0 a0_1 a0_2 a0_3 a0_4 a0_5 l0_6 l2_0 a2_1 l2_2) else ((proof_Check.f k a0_0 a0_1 a0_2 a0_3 a0_4 a0_5 l0_6 l1 l2_0 a2_1 l2_2).bind fun t610 => (if t610 = 0 then ((proof_Allowed.f a0_0 a0_1 a0_2 a0_3 a0_4 a0_5 l0_6 l1 l3).bind fun t611 => (sizarlaw20_ProofOptimal.j0 k l3 (t611 != 0) a0_0 a0_1 a0_2 a0_3 a0_4 a0_5 l0_6 l2_0 a2_1 l2_2)) else (sizarlaw20_ProofOptimal.j0 k l3 true a0_0 a0_1 a0_2 a0_3 a0_4 a0_5 l0_6 l2_0 a2_1 l2_2))))) else (sizarlaw20_ProofOptimal.j0 k l3 true a0_0 a0_1 a0_2 a0_3 a0_4 a0_5 l0_6 l2_0 a2_1 l2_2))) else (some false)) = some r := H
  have A5 := Aside0.mk A50
  clear A50
  by_cases c6 : t608 = true
  · subst c6
    have H1 : ((sizarref20_Few.f k a0_0 a0_1 a0_2 a0_3 a0_4 a0_5 l0_6 l1).bind fun t609 => (if t609 = true then (if (l3.length : Int) > 60 then (sizarlaw20_ProofOptimal.j0 k l3 true a0_0 a0_1 a0_2 a0_3 a0_4 a0_5 l0_6 l2_0 a2_1 l2_2) else (if (l2_0.length : Int) > 60 then (sizarlaw20_ProofOptimal.j0 k l3 true a0_0 a0_1 a0_2 a0_3 a0_4 a0_5 l0_6 l2_0 a2_1 l2_2) else ((proof_Check.f k a0_0 a0_1 a0_2 a0_3 a0_4 a0_5 l0_6 l1 l2_0 a2_1 l2_2).bind fun t610 => (if t610 = 0 then ((proof_Allowed.f a0_0 a0_1 a0_2 a0_3 a0_4 a0_5 l0_6 l1 l3).bind fun t611 => (sizarlaw20_ProofOptimal.j0 k l3 (t611 != 0) a0_0 a0_1 a0_2 a0_3 a0_4 a0_5 l0_6 l2_0 a2_1 l2_2)) else (sizarlaw20_ProofOptimal.j0 k l3 true a0_0 a0_1 a0_2 a0_3 a0_4 a0_5 l0_6 l2_0 a2_1 l2_2))))) else (sizarlaw20_ProofOptimal.j0 k l3 true a0_0 a0_1 a0_2 a0_3 a0_4 a0_5 l0_6 l2_0 a2_1 l2_2))) = some r := by rw [if_pos rfl] at H; exact H
    clear H
    have H := H1
    clear H1
    have HC7 := Aside0.mk H
    clear H
    go_enter Try.func16, Try.ntmps16
    go_upto_region 3 with (first | ((with_reducible refine gate_dst (N := 4) rfl ?_); (try (refine gate_guard (by rfl) ?_; dsimp only)); refine box_event ?hg (N := 4) ?hd (cs := #[.string a0_0, .int .i64 a0_1, .int .i64 a0_2, .int .i64 a0_3, .int .i64 a0_4, .int .i64 a0_5, .slice A0_6 l0_6.length c0_6]) (t := 41) ?hr ?_; (case hd => rfl); (case hg => rfl); (case hr => first | (go_simp; done) | (go_simp; rfl)); intro gb606 hg w8 hbox hb; have n0_ := Aside0.mk (below_step (by repeat (first | (with_reducible first | exact HB.out | apply below_alloc | apply pw_below_drewN | apply below_drew1) | exact HB.out)) hb); have n1_ := Aside0.mk (hbox); have n2_ := Aside0.mk ((by rw [hg]; exact (below_size (by repeat (first | (with_reducible first | exact HB.out | apply below_alloc | apply pw_below_drewN | apply below_drew1) | exact HB.out))) : w.heap.size ≤ gb606)); have n3_ := Aside0.mk ((by rw [hg]; exact (below_size (by repeat (first | (with_reducible first | exact HB.out | apply below_alloc | apply pw_below_drewN | apply below_drew1) | exact HB.out))) : w.heap.size ≤ gb606)); clear HB; have HB := n0_; have BK606 := n1_; have GW606 := n2_; have GE606 := n3_; clear n0_ n1_ n2_ n3_; clear hb hbox hg) | ((with_reducible refine gate_dst (N := 6) rfl ?_); (try (refine gate_guard (by rfl) ?_; dsimp only)); refine box_event ?hg (N := 6) ?hd (cs := #[.slice A2_0 l2_0.length c2_0, .int .i64 a2_1, .slice A2_2 l2_2.length c2_2]) (t := 48) ?hr ?_; (case hd => rfl); (case hg => rfl); (case hr => first | (go_simp; done) | (go_simp; rfl)); intro gb607 hg w9 hbox hb; have n0_ := Aside0.mk (blk_below (g := gb606) (o := .cells #[.string a0_0, .int .i64 a0_1, .int .i64 a0_2, .int .i64 a0_3, .int .i64 a0_4, .int .i64 a0_5, .slice A0_6 l0_6.length c0_6] 41 (0, 0)) (by (with_reducible repeat (first | refine blk_drewN ?_ _ | refine blk_drew ?_ | refine blk_alloc ?_ _)); exact BK606.out) hb); have n1_ := Aside0.mk (below_step (by repeat (first | (with_reducible first | exact HB.out | apply below_alloc | apply pw_below_drewN | apply below_drew1 | refine below_set ?_ GE606.out) | exact HB.out)) hb); have n2_ := Aside0.mk (hbox); have n3_ := Aside0.mk ((by rw [hg]; exact (below_size (by repeat (first | (with_reducible first | exact HB.out | apply below_alloc | apply pw_below_drewN | apply below_drew1 | refine below_set ?_ GE606.out) | exact HB.out))) : w.heap.size ≤ gb607)); have n4_ := Aside0.mk ((by rw [hg]; exact (below_size (by repeat (first | (with_reducible first | exact HB.out | apply below_alloc | apply pw_below_drewN | apply below_drew1 | refine below_set ?_ GE606.out) | exact HB.out))) : w.heap.size ≤ gb607)); have n5_ := Aside0.mk ((by rw [hg]; exact Nat.ne_of_lt (blk_lt (g := gb606) (o := .cells #[.string a0_0, .int .i64 a0_1, .int .i64 a0_2, .int .i64 a0_3, .int .i64 a0_4, .int .i64 a0_5, .slice A0_6 l0_6.length c0_6] 41 (0, 0)) (by (with_reducible repeat (first | refine blk_drewN ?_ _ | refine blk_drew ?_ | refine blk_alloc ?_ _)); exact BK606.out)) : gb606 ≠ gb607)); have n6_ := Aside0.mk ((by rw [hg]; exact Nat.ne_of_gt (blk_lt (g := gb606) (o := .cells #[.string a0_0, .int .i64 a0_1, .int .i64 a0_2, .int .i64 a0_3, .int .i64 a0_4, .int .i64 a0_5, .slice A0_6 l0_6.length c0_6] 41 (0, 0)) (by (with_reducible repeat (first | refine blk_drewN ?_ _ | refine blk_drew ?_ | refine blk_alloc ?_ _)); exact BK606.out)) : gb607 ≠ gb606)); clear BK606; clear HB; have BK606 := n0_; have HB := n1_; have BK607 := n2_; have GW607 := n3_; have GE607 := n4_; have NB606_607 := n5_; have NB607_606 := n6_; clear n0_ n1_ n2_ n3_ n4_ n5_ n6_; clear hb hbox hg) | ((with_reducible refine gate_callee (f := 30) rfl ?_); refine goesL_ (some 11) rfl rfl Try.func30 (by kernel_rfl) rfl #[] rfl (by (try simp only [List.map_toArray, List.map_cons, List.map_nil]); first | done | rfl | (simp only [List.length_drop, List.length_take]; rfl)) ?_; (with_reducible refine (sizarlaw20_sane.calls k  true _ A5.out).mono ?_); rintro e w10 ⟨rfl, hb⟩; refine ⟨_, rfl, ?_⟩; have n0_ := Aside0.mk (blk_below (g := gb606) (o := .cells #[.string a0_0, .int .i64 a0_1, .int .i64 a0_2, .int .i64 a0_3, .int .i64 a0_4, .int .i64 a0_5, .slice A0_6 l0_6.length c0_6] 41 (0, 0)) (by (with_reducible repeat (first | refine blk_drewN ?_ _ | refine blk_drew ?_ | refine blk_alloc ?_ _)); exact BK606.out) hb); have n1_ := Aside0.mk (blk_below (g := gb607) (o := .cells #[.slice A2_0 l2_0.length c2_0, .int .i64 a2_1, .slice A2_2 l2_2.length c2_2] 48 (0, 0)) (by (with_reducible repeat (first | refine blk_drewN ?_ _ | refine blk_drew ?_ | refine blk_alloc ?_ _)); exact BK607.out) hb); have n2_ := Aside0.mk (below_step (by repeat (first | (with_reducible first | exact HB.out | apply below_alloc | apply pw_below_drewN | apply below_drew1 | refine below_set ?_ GE606.out | refine below_set ?_ GE607.out) | exact HB.out)) hb); clear BK606; clear BK607; clear HB; have BK606 := n0_; have BK607 := n1_; have HB := n2_; clear n0_ n1_ n2_; (try clear hb); (try clear hb2); (try clear hk); (try clear hi)))
    (try simp only [Act.put, List.setIfInBounds_toArray, List.set_cons_zero, List.set_cons_succ])
    go_cut [41] (fun v41 wc => ∃ (kq : Nat) (x41_6 : Bool), v41 = .bool x41_6 ∧ Aside0 (sizarlaw20_ProofOptimal.j0 kq l3 x41_6 a0_0 a0_1 a0_2 a0_3 a0_4 a0_5 l0_6 l2_0 a2_1 l2_2 = some r) ∧ Aside0 (kq ≤ k) ∧ Aside0 (wc.heap[gb606]? = some (.cells #[.string a0_0, .int .i64 a0_1, .int .i64 a0_2, .int .i64 a0_3, .int .i64 a0_4, .int .i64 a0_5, (.slice A0_6 l0_6.length c0_6)] 41 (0, 0))) ∧ Aside0 (wc.heap[gb607]? = some (.cells #[(.slice A2_0 l2_0.length c2_0), .int .i64 a2_1, (.slice A2_2 l2_2.length c2_2)] 48 (0, 0))) ∧ Aside0 (Below w.heap.size w wc))
    case first =>
      have H := HC7.out
      clear HC7
      replace H := Option.bind_eq_some_iff.mp H
      obtain ⟨t609, A110, H⟩ := H
      replace H : (if t609 = true then (if (l3.length : Int) > 60 then (sizarlaw20_ProofOptimal.j0 k l3 true a0_0 a0_1 a0_2 a0_3 a0_4 a0_5 l0_6 l2_0 a2_1 l2_2) else (if (l2_0.length : Int) > 60 then (sizarlaw20_ProofOptimal.j0 k l3 true a0_0 a0_1 a0_2 a0_3 a0_4 a0_5 l0_6 l2_0 a2_1 l2_2) else ((proof_Check.f k a0_0 a0_1 a0_2 a0_3 a0_4 a0_5 l0_6 l1 l2_0 a2_1 l2_2).bind fun t610 => (if t610 = 0 then ((proof_Allowed.f a0_0 a0_1 a0_2 a0_3 a0_4 a0_5 l0_6 l1 l3).bind fun t611 => (sizarlaw20_ProofOptimal.j0 k l3 (t611 != 0) a0_0 a0_1 a0_2 a0_3 a0_4 a0_5 l0_6 l2_0 a2_1 l2_2)) else (sizarlaw20_ProofOptimal.j0 k l3 true a0_0 a0_1 a0_2 a0_3 a0_4 a0_5 l0_6 l2_0 a2_1 l2_2))))) else (sizarlaw20_ProofOptimal.j0 k l3 true a0_0 a0_1 a0_2 a0_3 a0_4 a0_5 l0_6 l2_0 a2_1 l2_2)) = some r := H
      have A11 := Aside0.mk A110
      clear A110
      by_cases c12 : t609 = true
      · subst c12
        have H1 : (if (l3.length : Int) > 60 then (sizarlaw20_ProofOptimal.j0 k l3 true a0_0 a0_1 a0_2 a0_3 a0_4 a0_5 l0_6 l2_0 a2_1 l2_2) else (if (l2_0.length : Int) > 60 then (sizarlaw20_ProofOptimal.j0 k l3 true a0_0 a0_1 a0_2 a0_3 a0_4 a0_5 l0_6 l2_0 a2_1 l2_2) else ((proof_Check.f k a0_0 a0_1 a0_2 a0_3 a0_4 a0_5 l0_6 l1 l2_0 a2_1 l2_2).bind fun t610 => (if t610 = 0 then ((proof_Allowed.f a0_0 a0_1 a0_2 a0_3 a0_4 a0_5 l0_6 l1 l3).bind fun t611 => (sizarlaw20_ProofOptimal.j0 k l3 (t611 != 0) a0_0 a0_1 a0_2 a0_3 a0_4 a0_5 l0_6 l2_0 a2_1 l2_2)) else (sizarlaw20_ProofOptimal.j0 k l3 true a0_0 a0_1 a0_2 a0_3 a0_4 a0_5 l0_6 l2_0 a2_1 l2_2))))) = some r := by rw [if_pos rfl] at H; exact H
        clear H
        have H := H1
        clear H1
        by_cases c13 : (l3.length : Int) > 60
        · rw [if_pos c13] at H
          have c13b0 : decide (60 < (l3.length : Int)) = true := decide_eq_true c13
          have c13b1 : decide (60 < l3.length) = true := decide_eq_true (by omega)
          clear c13
          (first | rw [c13b0] | (simp only [i64_w, i32_w]; rw [c13b0]) | skip)
          have H' := Aside0.mk H
          clear H
          have hnb14 := NB606_607.out
          have hnc14 := NB607_606.out
          have hcz15_0 : w10.cell? ⟨gb606, 0, none⟩ = some (.string a0_0) := (blk_cell BK606.out 0).trans rfl
          have hcz15_1 : w10.cell? ⟨gb606, 1, none⟩ = some (.int .i64 a0_1) := (blk_cell BK606.out 1).trans rfl
          have hcz15_2 : w10.cell? ⟨gb606, 2, none⟩ = some (.int .i64 a0_2) := (blk_cell BK606.out 2).trans rfl
          have hcz15_3 : w10.cell? ⟨gb606, 3, none⟩ = some (.int .i64 a0_3) := (blk_cell BK606.out 3).trans rfl
          have hcz15_4 : w10.cell? ⟨gb606, 4, none⟩ = some (.int .i64 a0_4) := (blk_cell BK606.out 4).trans rfl
          have hcz15_5 : w10.cell? ⟨gb606, 5, none⟩ = some (.int .i64 a0_5) := (blk_cell BK606.out 5).trans rfl
          have hcz15_6 : w10.cell? ⟨gb606, 6, none⟩ = some (.slice A0_6 l0_6.length c0_6) := (blk_cell BK606.out 6).trans rfl
          have hfz15_0 := blk_frozen BK606.out 0
          have hfz15_1 := blk_frozen BK606.out 1
          have hfz15_2 := blk_frozen BK606.out 2
          have hfz15_3 := blk_frozen BK606.out 3
          have hfz15_4 := blk_frozen BK606.out 4
          have hfz15_5 := blk_frozen BK606.out 5
          have hfz15_6 := blk_frozen BK606.out 6
          go_wp2_with (first | ((with_reducible refine gate_callee (f := 31) rfl ?_); refine goesL_ (some 15) rfl rfl Try.func31 (by kernel_rfl) rfl #[.agg #[.string a0_0, .int .i64 a0_1, .int .i64 a0_2, .int .i64 a0_3, .int .i64 a0_4, .int .i64 a0_5, .slice A0_6 l0_6.length c0_6], .slice A1 l1.length c1] rfl (by (try simp only [List.map_toArray, List.map_cons, List.map_nil]); first | done | rfl | (simp only [List.length_drop, List.length_take]; rfl)) ?_; (with_reducible refine (sizarref20_Few.calls k a0_0 a0_1 a0_2 a0_3 a0_4 a0_5 _ _ l0_6 _ _ l1 true _ ?side1 ?side2 ?side3 ?side4 A11.out).mono ?_); (case side1 => repeat (first | exact (Kd.C_below HR0_6.out HB.out) | (with_reducible refine Kd.C_alloc ?_ _) | (with_reducible refine Kd.C_drewN ?_ _) | (with_reducible refine Kd.C_drew ?_))); (case side2 => exact HC0_6.out); (case side3 => repeat (first | exact (Kd.C_below HR1.out HB.out) | (with_reducible refine Kd.C_alloc ?_ _) | (with_reducible refine Kd.C_drewN ?_ _) | (with_reducible refine Kd.C_drew ?_))); (case side4 => exact HC1.out); rintro e w16 ⟨rfl, hb⟩; refine ⟨_, rfl, ?_⟩; have n0_ := Aside0.mk (blk_below (g := gb606) (o := .cells #[.string a0_0, .int .i64 a0_1, .int .i64 a0_2, .int .i64 a0_3, .int .i64 a0_4, .int .i64 a0_5, .slice A0_6 l0_6.length c0_6] 41 (0, 0)) (by (with_reducible repeat (first | refine blk_drewN ?_ _ | refine blk_drew ?_ | refine blk_alloc ?_ _)); exact BK606.out) hb); have n1_ := Aside0.mk (blk_below (g := gb607) (o := .cells #[.slice A2_0 l2_0.length c2_0, .int .i64 a2_1, .slice A2_2 l2_2.length c2_2] 48 (0, 0)) (by (with_reducible repeat (first | refine blk_drewN ?_ _ | refine blk_drew ?_ | refine blk_alloc ?_ _)); exact BK607.out) hb); have n2_ := Aside0.mk (below_step (by repeat (first | (with_reducible first | exact HB.out | apply below_alloc | apply pw_below_drewN | apply below_drew1 | refine below_set ?_ GE606.out | refine below_set ?_ GE607.out) | exact HB.out)) hb); clear BK606; clear BK607; clear HB; have BK606 := n0_; have BK607 := n1_; have HB := n2_; clear n0_ n1_ n2_; (try clear hb); (try clear hb2); (try clear hk); (try clear hi)))
          go_meet
          case rel => exact ⟨_, (true), (by first | rfl | (simp; done) | (simp [*]; done)), H', ⟨by first | omega | exact Nat.le_refl _⟩, ⟨by (with_reducible repeat (first | refine blk_drewN ?_ _ | refine blk_drew ?_ | refine blk_alloc ?_ _)); exact BK606.out⟩, ⟨by (with_reducible repeat (first | refine blk_drewN ?_ _ | refine blk_drew ?_ | refine blk_alloc ?_ _)); exact BK607.out⟩, ⟨by repeat (first | (with_reducible first | exact HB.out | apply below_alloc | apply pw_below_drewN | apply below_drew1 | refine below_set ?_ GE606.out | refine below_set ?_ GE607.out) | exact HB.out)⟩⟩
        · rw [if_neg c13] at H
          have c13b0 : decide (60 < (l3.length : Int)) = false := decide_eq_false c13
          have c13b1 : decide (60 < l3.length) = false := decide_eq_false (by omega)
          clear c13
          (first | rw [c13b0] | (simp only [i64_w, i32_w]; rw [c13b0]) | skip)
          by_cases c17 : (l2_0.length : Int) > 60
          · rw [if_pos c17] at H
            have c17b0 : decide (60 < (l2_0.length : Int)) = true := decide_eq_true c17
            have c17b1 : decide (60 < l2_0.length) = true := decide_eq_true (by omega)
            clear c17
            have H' := Aside0.mk H
            clear H
            have hnb18 := NB606_607.out
            have hnc18 := NB607_606.out
            have hcz19_0 : w10.cell? ⟨gb606, 0, none⟩ = some (.string a0_0) := (blk_cell BK606.out 0).trans rfl
            have hcz19_1 : w10.cell? ⟨gb606, 1, none⟩ = some (.int .i64 a0_1) := (blk_cell BK606.out 1).trans rfl
            have hcz19_2 : w10.cell? ⟨gb606, 2, none⟩ = some (.int .i64 a0_2) := (blk_cell BK606.out 2).trans rfl
            have hcz19_3 : w10.cell? ⟨gb606, 3, none⟩ = some (.int .i64 a0_3) := (blk_cell BK606.out 3).trans rfl
            have hcz19_4 : w10.cell? ⟨gb606, 4, none⟩ = some (.int .i64 a0_4) := (blk_cell BK606.out 4).trans rfl
            have hcz19_5 : w10.cell? ⟨gb606, 5, none⟩ = some (.int .i64 a0_5) := (blk_cell BK606.out 5).trans rfl
            have hcz19_6 : w10.cell? ⟨gb606, 6, none⟩ = some (.slice A0_6 l0_6.length c0_6) := (blk_cell BK606.out 6).trans rfl
            have hfz19_0 := blk_frozen BK606.out 0
            have hfz19_1 := blk_frozen BK606.out 1
            have hfz19_2 := blk_frozen BK606.out 2
            have hfz19_3 := blk_frozen BK606.out 3
            have hfz19_4 := blk_frozen BK606.out 4
            have hfz19_5 := blk_frozen BK606.out 5
            have hfz19_6 := blk_frozen BK606.out 6
            go_wp2_with (first | ((with_reducible refine gate_callee (f := 31) rfl ?_); refine goesL_ (some 15) rfl rfl Try.func31 (by kernel_rfl) rfl #[.agg #[.string a0_0, .int .i64 a0_1, .int .i64 a0_2, .int .i64 a0_3, .int .i64 a0_4, .int .i64 a0_5, .slice A0_6 l0_6.length c0_6], .slice A1 l1.length c1] rfl (by (try simp only [List.map_toArray, List.map_cons, List.map_nil]); first | done | rfl | (simp only [List.length_drop, List.length_take]; rfl)) ?_; (with_reducible refine (sizarref20_Few.calls k a0_0 a0_1 a0_2 a0_3 a0_4 a0_5 _ _ l0_6 _ _ l1 true _ ?side1 ?side2 ?side3 ?side4 A11.out).mono ?_); (case side1 => repeat (first | exact (Kd.C_below HR0_6.out HB.out) | (with_reducible refine Kd.C_alloc ?_ _) | (with_reducible refine Kd.C_drewN ?_ _) | (with_reducible refine Kd.C_drew ?_))); (case side2 => exact HC0_6.out); (case side3 => repeat (first | exact (Kd.C_below HR1.out HB.out) | (with_reducible refine Kd.C_alloc ?_ _) | (with_reducible refine Kd.C_drewN ?_ _) | (with_reducible refine Kd.C_drew ?_))); (case side4 => exact HC1.out); rintro e w20 ⟨rfl, hb⟩; refine ⟨_, rfl, ?_⟩; have n0_ := Aside0.mk (blk_below (g := gb606) (o := .cells #[.string a0_0, .int .i64 a0_1, .int .i64 a0_2, .int .i64 a0_3, .int .i64 a0_4, .int .i64 a0_5, .slice A0_6 l0_6.length c0_6] 41 (0, 0)) (by (with_reducible repeat (first | refine blk_drewN ?_ _ | refine blk_drew ?_ | refine blk_alloc ?_ _)); exact BK606.out) hb); have n1_ := Aside0.mk (blk_below (g := gb607) (o := .cells #[.slice A2_0 l2_0.length c2_0, .int .i64 a2_1, .slice A2_2 l2_2.length c2_2] 48 (0, 0)) (by (with_reducible repeat (first | refine blk_drewN ?_ _ | refine blk_drew ?_ | refine blk_alloc ?_ _)); exact BK607.out) hb); have n2_ := Aside0.mk (below_step (by repeat (first | (with_reducible first | exact HB.out | apply below_alloc | apply pw_below_drewN | apply below_drew1 | refine below_set ?_ GE606.out | refine below_set ?_ GE607.out) | exact HB.out)) hb); clear BK606; clear BK607; clear HB; have BK606 := n0_; have BK607 := n1_; have HB := n2_; clear n0_ n1_ n2_; (try clear hb); (try clear hb2); (try clear hk); (try clear hi); have hcz21_0 : w20.cell? ⟨gb607, 0, none⟩ = some (.slice A2_0 l2_0.length c2_0) := (blk_cell BK607.out 0).trans rfl; have hcz21_1 : w20.cell? ⟨gb607, 1, none⟩ = some (.int .i64 a2_1) := (blk_cell BK607.out 1).trans rfl; have hcz21_2 : w20.cell? ⟨gb607, 2, none⟩ = some (.slice A2_2 l2_2.length c2_2) := (blk_cell BK607.out 2).trans rfl; have hfz21_0 := blk_frozen BK607.out 0; have hfz21_1 := blk_frozen BK607.out 1; have hfz21_2 := blk_frozen BK607.out 2))
            go_meet
            case rel => exact ⟨_, (true), (by first | rfl | (simp; done) | (simp [*]; done)), H', ⟨by first | omega | exact Nat.le_refl _⟩, ⟨by (with_reducible repeat (first | refine blk_drewN ?_ _ | refine blk_drew ?_ | refine blk_alloc ?_ _)); exact BK606.out⟩, ⟨by (with_reducible repeat (first | refine blk_drewN ?_ _ | refine blk_drew ?_ | refine blk_alloc ?_ _)); exact BK607.out⟩, ⟨by repeat (first | (with_reducible first | exact HB.out | apply below_alloc | apply pw_below_drewN | apply below_drew1 | refine below_set ?_ GE606.out | refine below_set ?_ GE607.out) | exact HB.out)⟩⟩
          · rw [if_neg c17] at H
            have c17b0 : decide (60 < (l2_0.length : Int)) = false := decide_eq_false c17
            have c17b1 : decide (60 < l2_0.length) = false := decide_eq_false (by omega)
            clear c17
            replace H := Option.bind_eq_some_iff.mp H
            obtain ⟨t610, A220, H⟩ := H
            replace H : (if t610 = 0 then ((proof_Allowed.f a0_0 a0_1 a0_2 a0_3 a0_4 a0_5 l0_6 l1 l3).bind fun t611 => (sizarlaw20_ProofOptimal.j0 k l3 (t611 != 0) a0_0 a0_1 a0_2 a0_3 a0_4 a0_5 l0_6 l2_0 a2_1 l2_2)) else (sizarlaw20_ProofOptimal.j0 k l3 true a0_0 a0_1 a0_2 a0_3 a0_4 a0_5 l0_6 l2_0 a2_1 l2_2)) = some r := H
            have A22 := Aside0.mk A220
            clear A220
            by_cases c23 : t610 = 0
            · rw [if_pos c23] at H
              have c23b0 : (t610 == 0) = true := beq_iff_eq.mpr c23
              have c23b1 : (t610 != 0) = false := bne_eq_false_iff_eq.mpr c23
              clear c23
              replace H := Option.bind_eq_some_iff.mp H
              obtain ⟨t611, A240, H⟩ := H
              replace H : (sizarlaw20_ProofOptimal.j0 k l3 (t611 != 0) a0_0 a0_1 a0_2 a0_3 a0_4 a0_5 l0_6 l2_0 a2_1 l2_2) = some r := H
              have A24 := Aside0.mk A240
              clear A240
              have H' := Aside0.mk H
              clear H
              have hnb25 := NB606_607.out
              have hnc25 := NB607_606.out
              have hcz26_0 : w10.cell? ⟨gb606, 0, none⟩ = some (.string a0_0) := (blk_cell BK606.out 0).trans rfl
              have hcz26_1 : w10.cell? ⟨gb606, 1, none⟩ = some (.int .i64 a0_1) := (blk_cell BK606.out 1).trans rfl
              have hcz26_2 : w10.cell? ⟨gb606, 2, none⟩ = some (.int .i64 a0_2) := (blk_cell BK606.out 2).trans rfl
              have hcz26_3 : w10.cell? ⟨gb606, 3, none⟩ = some (.int .i64 a0_3) := (blk_cell BK606.out 3).trans rfl
              have hcz26_4 : w10.cell? ⟨gb606, 4, none⟩ = some (.int .i64 a0_4) := (blk_cell BK606.out 4).trans rfl
              have hcz26_5 : w10.cell? ⟨gb606, 5, none⟩ = some (.int .i64 a0_5) := (blk_cell BK606.out 5).trans rfl
              have hcz26_6 : w10.cell? ⟨gb606, 6, none⟩ = some (.slice A0_6 l0_6.length c0_6) := (blk_cell BK606.out 6).trans rfl
              have hfz26_0 := blk_frozen BK606.out 0
              have hfz26_1 := blk_frozen BK606.out 1
              have hfz26_2 := blk_frozen BK606.out 2
              have hfz26_3 := blk_frozen BK606.out 3
              have hfz26_4 := blk_frozen BK606.out 4
              have hfz26_5 := blk_frozen BK606.out 5
              have hfz26_6 := blk_frozen BK606.out 6
              go_wp2_with (first | ((with_reducible refine gate_callee (f := 31) rfl ?_); refine goesL_ (some 15) rfl rfl Try.func31 (by kernel_rfl) rfl #[.agg #[.string a0_0, .int .i64 a0_1, .int .i64 a0_2, .int .i64 a0_3, .int .i64 a0_4, .int .i64 a0_5, .slice A0_6 l0_6.length c0_6], .slice A1 l1.length c1] rfl (by (try simp only [List.map_toArray, List.map_cons, List.map_nil]); first | done | rfl | (simp only [List.length_drop, List.length_take]; rfl)) ?_; (with_reducible refine (sizarref20_Few.calls k a0_0 a0_1 a0_2 a0_3 a0_4 a0_5 _ _ l0_6 _ _ l1 true _ ?side1 ?side2 ?side3 ?side4 A11.out).mono ?_); (case side1 => repeat (first | exact (Kd.C_below HR0_6.out HB.out) | (with_reducible refine Kd.C_alloc ?_ _) | (with_reducible refine Kd.C_drewN ?_ _) | (with_reducible refine Kd.C_drew ?_))); (case side2 => exact HC0_6.out); (case side3 => repeat (first | exact (Kd.C_below HR1.out HB.out) | (with_reducible refine Kd.C_alloc ?_ _) | (with_reducible refine Kd.C_drewN ?_ _) | (with_reducible refine Kd.C_drew ?_))); (case side4 => exact HC1.out); rintro e w27 ⟨rfl, hb⟩; refine ⟨_, rfl, ?_⟩; have n0_ := Aside0.mk (blk_below (g := gb606) (o := .cells #[.string a0_0, .int .i64 a0_1, .int .i64 a0_2, .int .i64 a0_3, .int .i64 a0_4, .int .i64 a0_5, .slice A0_6 l0_6.length c0_6] 41 (0, 0)) (by (with_reducible repeat (first | refine blk_drewN ?_ _ | refine blk_drew ?_ | refine blk_alloc ?_ _)); exact BK606.out) hb); have n1_ := Aside0.mk (blk_below (g := gb607) (o := .cells #[.slice A2_0 l2_0.length c2_0, .int .i64 a2_1, .slice A2_2 l2_2.length c2_2] 48 (0, 0)) (by (with_reducible repeat (first | refine blk_drewN ?_ _ | refine blk_drew ?_ | refine blk_alloc ?_ _)); exact BK607.out) hb); have n2_ := Aside0.mk (below_step (by repeat (first | (with_reducible first | exact HB.out | apply below_alloc | apply pw_below_drewN | apply below_drew1 | refine below_set ?_ GE606.out | refine below_set ?_ GE607.out) | exact HB.out)) hb); clear BK606; clear BK607; clear HB; have BK606 := n0_; have BK607 := n1_; have HB := n2_; clear n0_ n1_ n2_; (try clear hb); (try clear hb2); (try clear hk); (try clear hi); have hcz28_0 : w27.cell? ⟨gb607, 0, none⟩ = some (.slice A2_0 l2_0.length c2_0) := (blk_cell BK607.out 0).trans rfl; have hcz28_1 : w27.cell? ⟨gb607, 1, none⟩ = some (.int .i64 a2_1) := (blk_cell BK607.out 1).trans rfl; have hcz28_2 : w27.cell? ⟨gb607, 2, none⟩ = some (.slice A2_2 l2_2.length c2_2) := (blk_cell BK607.out 2).trans rfl; have hfz28_0 := blk_frozen BK607.out 0; have hfz28_1 := blk_frozen BK607.out 1; have hfz28_2 := blk_frozen BK607.out 2; have hcz29_0 : w27.cell? ⟨gb606, 0, none⟩ = some (.string a0_0) := (blk_cell BK606.out 0).trans rfl; have hcz29_1 : w27.cell? ⟨gb606, 1, none⟩ = some (.int .i64 a0_1) := (blk_cell BK606.out 1).trans rfl; have hcz29_2 : w27.cell? ⟨gb606, 2, none⟩ = some (.int .i64 a0_2) := (blk_cell BK606.out 2).trans rfl; have hcz29_3 : w27.cell? ⟨gb606, 3, none⟩ = some (.int .i64 a0_3) := (blk_cell BK606.out 3).trans rfl; have hcz29_4 : w27.cell? ⟨gb606, 4, none⟩ = some (.int .i64 a0_4) := (blk_cell BK606.out 4).trans rfl; have hcz29_5 : w27.cell? ⟨gb606, 5, none⟩ = some (.int .i64 a0_5) := (blk_cell BK606.out 5).trans rfl; have hcz29_6 : w27.cell? ⟨gb606, 6, none⟩ = some (.slice A0_6 l0_6.length c0_6) := (blk_cell BK606.out 6).trans rfl; have hfz29_0 := blk_frozen BK606.out 0; have hfz29_1 := blk_frozen BK606.out 1; have hfz29_2 := blk_frozen BK606.out 2; have hfz29_3 := blk_frozen BK606.out 3; have hfz29_4 := blk_frozen BK606.out 4; have hfz29_5 := blk_frozen BK606.out 5; have hfz29_6 := blk_frozen BK606.out 6) | (go_at_call 35; (with_reducible refine (proof_Check.calls k a0_0 a0_1 a0_2 a0_3 a0_4 a0_5 _ _ l0_6 _ _ l1 _ _ l2_0 a2_1 _ _ l2_2 t610 _ ?side1 ?side2 ?side3 ?side4 ?side5 ?side6 ?side7 ?side8 A22.out).mono ?_); (case side1 => repeat (first | exact (Kd.C_below HR0_6.out HB.out) | (with_reducible refine Kd.C_alloc ?_ _) | (with_reducible refine Kd.C_drewN ?_ _) | (with_reducible refine Kd.C_drew ?_))); (case side2 => exact HC0_6.out); (case side3 => repeat (first | exact (Kd.C_below HR1.out HB.out) | (with_reducible refine Kd.C_alloc ?_ _) | (with_reducible refine Kd.C_drewN ?_ _) | (with_reducible refine Kd.C_drew ?_))); (case side4 => exact HC1.out); (case side5 => repeat (first | exact (Kd.C_below HR2_0.out HB.out) | (with_reducible refine Kd.C_alloc ?_ _) | (with_reducible refine Kd.C_drewN ?_ _) | (with_reducible refine Kd.C_drew ?_))); (case side6 => exact HC2_0.out); (case side7 => repeat (first | exact (Kd.C_below HR2_2.out HB.out) | (with_reducible refine Kd.C_alloc ?_ _) | (with_reducible refine Kd.C_drewN ?_ _) | (with_reducible refine Kd.C_drew ?_))); (case side8 => exact HC2_2.out); rintro e w30 ⟨rfl, hb⟩; have n0_ := Aside0.mk (blk_below (g := gb606) (o := .cells #[.string a0_0, .int .i64 a0_1, .int .i64 a0_2, .int .i64 a0_3, .int .i64 a0_4, .int .i64 a0_5, .slice A0_6 l0_6.length c0_6] 41 (0, 0)) (by (with_reducible repeat (first | refine blk_drewN ?_ _ | refine blk_drew ?_ | refine blk_alloc ?_ _)); exact BK606.out) hb); have n1_ := Aside0.mk (blk_below (g := gb607) (o := .cells #[.slice A2_0 l2_0.length c2_0, .int .i64 a2_1, .slice A2_2 l2_2.length c2_2] 48 (0, 0)) (by (with_reducible repeat (first | refine blk_drewN ?_ _ | refine blk_drew ?_ | refine blk_alloc ?_ _)); exact BK607.out) hb); have n2_ := Aside0.mk (below_step (by repeat (first | (with_reducible first | exact HB.out | apply below_alloc | apply pw_below_drewN | apply below_drew1 | refine below_set ?_ GE606.out | refine below_set ?_ GE607.out) | exact HB.out)) hb); clear BK606; clear BK607; clear HB; have BK606 := n0_; have BK607 := n1_; have HB := n2_; clear n0_ n1_ n2_; (try clear hb); (try clear hb2); (try clear hk); (try clear hi); have hcz31_0 : w30.cell? ⟨gb606, 0, none⟩ = some (.string a0_0) := (blk_cell BK606.out 0).trans rfl; have hcz31_1 : w30.cell? ⟨gb606, 1, none⟩ = some (.int .i64 a0_1) := (blk_cell BK606.out 1).trans rfl; have hcz31_2 : w30.cell? ⟨gb606, 2, none⟩ = some (.int .i64 a0_2) := (blk_cell BK606.out 2).trans rfl; have hcz31_3 : w30.cell? ⟨gb606, 3, none⟩ = some (.int .i64 a0_3) := (blk_cell BK606.out 3).trans rfl; have hcz31_4 : w30.cell? ⟨gb606, 4, none⟩ = some (.int .i64 a0_4) := (blk_cell BK606.out 4).trans rfl; have hcz31_5 : w30.cell? ⟨gb606, 5, none⟩ = some (.int .i64 a0_5) := (blk_cell BK606.out 5).trans rfl; have hcz31_6 : w30.cell? ⟨gb606, 6, none⟩ = some (.slice A0_6 l0_6.length c0_6) := (blk_cell BK606.out 6).trans rfl; have hfz31_0 := blk_frozen BK606.out 0; have hfz31_1 := blk_frozen BK606.out 1; have hfz31_2 := blk_frozen BK606.out 2; have hfz31_3 := blk_frozen BK606.out 3; have hfz31_4 := blk_frozen BK606.out 4; have hfz31_5 := blk_frozen BK606.out 5; have hfz31_6 := blk_frozen BK606.out 6) | (go_at_call 33; (with_reducible refine (proof_Allowed.calls a0_0 a0_1 a0_2 a0_3 a0_4 a0_5 _ _ l0_6 _ _ l1 _ _ l3 t611 _ ?side1 ?side2 ?side3 ?side4 ?side5 ?side6 A24.out).mono ?_); (case side1 => repeat (first | exact (Kd.C_below HR0_6.out HB.out) | (with_reducible refine Kd.C_alloc ?_ _) | (with_reducible refine Kd.C_drewN ?_ _) | (with_reducible refine Kd.C_drew ?_))); (case side2 => exact HC0_6.out); (case side3 => repeat (first | exact (Kd.C_below HR1.out HB.out) | (with_reducible refine Kd.C_alloc ?_ _) | (with_reducible refine Kd.C_drewN ?_ _) | (with_reducible refine Kd.C_drew ?_))); (case side4 => exact HC1.out); (case side5 => repeat (first | exact (Kd.C_below HR3.out HB.out) | (with_reducible refine Kd.C_alloc ?_ _) | (with_reducible refine Kd.C_drewN ?_ _) | (with_reducible refine Kd.C_drew ?_))); (case side6 => exact HC3.out); rintro e w32 ⟨rfl, hb⟩; have n0_ := Aside0.mk (blk_below (g := gb606) (o := .cells #[.string a0_0, .int .i64 a0_1, .int .i64 a0_2, .int .i64 a0_3, .int .i64 a0_4, .int .i64 a0_5, .slice A0_6 l0_6.length c0_6] 41 (0, 0)) (by (with_reducible repeat (first | refine blk_drewN ?_ _ | refine blk_drew ?_ | refine blk_alloc ?_ _)); exact BK606.out) hb); have n1_ := Aside0.mk (blk_below (g := gb607) (o := .cells #[.slice A2_0 l2_0.length c2_0, .int .i64 a2_1, .slice A2_2 l2_2.length c2_2] 48 (0, 0)) (by (with_reducible repeat (first | refine blk_drewN ?_ _ | refine blk_drew ?_ | refine blk_alloc ?_ _)); exact BK607.out) hb); have n2_ := Aside0.mk (below_step (by repeat (first | (with_reducible first | exact HB.out | apply below_alloc | apply pw_below_drewN | apply below_drew1 | refine below_set ?_ GE606.out | refine below_set ?_ GE607.out) | exact HB.out)) hb); clear BK606; clear BK607; clear HB; have BK606 := n0_; have BK607 := n1_; have HB := n2_; clear n0_ n1_ n2_; (try clear hb); (try clear hb2); (try clear hk); (try clear hi)))
              go_meet
              case rel => exact ⟨_, ((t611 != 0)), (by first | rfl | (simp; done) | (simp [*]; done)), H', ⟨by first | omega | exact Nat.le_refl _⟩, ⟨by (with_reducible repeat (first | refine blk_drewN ?_ _ | refine blk_drew ?_ | refine blk_alloc ?_ _)); exact BK606.out⟩, ⟨by (with_reducible repeat (first | refine blk_drewN ?_ _ | refine blk_drew ?_ | refine blk_alloc ?_ _)); exact BK607.out⟩, ⟨by repeat (first | (with_reducible first | exact HB.out | apply below_alloc | apply pw_below_drewN | apply below_drew1 | refine below_set ?_ GE606.out | refine below_set ?_ GE607.out) | exact HB.out)⟩⟩
            · rw [if_neg c23] at H
              have c23b0 : (t610 == 0) = false := beq_eq_false_iff_ne.mpr c23
              have c23b1 : (t610 != 0) = true := bne_iff_ne.mpr c23
              have H' := Aside0.mk H
              clear H
              have hnb33 := NB606_607.out
              have hnc33 := NB607_606.out
              have hcz34_0 : w10.cell? ⟨gb606, 0, none⟩ = some (.string a0_0) := (blk_cell BK606.out 0).trans rfl
              have hcz34_1 : w10.cell? ⟨gb606, 1, none⟩ = some (.int .i64 a0_1) := (blk_cell BK606.out 1).trans rfl
              have hcz34_2 : w10.cell? ⟨gb606, 2, none⟩ = some (.int .i64 a0_2) := (blk_cell BK606.out 2).trans rfl
              have hcz34_3 : w10.cell? ⟨gb606, 3, none⟩ = some (.int .i64 a0_3) := (blk_cell BK606.out 3).trans rfl
              have hcz34_4 : w10.cell? ⟨gb606, 4, none⟩ = some (.int .i64 a0_4) := (blk_cell BK606.out 4).trans rfl
              have hcz34_5 : w10.cell? ⟨gb606, 5, none⟩ = some (.int .i64 a0_5) := (blk_cell BK606.out 5).trans rfl
              have hcz34_6 : w10.cell? ⟨gb606, 6, none⟩ = some (.slice A0_6 l0_6.length c0_6) := (blk_cell BK606.out 6).trans rfl
              have hfz34_0 := blk_frozen BK606.out 0
              have hfz34_1 := blk_frozen BK606.out 1
              have hfz34_2 := blk_frozen BK606.out 2
              have hfz34_3 := blk_frozen BK606.out 3
              have hfz34_4 := blk_frozen BK606.out 4
              have hfz34_5 := blk_frozen BK606.out 5
              have hfz34_6 := blk_frozen BK606.out 6
              go_wp2_with (first | ((with_reducible refine gate_callee (f := 31) rfl ?_); refine goesL_ (some 15) rfl rfl Try.func31 (by kernel_rfl) rfl #[.agg #[.string a0_0, .int .i64 a0_1, .int .i64 a0_2, .int .i64 a0_3, .int .i64 a0_4, .int .i64 a0_5, .slice A0_6 l0_6.length c0_6], .slice A1 l1.length c1] rfl (by (try simp only [List.map_toArray, List.map_cons, List.map_nil]); first | done | rfl | (simp only [List.length_drop, List.length_take]; rfl)) ?_; (with_reducible refine (sizarref20_Few.calls k a0_0 a0_1 a0_2 a0_3 a0_4 a0_5 _ _ l0_6 _ _ l1 true _ ?side1 ?side2 ?side3 ?side4 A11.out).mono ?_); (case side1 => repeat (first | exact (Kd.C_below HR0_6.out HB.out) | (with_reducible refine Kd.C_alloc ?_ _) | (with_reducible refine Kd.C_drewN ?_ _) | (with_reducible refine Kd.C_drew ?_))); (case side2 => exact HC0_6.out); (case side3 => repeat (first | exact (Kd.C_below HR1.out HB.out) | (with_reducible refine Kd.C_alloc ?_ _) | (with_reducible refine Kd.C_drewN ?_ _) | (with_reducible refine Kd.C_drew ?_))); (case side4 => exact HC1.out); rintro e w35 ⟨rfl, hb⟩; refine ⟨_, rfl, ?_⟩; have n0_ := Aside0.mk (blk_below (g := gb606) (o := .cells #[.string a0_0, .int .i64 a0_1, .int .i64 a0_2, .int .i64 a0_3, .int .i64 a0_4, .int .i64 a0_5, .slice A0_6 l0_6.length c0_6] 41 (0, 0)) (by (with_reducible repeat (first | refine blk_drewN ?_ _ | refine blk_drew ?_ | refine blk_alloc ?_ _)); exact BK606.out) hb); have n1_ := Aside0.mk (blk_below (g := gb607) (o := .cells #[.slice A2_0 l2_0.length c2_0, .int .i64 a2_1, .slice A2_2 l2_2.length c2_2] 48 (0, 0)) (by (with_reducible repeat (first | refine blk_drewN ?_ _ | refine blk_drew ?_ | refine blk_alloc ?_ _)); exact BK607.out) hb); have n2_ := Aside0.mk (below_step (by repeat (first | (with_reducible first | exact HB.out | apply below_alloc | apply pw_below_drewN | apply below_drew1 | refine below_set ?_ GE606.out | refine below_set ?_ GE607.out) | exact HB.out)) hb); clear BK606; clear BK607; clear HB; have BK606 := n0_; have BK607 := n1_; have HB := n2_; clear n0_ n1_ n2_; (try clear hb); (try clear hb2); (try clear hk); (try clear hi); have hcz36_0 : w35.cell? ⟨gb607, 0, none⟩ = some (.slice A2_0 l2_0.length c2_0) := (blk_cell BK607.out 0).trans rfl; have hcz36_1 : w35.cell? ⟨gb607, 1, none⟩ = some (.int .i64 a2_1) := (blk_cell BK607.out 1).trans rfl; have hcz36_2 : w35.cell? ⟨gb607, 2, none⟩ = some (.slice A2_2 l2_2.length c2_2) := (blk_cell BK607.out 2).trans rfl; have hfz36_0 := blk_frozen BK607.out 0; have hfz36_1 := blk_frozen BK607.out 1; have hfz36_2 := blk_frozen BK607.out 2; have hcz37_0 : w35.cell? ⟨gb606, 0, none⟩ = some (.string a0_0) := (blk_cell BK606.out 0).trans rfl; have hcz37_1 : w35.cell? ⟨gb606, 1, none⟩ = some (.int .i64 a0_1) := (blk_cell BK606.out 1).trans rfl; have hcz37_2 : w35.cell? ⟨gb606, 2, none⟩ = some (.int .i64 a0_2) := (blk_cell BK606.out 2).trans rfl; have hcz37_3 : w35.cell? ⟨gb606, 3, none⟩ = some (.int .i64 a0_3) := (blk_cell BK606.out 3).trans rfl; have hcz37_4 : w35.cell? ⟨gb606, 4, none⟩ = some (.int .i64 a0_4) := (blk_cell BK606.out 4).trans rfl; have hcz37_5 : w35.cell? ⟨gb606, 5, none⟩ = some (.int .i64 a0_5) := (blk_cell BK606.out 5).trans rfl; have hcz37_6 : w35.cell? ⟨gb606, 6, none⟩ = some (.slice A0_6 l0_6.length c0_6) := (blk_cell BK606.out 6).trans rfl; have hfz37_0 := blk_frozen BK606.out 0; have hfz37_1 := blk_frozen BK606.out 1; have hfz37_2 := blk_frozen BK606.out 2; have hfz37_3 := blk_frozen BK606.out 3; have hfz37_4 := blk_frozen BK606.out 4; have hfz37_5 := blk_frozen BK606.out 5; have hfz37_6 := blk_frozen BK606.out 6) | (go_at_call 35; (with_reducible refine (proof_Check.calls k a0_0 a0_1 a0_2 a0_3 a0_4 a0_5 _ _ l0_6 _ _ l1 _ _ l2_0 a2_1 _ _ l2_2 t610 _ ?side1 ?side2 ?side3 ?side4 ?side5 ?side6 ?side7 ?side8 A22.out).mono ?_); (case side1 => repeat (first | exact (Kd.C_below HR0_6.out HB.out) | (with_reducible refine Kd.C_alloc ?_ _) | (with_reducible refine Kd.C_drewN ?_ _) | (with_reducible refine Kd.C_drew ?_))); (case side2 => exact HC0_6.out); (case side3 => repeat (first | exact (Kd.C_below HR1.out HB.out) | (with_reducible refine Kd.C_alloc ?_ _) | (with_reducible refine Kd.C_drewN ?_ _) | (with_reducible refine Kd.C_drew ?_))); (case side4 => exact HC1.out); (case side5 => repeat (first | exact (Kd.C_below HR2_0.out HB.out) | (with_reducible refine Kd.C_alloc ?_ _) | (with_reducible refine Kd.C_drewN ?_ _) | (with_reducible refine Kd.C_drew ?_))); (case side6 => exact HC2_0.out); (case side7 => repeat (first | exact (Kd.C_below HR2_2.out HB.out) | (with_reducible refine Kd.C_alloc ?_ _) | (with_reducible refine Kd.C_drewN ?_ _) | (with_reducible refine Kd.C_drew ?_))); (case side8 => exact HC2_2.out); rintro e w38 ⟨rfl, hb⟩; have n0_ := Aside0.mk (blk_below (g := gb606) (o := .cells #[.string a0_0, .int .i64 a0_1, .int .i64 a0_2, .int .i64 a0_3, .int .i64 a0_4, .int .i64 a0_5, .slice A0_6 l0_6.length c0_6] 41 (0, 0)) (by (with_reducible repeat (first | refine blk_drewN ?_ _ | refine blk_drew ?_ | refine blk_alloc ?_ _)); exact BK606.out) hb); have n1_ := Aside0.mk (blk_below (g := gb607) (o := .cells #[.slice A2_0 l2_0.length c2_0, .int .i64 a2_1, .slice A2_2 l2_2.length c2_2] 48 (0, 0)) (by (with_reducible repeat (first | refine blk_drewN ?_ _ | refine blk_drew ?_ | refine blk_alloc ?_ _)); exact BK607.out) hb); have n2_ := Aside0.mk (below_step (by repeat (first | (with_reducible first | exact HB.out | apply below_alloc | apply pw_below_drewN | apply below_drew1 | refine below_set ?_ GE606.out | refine below_set ?_ GE607.out) | exact HB.out)) hb); clear BK606; clear BK607; clear HB; have BK606 := n0_; have BK607 := n1_; have HB := n2_; clear n0_ n1_ n2_; (try clear hb); (try clear hb2); (try clear hk); (try clear hi)))
              go_meet
              case rel => exact ⟨_, (true), (by first | rfl | (simp; done) | (simp [*]; done)), H', ⟨by first | omega | exact Nat.le_refl _⟩, ⟨by (with_reducible repeat (first | refine blk_drewN ?_ _ | refine blk_drew ?_ | refine blk_alloc ?_ _)); exact BK606.out⟩, ⟨by (with_reducible repeat (first | refine blk_drewN ?_ _ | refine blk_drew ?_ | refine blk_alloc ?_ _)); exact BK607.out⟩, ⟨by repeat (first | (with_reducible first | exact HB.out | apply below_alloc | apply pw_below_drewN | apply below_drew1 | refine below_set ?_ GE606.out | refine below_set ?_ GE607.out) | exact HB.out)⟩⟩
      · replace c12 := Bool.eq_false_iff.mpr c12
        subst c12
        have H1 : (sizarlaw20_ProofOptimal.j0 k l3 true a0_0 a0_1 a0_2 a0_3 a0_4 a0_5 l0_6 l2_0 a2_1 l2_2) = some r := by rw [if_neg (show ¬ (false = true) by decide)] at H; exact H
        clear H
        have H := H1
        clear H1
        have H' := Aside0.mk H
        clear H
        have hnb39 := NB606_607.out
        have hnc39 := NB607_606.out
        have hcz40_0 : w10.cell? ⟨gb606, 0, none⟩ = some (.string a0_0) := (blk_cell BK606.out 0).trans rfl
        have hcz40_1 : w10.cell? ⟨gb606, 1, none⟩ = some (.int .i64 a0_1) := (blk_cell BK606.out 1).trans rfl
        have hcz40_2 : w10.cell? ⟨gb606, 2, none⟩ = some (.int .i64 a0_2) := (blk_cell BK606.out 2).trans rfl
        have hcz40_3 : w10.cell? ⟨gb606, 3, none⟩ = some (.int .i64 a0_3) := (blk_cell BK606.out 3).trans rfl
        have hcz40_4 : w10.cell? ⟨gb606, 4, none⟩ = some (.int .i64 a0_4) := (blk_cell BK606.out 4).trans rfl
        have hcz40_5 : w10.cell? ⟨gb606, 5, none⟩ = some (.int .i64 a0_5) := (blk_cell BK606.out 5).trans rfl
        have hcz40_6 : w10.cell? ⟨gb606, 6, none⟩ = some (.slice A0_6 l0_6.length c0_6) := (blk_cell BK606.out 6).trans rfl
        have hfz40_0 := blk_frozen BK606.out 0
        have hfz40_1 := blk_frozen BK606.out 1
        have hfz40_2 := blk_frozen BK606.out 2
        have hfz40_3 := blk_frozen BK606.out 3
        have hfz40_4 := blk_frozen BK606.out 4
        have hfz40_5 := blk_frozen BK606.out 5
        have hfz40_6 := blk_frozen BK606.out 6
        go_wp2_with (first | ((with_reducible refine gate_callee (f := 31) rfl ?_); refine goesL_ (some 15) rfl rfl Try.func31 (by kernel_rfl) rfl #[.agg #[.string a0_0, .int .i64 a0_1, .int .i64 a0_2, .int .i64 a0_3, .int .i64 a0_4, .int .i64 a0_5, .slice A0_6 l0_6.length c0_6], .slice A1 l1.length c1] rfl (by (try simp only [List.map_toArray, List.map_cons, List.map_nil]); first | done | rfl | (simp only [List.length_drop, List.length_take]; rfl)) ?_; (with_reducible refine (sizarref20_Few.calls k a0_0 a0_1 a0_2 a0_3 a0_4 a0_5 _ _ l0_6 _ _ l1 false _ ?side1 ?side2 ?side3 ?side4 A11.out).mono ?_); (case side1 => repeat (first | exact (Kd.C_below HR0_6.out HB.out) | (with_reducible refine Kd.C_alloc ?_ _) | (with_reducible refine Kd.C_drewN ?_ _) | (with_reducible refine Kd.C_drew ?_))); (case side2 => exact HC0_6.out); (case side3 => repeat (first | exact (Kd.C_below HR1.out HB.out) | (with_reducible refine Kd.C_alloc ?_ _) | (with_reducible refine Kd.C_drewN ?_ _) | (with_reducible refine Kd.C_drew ?_))); (case side4 => exact HC1.out); rintro e w41 ⟨rfl, hb⟩; refine ⟨_, rfl, ?_⟩; have n0_ := Aside0.mk (blk_below (g := gb606) (o := .cells #[.string a0_0, .int .i64 a0_1, .int .i64 a0_2, .int .i64 a0_3, .int .i64 a0_4, .int .i64 a0_5, .slice A0_6 l0_6.length c0_6] 41 (0, 0)) (by (with_reducible repeat (first | refine blk_drewN ?_ _ | refine blk_drew ?_ | refine blk_alloc ?_ _)); exact BK606.out) hb); have n1_ := Aside0.mk (blk_below (g := gb607) (o := .cells #[.slice A2_0 l2_0.length c2_0, .int .i64 a2_1, .slice A2_2 l2_2.length c2_2] 48 (0, 0)) (by (with_reducible repeat (first | refine blk_drewN ?_ _ | refine blk_drew ?_ | refine blk_alloc ?_ _)); exact BK607.out) hb); have n2_ := Aside0.mk (below_step (by repeat (first | (with_reducible first | exact HB.out | apply below_alloc | apply pw_below_drewN | apply below_drew1 | refine below_set ?_ GE606.out | refine below_set ?_ GE607.out) | exact HB.out)) hb); clear BK606; clear BK607; clear HB; have BK606 := n0_; have BK607 := n1_; have HB := n2_; clear n0_ n1_ n2_; (try clear hb); (try clear hb2); (try clear hk); (try clear hi)))
        go_meet
        case rel => exact ⟨_, (true), (by first | rfl | (simp; done) | (simp [*]; done)), H', ⟨by first | omega | exact Nat.le_refl _⟩, ⟨by (with_reducible repeat (first | refine blk_drewN ?_ _ | refine blk_drew ?_ | refine blk_alloc ?_ _)); exact BK606.out⟩, ⟨by (with_reducible repeat (first | refine blk_drewN ?_ _ | refine blk_drew ?_ | refine blk_alloc ?_ _)); exact BK607.out⟩, ⟨by repeat (first | (with_reducible first | exact HB.out | apply below_alloc | apply pw_below_drewN | apply below_drew1 | refine below_set ?_ GE606.out | refine below_set ?_ GE607.out) | exact HB.out)⟩⟩
    case rest =>
      clear HC7
      try clear c1
      try clear c2
      try clear p2
      try clear c3
      try clear c6
      try clear c12
      try clear c13
      try clear c13b0
      try clear c13b1
      try clear c14
      try clear c16
      try clear c17
      try clear c17b0
      try clear c17b1
      try clear c18
      try clear c23
      try clear c23b0
      try clear c23b1
      try clear c25
      try clear c30
      try clear c31
      try clear c33
      try clear c39
      try clear hcz15_0
      try clear hcz15_1
      try clear hcz15_2
      try clear hcz15_3
      try clear hcz15_4
      try clear hcz15_5
      try clear hcz15_6
      try clear hcz19_0
      try clear hcz19_1
      try clear hcz19_2
      try clear hcz19_3
      try clear hcz19_4
      try clear hcz19_5
      try clear hcz19_6
      try clear hcz21_0
      try clear hcz21_1
      try clear hcz21_2
      try clear hcz26_0
      try clear hcz26_1
      try clear hcz26_2
      try clear hcz26_3
      try clear hcz26_4
      try clear hcz26_5
      try clear hcz26_6
      try clear hcz28_0
      try clear hcz28_1
      try clear hcz28_2
      try clear hcz29_0
      try clear hcz29_1
      try clear hcz29_2
      try clear hcz29_3
      try clear hcz29_4
      try clear hcz29_5
      try clear hcz29_6
      try clear hcz31_0
      try clear hcz31_1
      try clear hcz31_2
      try clear hcz31_3
      try clear hcz31_4
      try clear hcz31_5
      try clear hcz31_6
      try clear hcz34_0
      try clear hcz34_1
      try clear hcz34_2
      try clear hcz34_3
      try clear hcz34_4
      try clear hcz34_5
      try clear hcz34_6
      try clear hcz36_0
      try clear hcz36_1
      try clear hcz36_2
      try clear hcz37_0
      try clear hcz37_1
      try clear hcz37_2
      try clear hcz37_3
      try clear hcz37_4
      try clear hcz37_5
      try clear hcz37_6
      try clear hcz40_0
      try clear hcz40_1
      try clear hcz40_2
      try clear hcz40_3
      try clear hcz40_4
      try clear hcz40_5
      try clear hcz40_6
      try clear hfz15_0
      try clear hfz15_1
      try clear hfz15_2
      try clear hfz15_3
      try clear hfz15_4
      try clear hfz15_5
      try clear hfz15_6
      try clear hfz19_0
      try clear hfz19_1
      try clear hfz19_2
      try clear hfz19_3
      try clear hfz19_4
      try clear hfz19_5
      try clear hfz19_6
      try clear hfz21_0
      try clear hfz21_1
      try clear hfz21_2
      try clear hfz26_0
      try clear hfz26_1
      try clear hfz26_2
      try clear hfz26_3
      try clear hfz26_4
      try clear hfz26_5
      try clear hfz26_6
      try clear hfz28_0
      try clear hfz28_1
      try clear hfz28_2
      try clear hfz29_0
      try clear hfz29_1
      try clear hfz29_2
      try clear hfz29_3
      try clear hfz29_4
      try clear hfz29_5
      try clear hfz29_6
      try clear hfz31_0
      try clear hfz31_1
      try clear hfz31_2
      try clear hfz31_3
      try clear hfz31_4
      try clear hfz31_5
      try clear hfz31_6
      try clear hfz34_0
      try clear hfz34_1
      try clear hfz34_2
      try clear hfz34_3
      try clear hfz34_4
      try clear hfz34_5
      try clear hfz34_6
      try clear hfz36_0
      try clear hfz36_1
      try clear hfz36_2
      try clear hfz37_0
      try clear hfz37_1
      try clear hfz37_2
      try clear hfz37_3
      try clear hfz37_4
      try clear hfz37_5
      try clear hfz37_6
      try clear hfz40_0
      try clear hfz40_1
      try clear hfz40_2
      try clear hfz40_3
      try clear hfz40_4
      try clear hfz40_5
      try clear hfz40_6
      obtain ⟨kq, x41_6, rfl, HA, HJ6, BK606, BK607, HB⟩ := hcut
      cases kq with
      | zero => exact absurd HA.out (by simp [sizarlaw20_ProofOptimal.j0])
      | succ kj6 =>
        have H := HA.out
        clear HA
        simp only [sizarlaw20_ProofOptimal.j0] at H
        by_cases c42 : x41_6 = true
        · subst c42
          have H1 : (some true) = some r := by rw [if_pos rfl] at H; exact H
          clear H
          have H := H1
          clear H1
          obtain rfl := Option.some.inj H
          go_wp2
          go_ret
          exact ⟨by first | rfl | (simp [errW_none, errW_some] <;> rfl) | (simp [*, errW_none, errW_some] <;> rfl), by repeat (first | (with_reducible first | exact HB.out | apply below_alloc | apply pw_below_drewN | apply below_drew1 | refine below_set ?_ GE606.out | refine below_set ?_ GE607.out) | exact HB.out)⟩
        · replace c42 := Bool.eq_false_iff.mpr c42
          subst c42
          have H1 : ((proof_Missing.f kj6 a0_0 a0_1 a0_2 a0_3 a0_4 a0_5 l0_6 l3).bind fun bt612 => (if bt612.2 = 0 then (some (decide (bt612.1 ≥ a2_1))) else (some false))) = some r := by rw [if_neg (show ¬ (false = true) by decide)] at H; exact H
          clear H
          have H := H1
          clear H1
          replace H := Option.bind_eq_some_iff.mp H
          obtain ⟨⟨t612, t613⟩, A430, H⟩ := H
          replace H : (if t613 = 0 then (some (decide (t612 ≥ a2_1))) else (some false)) = some r := H
          have A43 := Aside0.mk A430
          clear A430
          by_cases c44 : t613 = 0
          · rw [if_pos c44] at H
            have c44b0 : (t613 == 0) = true := beq_iff_eq.mpr c44
            have c44b1 : (t613 != 0) = false := bne_eq_false_iff_eq.mpr c44
            clear c44
            obtain rfl := Option.some.inj H
            have hnb45 := NB606_607.out
            have hnc45 := NB607_606.out
            have hcz46_0 : wc.cell? ⟨gb606, 0, none⟩ = some (.string a0_0) := (blk_cell BK606.out 0).trans rfl
            have hcz46_1 : wc.cell? ⟨gb606, 1, none⟩ = some (.int .i64 a0_1) := (blk_cell BK606.out 1).trans rfl
            have hcz46_2 : wc.cell? ⟨gb606, 2, none⟩ = some (.int .i64 a0_2) := (blk_cell BK606.out 2).trans rfl
            have hcz46_3 : wc.cell? ⟨gb606, 3, none⟩ = some (.int .i64 a0_3) := (blk_cell BK606.out 3).trans rfl
            have hcz46_4 : wc.cell? ⟨gb606, 4, none⟩ = some (.int .i64 a0_4) := (blk_cell BK606.out 4).trans rfl
            have hcz46_5 : wc.cell? ⟨gb606, 5, none⟩ = some (.int .i64 a0_5) := (blk_cell BK606.out 5).trans rfl
            have hcz46_6 : wc.cell? ⟨gb606, 6, none⟩ = some (.slice A0_6 l0_6.length c0_6) := (blk_cell BK606.out 6).trans rfl
            have hfz46_0 := blk_frozen BK606.out 0
            have hfz46_1 := blk_frozen BK606.out 1
            have hfz46_2 := blk_frozen BK606.out 2
            have hfz46_3 := blk_frozen BK606.out 3
            have hfz46_4 := blk_frozen BK606.out 4
            have hfz46_5 := blk_frozen BK606.out 5
            have hfz46_6 := blk_frozen BK606.out 6
            go_wp2_with (first | ((with_reducible refine gate_callee (f := 34) rfl ?_); refine goesL_ (some 45) rfl rfl Try.func34 (by kernel_rfl) rfl #[.agg #[.string a0_0, .int .i64 a0_1, .int .i64 a0_2, .int .i64 a0_3, .int .i64 a0_4, .int .i64 a0_5, .slice A0_6 l0_6.length c0_6], .slice A3 l3.length c3] rfl (by (try simp only [List.map_toArray, List.map_cons, List.map_nil]); first | done | rfl | (simp only [List.length_drop, List.length_take]; rfl)) ?_; (with_reducible refine (proof_Missing.calls kj6 a0_0 a0_1 a0_2 a0_3 a0_4 a0_5 _ _ l0_6 _ _ l3 t612 t613 _ ?side1 ?side2 ?side3 ?side4 A43.out).mono ?_); (case side1 => repeat (first | exact (Kd.C_below HR0_6.out HB.out) | (with_reducible refine Kd.C_alloc ?_ _) | (with_reducible refine Kd.C_drewN ?_ _) | (with_reducible refine Kd.C_drew ?_))); (case side2 => exact HC0_6.out); (case side3 => repeat (first | exact (Kd.C_below HR3.out HB.out) | (with_reducible refine Kd.C_alloc ?_ _) | (with_reducible refine Kd.C_drewN ?_ _) | (with_reducible refine Kd.C_drew ?_))); (case side4 => exact HC3.out); rintro e w47 ⟨rfl, hb⟩; refine ⟨_, rfl, ?_⟩; have n0_ := Aside0.mk (blk_below (g := gb606) (o := .cells #[.string a0_0, .int .i64 a0_1, .int .i64 a0_2, .int .i64 a0_3, .int .i64 a0_4, .int .i64 a0_5, .slice A0_6 l0_6.length c0_6] 41 (0, 0)) (by (with_reducible repeat (first | refine blk_drewN ?_ _ | refine blk_drew ?_ | refine blk_alloc ?_ _)); exact BK606.out) hb); have n1_ := Aside0.mk (blk_below (g := gb607) (o := .cells #[.slice A2_0 l2_0.length c2_0, .int .i64 a2_1, .slice A2_2 l2_2.length c2_2] 48 (0, 0)) (by (with_reducible repeat (first | refine blk_drewN ?_ _ | refine blk_drew ?_ | refine blk_alloc ?_ _)); exact BK607.out) hb); have n2_ := Aside0.mk (below_step (by repeat (first | (with_reducible first | exact HB.out | apply below_alloc | apply pw_below_drewN | apply below_drew1 | refine below_set ?_ GE606.out | refine below_set ?_ GE607.out) | exact HB.out)) hb); clear BK606; clear BK607; clear HB; have BK606 := n0_; have BK607 := n1_; have HB := n2_; clear n0_ n1_ n2_; (try clear hb); (try clear hb2); (try clear hk); (try clear hi); have hcz48_0 : w47.cell? ⟨gb607, 0, none⟩ = some (.slice A2_0 l2_0.length c2_0) := (blk_cell BK607.out 0).trans rfl; have hcz48_1 : w47.cell? ⟨gb607, 1, none⟩ = some (.int .i64 a2_1) := (blk_cell BK607.out 1).trans rfl; have hcz48_2 : w47.cell? ⟨gb607, 2, none⟩ = some (.slice A2_2 l2_2.length c2_2) := (blk_cell BK607.out 2).trans rfl; have hfz48_0 := blk_frozen BK607.out 0; have hfz48_1 := blk_frozen BK607.out 1; have hfz48_2 := blk_frozen BK607.out 2))
            go_ret
            exact ⟨by first | rfl | (simp [errW_none, errW_some] <;> rfl) | (simp [*, errW_none, errW_some] <;> rfl), by repeat (first | (with_reducible first | exact HB.out | apply below_alloc | apply pw_below_drewN | apply below_drew1 | refine below_set ?_ GE606.out | refine below_set ?_ GE607.out) | exact HB.out)⟩
          · rw [if_neg c44] at H
            have c44b0 : (t613 == 0) = false := beq_eq_false_iff_ne.mpr c44
            have c44b1 : (t613 != 0) = true := bne_iff_ne.mpr c44
            obtain rfl := Option.some.inj H
            have hnb49 := NB606_607.out
            have hnc49 := NB607_606.out
            have hcz50_0 : wc.cell? ⟨gb606, 0, none⟩ = some (.string a0_0) := (blk_cell BK606.out 0).trans rfl
            have hcz50_1 : wc.cell? ⟨gb606, 1, none⟩ = some (.int .i64 a0_1) := (blk_cell BK606.out 1).trans rfl
            have hcz50_2 : wc.cell? ⟨gb606, 2, none⟩ = some (.int .i64 a0_2) := (blk_cell BK606.out 2).trans rfl
            have hcz50_3 : wc.cell? ⟨gb606, 3, none⟩ = some (.int .i64 a0_3) := (blk_cell BK606.out 3).trans rfl
            have hcz50_4 : wc.cell? ⟨gb606, 4, none⟩ = some (.int .i64 a0_4) := (blk_cell BK606.out 4).trans rfl
            have hcz50_5 : wc.cell? ⟨gb606, 5, none⟩ = some (.int .i64 a0_5) := (blk_cell BK606.out 5).trans rfl
            have hcz50_6 : wc.cell? ⟨gb606, 6, none⟩ = some (.slice A0_6 l0_6.length c0_6) := (blk_cell BK606.out 6).trans rfl
            have hfz50_0 := blk_frozen BK606.out 0
            have hfz50_1 := blk_frozen BK606.out 1
            have hfz50_2 := blk_frozen BK606.out 2
            have hfz50_3 := blk_frozen BK606.out 3
            have hfz50_4 := blk_frozen BK606.out 4
            have hfz50_5 := blk_frozen BK606.out 5
            have hfz50_6 := blk_frozen BK606.out 6
            go_wp2_with (first | ((with_reducible refine gate_callee (f := 34) rfl ?_); refine goesL_ (some 45) rfl rfl Try.func34 (by kernel_rfl) rfl #[.agg #[.string a0_0, .int .i64 a0_1, .int .i64 a0_2, .int .i64 a0_3, .int .i64 a0_4, .int .i64 a0_5, .slice A0_6 l0_6.length c0_6], .slice A3 l3.length c3] rfl (by (try simp only [List.map_toArray, List.map_cons, List.map_nil]); first | done | rfl | (simp only [List.length_drop, List.length_take]; rfl)) ?_; (with_reducible refine (proof_Missing.calls kj6 a0_0 a0_1 a0_2 a0_3 a0_4 a0_5 _ _ l0_6 _ _ l3 t612 t613 _ ?side1 ?side2 ?side3 ?side4 A43.out).mono ?_); (case side1 => repeat (first | exact (Kd.C_below HR0_6.out HB.out) | (with_reducible refine Kd.C_alloc ?_ _) | (with_reducible refine Kd.C_drewN ?_ _) | (with_reducible refine Kd.C_drew ?_))); (case side2 => exact HC0_6.out); (case side3 => repeat (first | exact (Kd.C_below HR3.out HB.out) | (with_reducible refine Kd.C_alloc ?_ _) | (with_reducible refine Kd.C_drewN ?_ _) | (with_reducible refine Kd.C_drew ?_))); (case side4 => exact HC3.out); rintro e w51 ⟨rfl, hb⟩; refine ⟨_, rfl, ?_⟩; have n0_ := Aside0.mk (blk_below (g := gb606) (o := .cells #[.string a0_0, .int .i64 a0_1, .int .i64 a0_2, .int .i64 a0_3, .int .i64 a0_4, .int .i64 a0_5, .slice A0_6 l0_6.length c0_6] 41 (0, 0)) (by (with_reducible repeat (first | refine blk_drewN ?_ _ | refine blk_drew ?_ | refine blk_alloc ?_ _)); exact BK606.out) hb); have n1_ := Aside0.mk (blk_below (g := gb607) (o := .cells #[.slice A2_0 l2_0.length c2_0, .int .i64 a2_1, .slice A2_2 l2_2.length c2_2] 48 (0, 0)) (by (with_reducible repeat (first | refine blk_drewN ?_ _ | refine blk_drew ?_ | refine blk_alloc ?_ _)); exact BK607.out) hb); have n2_ := Aside0.mk (below_step (by repeat (first | (with_reducible first | exact HB.out | apply below_alloc | apply pw_below_drewN | apply below_drew1 | refine below_set ?_ GE606.out | refine below_set ?_ GE607.out) | exact HB.out)) hb); clear BK606; clear BK607; clear HB; have BK606 := n0_; have BK607 := n1_; have HB := n2_; clear n0_ n1_ n2_; (try clear hb); (try clear hb2); (try clear hk); (try clear hi)))
            go_ret
            exact ⟨by first | rfl | (simp [errW_none, errW_some] <;> rfl) | (simp [*, errW_none, errW_some] <;> rfl), by repeat (first | (with_reducible first | exact HB.out | apply below_alloc | apply pw_below_drewN | apply below_drew1 | refine below_set ?_ GE606.out | refine below_set ?_ GE607.out) | exact HB.out)⟩
  · replace c6 := Bool.eq_false_iff.mpr c6
    subst c6
    have H1 : (some false) = some r := by rw [if_neg (show ¬ (false = true) by decide)] at H; exact H
    clear H
    have H := H1
    clear H1
    obtain rfl := Option.some.inj H
    go_enter Try.func16, Try.ntmps16
    go_wp2_with (first | ((with_reducible refine gate_dst (N := 4) rfl ?_); (try (refine gate_guard (by rfl) ?_; dsimp only)); refine box_event ?hg (N := 4) ?hd (cs := #[.string a0_0, .int .i64 a0_1, .int .i64 a0_2, .int .i64 a0_3, .int .i64 a0_4, .int .i64 a0_5, .slice A0_6 l0_6.length c0_6]) (t := 41) ?hr ?_; (case hd => rfl); (case hg => rfl); (case hr => first | (go_simp; done) | (go_simp; rfl)); intro gb606 hg w52 hbox hb; have n0_ := Aside0.mk (below_step (by repeat (first | (with_reducible first | exact HB.out | apply below_alloc | apply pw_below_drewN | apply below_drew1) | exact HB.out)) hb); have n1_ := Aside0.mk (hbox); have n2_ := Aside0.mk ((by rw [hg]; exact (below_size (by repeat (first | (with_reducible first | exact HB.out | apply below_alloc | apply pw_below_drewN | apply below_drew1) | exact HB.out))) : w.heap.size ≤ gb606)); have n3_ := Aside0.mk ((by rw [hg]; exact (below_size (by repeat (first | (with_reducible first | exact HB.out | apply below_alloc | apply pw_below_drewN | apply below_drew1) | exact HB.out))) : w.heap.size ≤ gb606)); clear HB; have HB := n0_; have BK606 := n1_; have GW606 := n2_; have GE606 := n3_; clear n0_ n1_ n2_ n3_; clear hb hbox hg) | ((with_reducible refine gate_dst (N := 6) rfl ?_); (try (refine gate_guard (by rfl) ?_; dsimp only)); refine box_event ?hg (N := 6) ?hd (cs := #[.slice A2_0 l2_0.length c2_0, .int .i64 a2_1, .slice A2_2 l2_2.length c2_2]) (t := 48) ?hr ?_; (case hd => rfl); (case hg => rfl); (case hr => first | (go_simp; done) | (go_simp; rfl)); intro gb607 hg w53 hbox hb; have n0_ := Aside0.mk (blk_below (g := gb606) (o := .cells #[.string a0_0, .int .i64 a0_1, .int .i64 a0_2, .int .i64 a0_3, .int .i64 a0_4, .int .i64 a0_5, .slice A0_6 l0_6.length c0_6] 41 (0, 0)) (by (with_reducible repeat (first | refine blk_drewN ?_ _ | refine blk_drew ?_ | refine blk_alloc ?_ _)); exact BK606.out) hb); have n1_ := Aside0.mk (below_step (by repeat (first | (with_reducible first | exact HB.out | apply below_alloc | apply pw_below_drewN | apply below_drew1 | refine below_set ?_ GE606.out) | exact HB.out)) hb); have n2_ := Aside0.mk (hbox); have n3_ := Aside0.mk ((by rw [hg]; exact (below_size (by repeat (first | (with_reducible first | exact HB.out | apply below_alloc | apply pw_below_drewN | apply below_drew1 | refine below_set ?_ GE606.out) | exact HB.out))) : w.heap.size ≤ gb607)); have n4_ := Aside0.mk ((by rw [hg]; exact (below_size (by repeat (first | (with_reducible first | exact HB.out | apply below_alloc | apply pw_below_drewN | apply below_drew1 | refine below_set ?_ GE606.out) | exact HB.out))) : w.heap.size ≤ gb607)); have n5_ := Aside0.mk ((by rw [hg]; exact Nat.ne_of_lt (blk_lt (g := gb606) (o := .cells #[.string a0_0, .int .i64 a0_1, .int .i64 a0_2, .int .i64 a0_3, .int .i64 a0_4, .int .i64 a0_5, .slice A0_6 l0_6.length c0_6] 41 (0, 0)) (by (with_reducible repeat (first | refine blk_drewN ?_ _ | refine blk_drew ?_ | refine blk_alloc ?_ _)); exact BK606.out)) : gb606 ≠ gb607)); have n6_ := Aside0.mk ((by rw [hg]; exact Nat.ne_of_gt (blk_lt (g := gb606) (o := .cells #[.string a0_0, .int .i64 a0_1, .int .i64 a0_2, .int .i64 a0_3, .int .i64 a0_4, .int .i64 a0_5, .slice A0_6 l0_6.length c0_6] 41 (0, 0)) (by (with_reducible repeat (first | refine blk_drewN ?_ _ | refine blk_drew ?_ | refine blk_alloc ?_ _)); exact BK606.out)) : gb607 ≠ gb606)); clear BK606; clear HB; have BK606 := n0_; have HB := n1_; have BK607 := n2_; have GW607 := n3_; have GE607 := n4_; have NB606_607 := n5_; have NB607_606 := n6_; clear n0_ n1_ n2_ n3_ n4_ n5_ n6_; clear hb hbox hg) | ((with_reducible refine gate_callee (f := 30) rfl ?_); refine goesL_ (some 11) rfl rfl Try.func30 (by kernel_rfl) rfl #[] rfl (by (try simp only [List.map_toArray, List.map_cons, List.map_nil]); first | done | rfl | (simp only [List.length_drop, List.length_take]; rfl)) ?_; (with_reducible refine (sizarlaw20_sane.calls k  false _ A5.out).mono ?_); rintro e w54 ⟨rfl, hb⟩; refine ⟨_, rfl, ?_⟩; have n0_ := Aside0.mk (blk_below (g := gb606) (o := .cells #[.string a0_0, .int .i64 a0_1, .int .i64 a0_2, .int .i64 a0_3, .int .i64 a0_4, .int .i64 a0_5, .slice A0_6 l0_6.length c0_6] 41 (0, 0)) (by (with_reducible repeat (first | refine blk_drewN ?_ _ | refine blk_drew ?_ | refine blk_alloc ?_ _)); exact BK606.out) hb); have n1_ := Aside0.mk (blk_below (g := gb607) (o := .cells #[.slice A2_0 l2_0.length c2_0, .int .i64 a2_1, .slice A2_2 l2_2.length c2_2] 48 (0, 0)) (by (with_reducible repeat (first | refine blk_drewN ?_ _ | refine blk_drew ?_ | refine blk_alloc ?_ _)); exact BK607.out) hb); have n2_ := Aside0.mk (below_step (by repeat (first | (with_reducible first | exact HB.out | apply below_alloc | apply pw_below_drewN | apply below_drew1 | refine below_set ?_ GE606.out | refine below_set ?_ GE607.out) | exact HB.out)) hb); clear BK606; clear BK607; clear HB; have BK606 := n0_; have BK607 := n1_; have HB := n2_; clear n0_ n1_ n2_; (try clear hb); (try clear hb2); (try clear hk); (try clear hi)))
    go_ret
    exact ⟨by first | rfl | (simp [errW_none, errW_some] <;> rfl) | (simp [*, errW_none, errW_some] <;> rfl), by repeat (first | (with_reducible first | exact HB.out | apply below_alloc | apply pw_below_drewN | apply below_drew1 | refine below_set ?_ GE606.out | refine below_set ?_ GE607.out) | exact HB.out)⟩
end Go.Proofs.Ytadeidhefjifaaa.Px
end
section
set_option linter.unusedVariables false
set_option linter.unusedSimpArgs false
namespace Go.Proofs.Ytadeidhefjifaaa.Px.L20
open Go.RowKit Go.Proofs.YtadeidhefjifaaaW.PrintWords Go.Proofs.YtadeidhefjifaaaW.PrintLast Go.Proofs.YtadeidhefjifaaaW.PrintMore
/-- from some number of rounds on -/
def Ev {α : Type} (f : Nat → Option α) (r : α) : Prop := ∃ K, ∀ k, K ≤ k → f k = some r
section
variable {α β : Type} {f F A B : Nat → Option α} {r x : α} {y : β} {g : Nat → α → Option β} {c : Prop} [Decidable c]
theorem Ev.of (r : α) : Ev (fun _ => some r) r := ⟨0, fun _ _ => rfl⟩
theorem Ev.step (h : Ev F r) (e : ∀ k, f (k + 1) = F k) : Ev f r := by
  obtain ⟨K, h⟩ := h
  refine ⟨K + 1, fun k hk => ?_⟩
  obtain ⟨j, rfl⟩ : ∃ j, k = j + 1 := ⟨k - 1, by omega⟩
  rw [e]; exact h j (by omega)
theorem Ev.congr (h : Ev F r) (e : ∀ k, f k = F k) : Ev f r := by
  obtain ⟨K, h⟩ := h
  exact ⟨K, fun k hk => by rw [e]; exact h k hk⟩
theorem Ev.bind (h : Ev f x) (k : Ev (fun j => g j x) y) : Ev (fun j => (f j).bind (g j)) y := by
  obtain ⟨K, h⟩ := h
  obtain ⟨L, k⟩ := k
  exact ⟨K + L, fun j hj => by show (f j).bind (g j) = _; rw [h j (by omega)]; exact k j (by omega)⟩
theorem Ev.pos (hc : c) (h : Ev A r) : Ev (fun k => if c then A k else B k) r := h.congr fun k => if_pos hc
theorem Ev.neg (hc : ¬ c) (h : Ev B r) : Ev (fun k => if c then A k else B k) r := h.congr fun k => if_neg hc
theorem Ev.eq {r' : α} (h : Ev f r) (e : r = r') : Ev f r' := e ▸ h
theorem Ev.at (h : Ev f r) : ∃ k, f k = some r := by
  obtain ⟨K, h⟩ := h
  exact ⟨K, h K (Nat.le_refl _)⟩
theorem Ev.mono {K : Nat} (h : f K = some r) (hm : ∀ k, LeO (f k) (f (k + 1))) : Ev f r := by
  refine ⟨K, fun k hk => ?_⟩
  induction k with
  | zero => have : K = 0 := by omega
            rw [← this]; exact h
  | succ k ih =>
    by_cases e : K = k + 1
    · rw [← e]; exact h
    · exact hm k r (ih (by omega))
end
theorem wrap_id (x : Int) (h0 : -9223372036854775808 ≤ x) (h1 : x ≤ 9223372036854775807) : wrap64 x = x := by
  unfold wrap64; omega
def sg (f : Nat → Int) : Nat → Int
  | 0 => 0
  | n + 1 => sg f n + f n
theorem sg_le {f g : Nat → Int} : ∀ {n : Nat}, (∀ i, i < n → f i ≤ g i) → sg f n ≤ sg g n
  | 0, _ => Int.le_refl _
  | n + 1, h => by
    have := sg_le (n := n) fun i hi => h i (by omega)
    have := h n (by omega)
    simp only [sg]; omega
theorem sg_congr {f g : Nat → Int} {n : Nat} (h : ∀ i, i < n → f i = g i) : sg f n = sg g n := by
  have := sg_le fun i hi => Int.le_of_eq (h i hi)
  have := sg_le fun i hi => Int.le_of_eq (h i hi).symm
  omega
theorem sg_add (f g : Nat → Int) : ∀ n, sg (fun i => f i + g i) n = sg f n + sg g n
  | 0 => rfl
  | n + 1 => by simp only [sg, sg_add f g n]; omega
theorem sg_sub (f g : Nat → Int) : ∀ n, sg (fun i => f i - g i) n = sg f n - sg g n
  | 0 => rfl
  | n + 1 => by simp only [sg, sg_sub f g n]; omega
theorem sg_zero : ∀ n, sg (fun _ => 0) n = 0
  | 0 => rfl
  | n + 1 => by simp only [sg, sg_zero n]; rfl
theorem sg_swap (x : Nat → Nat → Int) (m : Nat) : ∀ n, sg (fun j => sg (x j) m) n = sg (fun k => sg (fun j => x j k) n) m
  | 0 => by simp only [sg]; exact (sg_zero m).symm
  | n + 1 => by simp only [sg]; rw [sg_swap x m n, sg_add]
theorem sg_none (v : Int) (j : Nat) : ∀ n, n ≤ j → sg (fun i => if i = j then v else 0) n = 0
  | 0, _ => rfl
  | n + 1, h => by simp only [sg]; rw [sg_none v j n (by omega), if_neg (by omega)]; rfl
theorem sg_one (v : Int) (j : Nat) : ∀ n, j < n → sg (fun i => if i = j then v else 0) n = v
  | 0, h => by omega
  | n + 1, h => by
    simp only [sg]
    by_cases e : j = n
    · subst e; rw [sg_none v j j (Nat.le_refl _), if_pos rfl]; omega
    · rw [sg_one v j n (by omega), if_neg (by omega)]; omega
theorem sg_bound {f : Nat → Int} {b : Int} : ∀ {n : Nat}, (∀ i, i < n → 0 ≤ f i ∧ f i ≤ b) → 0 ≤ sg f n ∧ sg f n ≤ b * n
  | 0, _ => by simp [sg]
  | n + 1, h => by
    have h1 := sg_bound (n := n) fun i hi => h i (by omega)
    have h2 := h n (by omega)
    simp only [sg]
    have : b * ((n + 1 : Nat) : Int) = b * n + b := by rw [Int.natCast_add, Int.mul_add]; simp
    omega
/-- the credits of the uses that p picks -/
def sb (p : S57 → Bool) : List S57 → Int
  | [] => 0
  | u :: us => (if p u = true then u.f2 else 0) + sb p us
theorem sb_yes {p : S57 → Bool} {u : S57} {us : List S57} (h : p u = true) : sb p (u :: us) = u.f2 + sb p us := by rw [sb, if_pos h]
theorem sb_no {p : S57 → Bool} {u : S57} {us : List S57} (h : ¬ p u = true) : sb p (u :: us) = sb p us := by rw [sb, if_neg h, Int.zero_add]
def atA (a : Int) (u : S57) : Bool := decide (u.f0 = a)
def atR (r : Int) (u : S57) : Bool := decide (u.f1 = r)
def atB (a r : Int) (u : S57) : Bool := decide (u.f0 = a ∧ u.f1 = r)
theorem rd_memA {l : List S44} {a : Int} (h0 : 0 ≤ a) (h1 : a < l.length) : rd_T44 l a ∈ l := by
  unfold rd_T44
  rw [List.getD_eq_getElem?_getD, List.getElem?_eq_getElem (by omega)]
  exact List.getElem_mem _
theorem rd_memQ {q : List S92} {a : Int} (h0 : 0 ≤ a) (h1 : a < q.length) : rd_T92 q a ∈ q := by
  unfold rd_T92
  rw [List.getD_eq_getElem?_getD, List.getElem?_eq_getElem (by omega)]
  exact List.getElem_mem _
/-- a programme and attempts that are in order, as far as the law asks -/
structure Gd (u : Int) (q : List S92) (l : List S44) : Prop where
  u1 : 1 ≤ u
  u4 : u ≤ 4
  len : q.length ≤ 64
  q1 : ∀ x ∈ q, 1 ≤ x.f1 ∧ x.f1 ≤ 10000
  l1 : ∀ x ∈ l, 0 ≤ x.f4 ∧ x.f4 ≤ 60
theorem gd_of {n u e mn md : Int} {q : List S92} {l : List S44} (h : askV n u e mn md q l = 0) : degV n u e mn md q = 0 ∧ attV l = 0 ∧ Gd u q l := by
  unfold askV at h
  split at h
  · rename_i h1
    refine ⟨h1, h, ?_⟩
    unfold degV at h1
    split at h1
    · rename_i h2
      simp only [Bool.and_eq_true, decide_eq_true_eq, inB, List.all_eq_true, goodQ] at h2
      unfold attV at h
      split at h
      · cases h
      · rename_i h3
        refine ⟨h2.1.1.1.1.1.2.1, h2.1.1.1.1.1.2.2, by omega, fun x hx => (h2.2 x hx).1.1, fun x hx => ?_⟩
        have h4 : goodA x = true := by
          by_cases hg : goodA x = true
          · exact hg
          · exact absurd (List.any_eq_true.2 ⟨x, hx, by simp [badA, hg]⟩) h3
        simp only [goodA, inB, Bool.and_eq_true, decide_eq_true_eq] at h4
        exact h4.2.2.2.2
    · cases h1
  · rename_i h1; exact absurd h h1
theorem cap_bound {u : Int} {q : List S92} {l : List S44} (G : Gd u q l) {a : Int} (h0 : 0 ≤ a) (h1 : a < l.length) : 0 ≤ (rd_T44 l a).f4 * u ∧ (rd_T44 l a).f4 * u ≤ 240 := by
  have h := G.l1 _ (rd_memA h0 h1)
  have := Int.mul_le_mul h.2 G.u4 (by have := G.u1; omega) (by omega)
  exact ⟨Int.mul_nonneg h.1 (by have := G.u1; omega), by omega⟩
def Use (q : List S92) (l : List S44) (u : S57) : Prop := 0 ≤ u.f0 ∧ u.f0 < l.length ∧ 0 ≤ u.f1 ∧ u.f1 < q.length ∧ 1 ≤ u.f2 ∧ u.f2 ≤ (rd_T44 l u.f0).f4 ∧ eligB (rd_T92 q u.f1) (rd_T44 l u.f0) = true
/-- one step of the walk over the uses -/
theorem al_cons {pu : Int} {q : List S92} {l : List S44} (G : Gd pu q l) {u : S57} {us : List S57} {pr : Option S57} {m1 m2 : Int → Int} (h : alGo q l pu pr m1 m2 (u :: us) = true) (h1 : ∀ a, 0 ≤ m1 a ∧ m1 a ≤ 240) (h2 : ∀ r, 0 ≤ m2 r ∧ m2 r ≤ 10000) :
    Use q l u ∧ useAft pr u = true ∧ m1 u.f0 + u.f2 ≤ (rd_T44 l u.f0).f4 * pu ∧ m2 u.f1 + u.f2 ≤ (rd_T92 q u.f1).f1 ∧ alGo q l pu (some u) (updM m1 u.f0 (m1 u.f0 + u.f2)) (updM m2 u.f1 (m2 u.f1 + u.f2)) us = true ∧
    (∀ a, 0 ≤ updM m1 u.f0 (m1 u.f0 + u.f2) a ∧ updM m1 u.f0 (m1 u.f0 + u.f2) a ≤ 240) ∧ (∀ r, 0 ≤ updM m2 u.f1 (m2 u.f1 + u.f2) r ∧ updM m2 u.f1 (m2 u.f1 + u.f2) r ≤ 10000) := by
  rw [alGo] at h
  simp only [Bool.and_eq_true, decide_eq_true_eq, useIn, useFit] at h
  obtain ⟨⟨⟨⟨a0, a1⟩, b0⟩, b1⟩, ha, ⟨⟨c0, c1⟩, hel⟩, hx, hy, hr⟩ := h
  have hcap := cap_bound G a0 a1
  have hcr := G.l1 _ (rd_memA a0 a1)
  have hq := G.q1 _ (rd_memQ b0 b1)
  have k1 := h1 u.f0
  have k2 := h2 u.f1
  rw [wrap_id (m1 u.f0 + u.f2) (by omega) (by omega)] at hx hr
  rw [wrap_id (m2 u.f1 + u.f2) (by omega) (by omega)] at hy hr
  rw [wrap_id ((rd_T44 l u.f0).f4 * pu) (by omega) (by omega)] at hx
  refine ⟨⟨a0, a1, b0, b1, c0, c1, hel⟩, ha, hx, hy, hr, fun a => ?_, fun r => ?_⟩
  · unfold updM; split
    · omega
    · exact h1 a
  · unfold updM; split
    · omega
    · exact h2 r
theorem al_use {pu : Int} {q : List S92} {l : List S44} (G : Gd pu q l) : ∀ (us : List S57) (pr : Option S57) (m1 m2 : Int → Int), alGo q l pu pr m1 m2 us = true → (∀ a, 0 ≤ m1 a ∧ m1 a ≤ 240) → (∀ r, 0 ≤ m2 r ∧ m2 r ≤ 10000) → ∀ u ∈ us, Use q l u
  | [], _, _, _, _, _, _ => fun u hu => by cases hu
  | u :: us, pr, m1, m2, h, h1, h2 => by
    obtain ⟨hu, _, _, _, hr, k1, k2⟩ := al_cons G h h1 h2
    intro x hx
    rcases List.mem_cons.1 hx with rfl | hx
    · exact hu
    · exact al_use G us _ _ _ hr k1 k2 x hx
theorem al_row {pu : Int} {q : List S92} {l : List S44} (G : Gd pu q l) (a : Int) : ∀ (us : List S57) (pr : Option S57) (m1 m2 : Int → Int), alGo q l pu pr m1 m2 us = true → (∀ a, 0 ≤ m1 a ∧ m1 a ≤ 240) → (∀ r, 0 ≤ m2 r ∧ m2 r ≤ 10000) → m1 a ≤ (rd_T44 l a).f4 * pu → m1 a + sb (atA a) us ≤ (rd_T44 l a).f4 * pu
  | [], _, _, _, _, _, _, h => by simp only [sb]; omega
  | u :: us, pr, m1, m2, h, h1, h2, hm => by
    obtain ⟨hu, _, hx, _, hr, k1, k2⟩ := al_cons G h h1 h2
    have ih := al_row G a us _ _ _ hr k1 k2
    by_cases e : u.f0 = a
    · subst e
      have hv : updM m1 u.f0 (m1 u.f0 + u.f2) u.f0 = m1 u.f0 + u.f2 := if_pos rfl
      rw [hv] at ih
      rw [sb_yes (by simp [atA])]
      have := ih hx
      omega
    · have hv : updM m1 u.f0 (m1 u.f0 + u.f2) a = m1 a := if_neg (fun h => e h.symm)
      rw [hv] at ih
      rw [sb_no (by simp [atA, e])]
      have := ih hm
      omega
theorem al_col {pu : Int} {q : List S92} {l : List S44} (G : Gd pu q l) (r : Int) : ∀ (us : List S57) (pr : Option S57) (m1 m2 : Int → Int), alGo q l pu pr m1 m2 us = true → (∀ a, 0 ≤ m1 a ∧ m1 a ≤ 240) → (∀ r, 0 ≤ m2 r ∧ m2 r ≤ 10000) → m2 r ≤ (rd_T92 q r).f1 → m2 r + sb (atR r) us ≤ (rd_T92 q r).f1
  | [], _, _, _, _, _, _, h => by simp only [sb]; omega
  | u :: us, pr, m1, m2, h, h1, h2, hm => by
    obtain ⟨hu, _, _, hx, hr, k1, k2⟩ := al_cons G h h1 h2
    have ih := al_col G r us _ _ _ hr k1 k2
    by_cases e : u.f1 = r
    · subst e
      have hv : updM m2 u.f1 (m2 u.f1 + u.f2) u.f1 = m2 u.f1 + u.f2 := if_pos rfl
      rw [hv] at ih
      rw [sb_yes (by simp [atR])]
      have := ih hx
      omega
    · have hv : updM m2 u.f1 (m2 u.f1 + u.f2) r = m2 r := if_neg (fun h => e h.symm)
      rw [hv] at ih
      rw [sb_no (by simp [atR, e])]
      have := ih hm
      omega
theorem al_before {pu : Int} {q : List S92} {l : List S44} (G : Gd pu q l) (a r : Int) : ∀ (us : List S57) (v : S57) (m1 m2 : Int → Int), alGo q l pu (some v) m1 m2 us = true → (∀ a, 0 ≤ m1 a ∧ m1 a ≤ 240) → (∀ r, 0 ≤ m2 r ∧ m2 r ≤ 10000) → (a < v.f0 ∨ (a = v.f0 ∧ r ≤ v.f1)) → sb (atB a r) us = 0
  | [], _, _, _, _, _, _, _ => rfl
  | u :: us, v, m1, m2, h, h1, h2, hv => by
    obtain ⟨hu, ha, _, hx, hr, k1, k2⟩ := al_cons G h h1 h2
    simp only [useAft, Bool.not_eq_true', Bool.or_eq_false_iff, decide_eq_false_iff_not, Bool.and_eq_false_iff, beq_eq_false_iff_ne] at ha
    have ih := al_before G a r us u _ _ hr k1 k2 (by omega)
    rw [sb_no (by simp [atB]; omega), ih]
theorem al_one {pu : Int} {q : List S92} {l : List S44} (G : Gd pu q l) (a r : Int) (h0 : 0 ≤ a) (h9 : a < l.length) : ∀ (us : List S57) (pr : Option S57) (m1 m2 : Int → Int), alGo q l pu pr m1 m2 us = true → (∀ a, 0 ≤ m1 a ∧ m1 a ≤ 240) → (∀ r, 0 ≤ m2 r ∧ m2 r ≤ 10000) → sb (atB a r) us ≤ (rd_T44 l a).f4
  | [], _, _, _, _, _, _ => by have := G.l1 _ (rd_memA h0 h9); simp only [sb]; omega
  | u :: us, pr, m1, m2, h, h1, h2 => by
    obtain ⟨hu, ha, _, hx, hr, k1, k2⟩ := al_cons G h h1 h2
    by_cases e : u.f0 = a ∧ u.f1 = r
    · rw [sb_yes (by simp [atB, e])]
      have h3 := al_before G a r us u _ _ hr k1 k2 (by omega)
      obtain ⟨_, _, _, _, _, hc, _⟩ := hu
      rw [e.1] at hc
      omega
    · rw [sb_no (by simpa [atB] using e)]
      exact al_one G a r h0 h9 us _ _ _ hr k1 k2
/-- the rules that an allowed assignment keeps -/
structure Al (q : List S92) (l : List S44) (pu : Int) (us : List S57) : Prop where
  use : ∀ u ∈ us, Use q l u
  row : ∀ a : Int, 0 ≤ a → a < l.length → sb (atA a) us ≤ (rd_T44 l a).f4 * pu
  col : ∀ r : Int, 0 ≤ r → r < q.length → sb (atR r) us ≤ (rd_T92 q r).f1
  one : ∀ a r : Int, 0 ≤ a → a < l.length → sb (atB a r) us ≤ (rd_T44 l a).f4
theorem al_all {pu : Int} {q : List S92} {l : List S44} (G : Gd pu q l) {us : List S57} (h : alGo q l pu none (fun _ => 0) (fun _ => 0) us = true) : Al q l pu us := by
  have z1 : ∀ a : Int, 0 ≤ (fun _ : Int => (0 : Int)) a ∧ (fun _ : Int => (0 : Int)) a ≤ 240 := fun a => by simp
  have z2 : ∀ a : Int, 0 ≤ (fun _ : Int => (0 : Int)) a ∧ (fun _ : Int => (0 : Int)) a ≤ 10000 := fun a => by simp
  refine ⟨al_use G us _ _ _ h z1 z2, fun a h0 h1 => ?_, fun r h0 h1 => ?_, fun a r h0 h1 => al_one G a r h0 h1 us _ _ _ h z1 z2⟩
  · have := al_row G a us _ _ _ h z1 z2 (cap_bound G h0 h1).1; simpa using this
  · have := al_col G r us _ _ _ h z1 z2 (by have := G.q1 _ (rd_memQ h0 h1); show (0 : Int) ≤ _; omega); simpa using this
theorem sb_nonneg {p : S57 → Bool} : ∀ {us : List S57}, (∀ u ∈ us, 1 ≤ u.f2) → 0 ≤ sb p us
  | [], _ => Int.le_refl _
  | u :: us, h => by
    have := sb_nonneg (p := p) (us := us) fun x hx => h x (by simp [hx])
    have := h u (by simp)
    by_cases e : p u = true
    · rw [sb_yes e]; omega
    · rw [sb_no e]; omega
theorem sb_zero {p : S57 → Bool} : ∀ {us : List S57}, (∀ u ∈ us, ¬ p u = true) → sb p us = 0
  | [], _ => rfl
  | u :: us, h => by rw [sb_no (h u (by simp))]; exact sb_zero fun x hx => h x (by simp [hx])
theorem sg_split {p : S57 → Bool} {c : S57 → Int} {m : Nat} {pk : Nat → S57 → Bool} (hpk : ∀ k u, pk k u = (p u && decide (c u = k))) : ∀ {us : List S57}, (∀ u ∈ us, 0 ≤ c u ∧ c u < m) → sg (fun k => sb (pk k) us) m = sb p us
  | [], _ => sg_zero m
  | u :: us, h => by
    have ih := sg_split hpk (us := us) fun x hx => h x (by simp [hx])
    have hu := h u (by simp)
    simp only [sb]
    rw [sg_add, ih]
    congr 1
    by_cases e : p u = true
    · rw [if_pos e]
      refine (sg_congr fun k hk => ?_).trans (sg_one u.f2 (c u).toNat m (by omega))
      simp only [hpk, e, Bool.true_and, decide_eq_true_eq]
      by_cases e1 : c u = (k : Int)
      · rw [if_pos e1, if_pos (by omega)]
      · rw [if_neg e1, if_neg (by omega)]
    · rw [if_neg e]
      refine (sg_congr fun k hk => ?_).trans (sg_zero m)
      rw [if_neg (by simp [hpk, e])]
/-- all credits of an assignment -/
def allS (us : List S57) : Int := sb (fun _ => true) us
theorem flat_sum (f : Nat → List Int) : ∀ n, ((List.range n).flatMap f).sum = sg (fun j => (f j).sum) n
  | 0 => rfl
  | n + 1 => by rw [range_flat, List.sum_append, flat_sum f n]; rfl
def rowS (q : List S92) (cr : List Bool) (a : S44) (m : Nat) : Int := sg (fun k => if rdOf false cr (k : Int) = false ∧ eligB (rd_T92 q k) a = true then a.f4 else 0) m
theorem row_sum (q : List S92) (cr : List Bool) (a : S44) (m : Nat) : (rowP q cr a m).sum = rowS q cr a m := by
  unfold rowP rowS
  rw [flat_sum]
  refine sg_congr fun k hk => ?_
  split <;> simp
def outS (q : List S92) (l : List S44) (pu : Int) (ca cr : List Bool) (j : Nat) : Int := if rdOf false ca (j : Int) = false then (rd_T44 l j).f4 * pu else rowS q cr (rd_T44 l j) q.length
def finS (q : List S92) (cr : List Bool) (k : Nat) : Int := if rdOf false cr (k : Int) = true then (rd_T92 q k).f1 else 0
theorem acr_sum {pu : Int} {q : List S92} {l : List S44} (G : Gd pu q l) (ca cr : List Bool) : (acrL q l pu ca cr).sum = sg (outS q l pu ca cr) l.length + sg (finS q cr) q.length := by
  unfold acrL outP finP
  rw [List.sum_append, flat_sum, flat_sum]
  congr 1
  · refine sg_congr fun j hj => ?_
    unfold outS
    split
    · have := cap_bound G (a := j) (by omega) (by omega)
      rw [wrap_id _ (by omega) (by omega)]; simp
    · exact row_sum _ _ _ _
  · refine sg_congr fun j hj => ?_
    unfold finS
    split <;> simp
theorem row_bound {pu : Int} {q : List S92} {l : List S44} (G : Gd pu q l) (cr : List Bool) {j : Nat} (hj : j < l.length) : 0 ≤ rowS q cr (rd_T44 l j) q.length ∧ rowS q cr (rd_T44 l j) q.length ≤ 3840 := by
  have h := G.l1 _ (rd_memA (a := j) (by omega) (by omega))
  have := sg_bound (b := 60) (n := q.length) (f := fun k => if rdOf false cr (k : Int) = false ∧ eligB (rd_T92 q k) (rd_T44 l j) = true then (rd_T44 l j).f4 else 0) fun i hi => by split <;> omega
  have := G.len
  unfold rowS
  omega
theorem out_bound {pu : Int} {q : List S92} {l : List S44} (G : Gd pu q l) (ca cr : List Bool) {j : Nat} (hj : j < l.length) : 0 ≤ outS q l pu ca cr j ∧ outS q l pu ca cr j ≤ 3840 := by
  unfold outS
  split
  · have := cap_bound G (a := j) (by omega) (by omega); omega
  · exact row_bound G cr hj
theorem fin_bound {pu : Int} {q : List S92} {l : List S44} (G : Gd pu q l) (cr : List Bool) {k : Nat} (hk : k < q.length) : 0 ≤ finS q cr k ∧ finS q cr k ≤ 10000 := by
  have := G.q1 _ (rd_memQ (a := k) (by omega) (by omega))
  unfold finS
  split <;> omega
/-- NO ASSIGNMENT EXCEEDS A CUT. -/
theorem dual {pu : Int} {q : List S92} {l : List S44} (G : Gd pu q l) {us : List S57} (A : Al q l pu us) (ca cr : List Bool) : allS us ≤ sg (outS q l pu ca cr) l.length + sg (finS q cr) q.length := by
  have hpos : ∀ p, 0 ≤ sb p us := fun p => sb_nonneg fun u hu => (A.use u hu).2.2.2.2.1
  have hS : sg (fun j => sb (atA j) us) l.length = allS us := sg_split (c := S57.f0) (fun k u => by simp [atA]) fun u hu => ⟨(A.use u hu).1, (A.use u hu).2.1⟩
  have hR : ∀ j : Nat, sg (fun k => sb (atB j k) us) q.length = sb (atA j) us := fun j => sg_split (c := S57.f1) (fun k u => by simp [atB, atA]) fun u hu => ⟨(A.use u hu).2.2.1, (A.use u hu).2.2.2.1⟩
  have hC : ∀ k : Nat, sg (fun j => sb (atB j k) us) l.length = sb (atR k) us := fun k => sg_split (c := S57.f0) (fun j u => by simp [atB, atR, Bool.and_comm]) fun u hu => ⟨(A.use u hu).1, (A.use u hu).2.1⟩
  have hrow : ∀ j, j < l.length → sb (atA j) us ≤ outS q l pu ca cr j + sg (fun k => if rdOf false cr (k : Int) = true then sb (atB j k) us else 0) q.length := by
    intro j hj
    have h0 : 0 ≤ sg (fun k => if rdOf false cr (k : Int) = true then sb (atB j k) us else 0) q.length := by
      have h := sg_le (f := fun _ => 0) (g := fun k => if rdOf false cr (k : Int) = true then sb (atB j k) us else 0) (n := q.length) fun k hk => by
        split
        · exact hpos _
        · exact Int.le_refl _
      rwa [sg_zero] at h
    unfold outS
    split
    · have := A.row j (by omega) (by omega); omega
    · rw [← hR j]
      have h1 : sg (fun k => sb (atB j k) us) q.length = sg (fun k => if rdOf false cr (k : Int) = true then 0 else sb (atB j k) us) q.length + sg (fun k => if rdOf false cr (k : Int) = true then sb (atB j k) us else 0) q.length := by
        rw [← sg_add]
        exact sg_congr fun k hk => by split <;> simp
      have h2 : sg (fun k => if rdOf false cr (k : Int) = true then 0 else sb (atB j k) us) q.length ≤ rowS q cr (rd_T44 l j) q.length := by
        refine sg_le fun k hk => ?_
        have hc := G.l1 _ (rd_memA (l := l) (a := (j : Int)) (by omega) (by omega))
        by_cases e : rdOf false cr (k : Int) = true
        · rw [if_pos e, if_neg (by simp [e])]; exact Int.le_refl _
        · rw [if_neg e]
          by_cases e2 : eligB (rd_T92 q k) (rd_T44 l j) = true
          · rw [if_pos ⟨by simpa using e, e2⟩]; exact A.one j k (by omega) (by omega)
          · rw [if_neg (fun h => e2 h.2)]
            refine Int.le_of_eq (sb_zero fun u hu hb => ?_)
            have := (A.use u hu).2.2.2.2.2.2
            simp only [atB, decide_eq_true_eq] at hb
            rw [hb.1, hb.2] at this
            exact e2 this
      omega
  have hsum := sg_le hrow
  rw [sg_add, hS, sg_swap] at hsum
  have hfin : sg (fun k => sg (fun j => if rdOf false cr (k : Int) = true then sb (atB j k) us else 0) l.length) q.length ≤ sg (finS q cr) q.length := by
    refine sg_le fun k hk => ?_
    unfold finS
    by_cases e : rdOf false cr (k : Int) = true
    · simp only [e, if_true]
      rw [hC k]
      exact A.col k (by omega) (by omega)
    · rw [if_neg e]
      refine Int.le_of_eq ((sg_congr fun j hj => ?_).trans (sg_zero l.length))
      rw [if_neg e]
  omega
theorem less_eq : ∀ (xs : List Int) (s : Int), (∀ x ∈ xs, 0 ≤ x) → -9223372036854775808 ≤ s - xs.sum → s ≤ 9223372036854775807 → lessL s xs = s - xs.sum
  | [], s, _, _, _ => by simp [lessL]
  | x :: xs, s, h, h0, h1 => by
    have hx := h x (by simp)
    have hs : 0 ≤ xs.sum := by
      clear h0 h1
      induction xs with
      | nil => simp
      | cons y ys ih =>
        have := h y (by simp)
        have := ih fun z hz => h z (by
          rcases List.mem_cons.1 hz with rfl | hz
          · simp
          · simp [hz])
        simp only [List.sum_cons]; omega
    simp only [List.sum_cons] at h0 ⊢
    have := less_eq xs (s - x) (fun y hy => h y (by simp [hy])) (by omega) (by omega)
    unfold lessL at this ⊢
    rw [List.foldl_cons, wrap_id _ (by omega) (by omega), this]
    omega
def sumW (l : List Int) (s : Int) : Int := l.foldl (fun s x => wrap64 (s + x)) s
theorem sumW_eq : ∀ (xs : List Int) (s : Int), (∀ x ∈ xs, 0 ≤ x ∧ x ≤ 10000) → 0 ≤ s → s + 10000 * (xs.length : Int) ≤ 9223372036854775807 → sumW xs s = s + xs.sum
  | [], s, _, _, _ => by simp [sumW]
  | x :: xs, s, h, h0, h1 => by
    have hx := h x (by simp)
    simp only [List.length_cons, Int.natCast_add] at h1
    have := sumW_eq xs (s + x) (fun y hy => h y (by simp [hy])) (by omega) (by omega)
    unfold sumW at this ⊢
    simp only [List.sum_cons]
    rw [List.foldl_cons, wrap_id _ (by omega) (by omega), this]
    omega
theorem list_sg (xs : List Int) : ∀ n, n ≤ xs.length → (xs.take n).sum = sg (fun k => rd xs k) n
  | 0, _ => by simp [sg]
  | n + 1, h => by
    rw [List.take_add_one, List.sum_append, list_sg xs n (by omega), List.getElem?_eq_getElem (by omega)]
    simp only [sg, rd]
    simp [List.getD_eq_getElem?_getD, List.getElem?_eq_getElem (show n < xs.length by omega)]
theorem list_sum (xs : List Int) : xs.sum = sg (fun k => rd xs k) xs.length := by
  have := list_sg xs xs.length (Nat.le_refl _)
  rwa [List.take_length] at this
/-- all credits that are asked -/
def totS (q : List S92) : Int := sg (fun k => (rd_T92 q k).f1) q.length
theorem rd_f1 (q : List S92) {k : Nat} (hk : k < q.length) : rd (q.map S92.f1) (k : Int) = (rd_T92 q k).f1 := by
  unfold rd rd_T92
  simp [List.getD_eq_getElem?_getD, List.getElem?_eq_getElem hk]
theorem tot_eq {pu : Int} {q : List S92} {l : List S44} (G : Gd pu q l) : totV q = totS q := by
  have h : totV q = sumW (q.map S92.f1) 0 := by unfold totV sumW; rw [List.foldl_map]
  have := G.len
  rw [h, sumW_eq _ _ (fun x hx => ?_) (Int.le_refl _) (by simp only [List.length_map]; omega), list_sum, Int.zero_add, List.length_map]
  · exact sg_congr fun k hk => rd_f1 q hk
  · obtain ⟨y, hy, rfl⟩ := List.mem_map.1 hx
    have := G.q1 y hy
    exact ⟨by omega, this.2⟩
theorem tot_bound {pu : Int} {q : List S92} {l : List S44} (G : Gd pu q l) : 0 ≤ totS q ∧ totS q ≤ 640000 := by
  have := sg_bound (n := q.length) (b := 10000) (f := fun k => (rd_T92 q k).f1) fun i hi => by have := G.q1 _ (rd_memQ (a := i) (by omega) (by omega)); exact ⟨by omega, this.2⟩
  have := G.len
  unfold totS; omega
theorem acr_pos {pu : Int} {q : List S92} {l : List S44} (G : Gd pu q l) (ca cr : List Bool) : ∀ x ∈ acrL q l pu ca cr, 0 ≤ x := by
  intro x hx
  unfold acrL outP finP rowP at hx
  simp only [List.mem_append, List.mem_flatMap, List.mem_range] at hx
  rcases hx with ⟨j, hj, hx⟩ | ⟨k, hk, hx⟩
  · split at hx
    · have := cap_bound G (a := j) (by omega) (by omega)
      rw [wrap_id _ (by omega) (by omega)] at hx
      simp only [List.mem_singleton] at hx
      omega
    · simp only [List.mem_flatMap, List.mem_range] at hx
      obtain ⟨k, hk, hx⟩ := hx
      have := G.l1 _ (rd_memA (l := l) (a := (j : Int)) (by omega) (by omega))
      split at hx
      · simp only [List.mem_singleton] at hx; omega
      · cases hx
  · have := G.q1 _ (rd_memQ (a := k) (by omega) (by omega))
    split at hx
    · simp only [List.mem_singleton] at hx; omega
    · cases hx
/-- what a cut says -/
theorem bound_eq {pu : Int} {q : List S92} {l : List S44} (G : Gd pu q l) (hl : l.length ≤ 12000000) (ca cr : List Bool) : lessL (totV q) (acrL q l pu ca cr) = totS q - (sg (outS q l pu ca cr) l.length + sg (finS q cr) q.length) := by
  have h1 := sg_bound (b := 3840) (n := l.length) (f := outS q l pu ca cr) fun i hi => out_bound G ca cr hi
  have h2 := sg_bound (b := 10000) (n := q.length) (f := finS q cr) fun i hi => fin_bound G cr hi
  have h3 := tot_bound G
  have := G.len
  rw [tot_eq G, less_eq _ _ (acr_pos G ca cr) (by rw [acr_sum G]; omega) (by omega), acr_sum G]
def misGo : List S57 → List Int → Option (List Int)
  | [], r => some r
  | u :: us, r => if u.f1 < 0 ∨ (r.length : Int) ≤ u.f1 ∨ u.f2 < 1 ∨ rd r u.f1 < u.f2 then none else misGo us (r.set u.f1.toNat (wrap64 (rd r u.f1 - u.f2)))
def misR : Option (List Int) → Int × Int
  | none => (0, 200)
  | some r => (sumW r 0, 0)
def missV (n u e mn md : Int) (q : List S92) (us : List S57) : Int × Int := if degV n u e mn md q = 0 then misR (misGo us (q.map S92.f1)) else (0, degV n u e mn md q)
theorem drop_one {α : Type} (d : α) (l : List α) {i : Int} (h0 : 0 ≤ i) (h : i < l.length) : l.drop i.toNat = l.getD i.toNat d :: l.drop (i + 1).toNat := by
  rw [show (i + 1).toNat = i.toNat + 1 by omega, List.drop_eq_getElem_cons (by omega), List.getD_eq_getElem?_getD, List.getElem?_eq_getElem (by omega)]
  rfl
theorem mis_l2 (xs : List Int) (hx : xs.length ≤ 64) : ∀ (n : Nat) (i s : Int), 0 ≤ i → i ≤ xs.length → n = xs.length - i.toNat → Ev (fun k => proof_Missing.l2 k s xs (xs.length : Int) i) (sumW (xs.drop i.toNat) s, 0) := by
  intro n
  induction n with
  | zero =>
    intro i s h0 h1 hn
    refine Ev.step ?_ (fun k => by rw [proof_Missing.l2])
    refine Ev.neg (by omega) ((Ev.of _).eq ?_)
    rw [List.drop_of_length_le (by omega)]; rfl
  | succ n ih =>
    intro i s h0 h1 hn
    refine Ev.step ?_ (fun k => by rw [proof_Missing.l2])
    refine Ev.pos (by omega) (Ev.pos h0 (Ev.pos (by omega) ?_))
    rw [wrap_id (i + 1) (by omega) (by omega)]
    refine (ih (i + 1) _ (by omega) (by omega) (by omega)).eq ?_
    rw [drop_one 0 xs h0 (by omega)]
    rfl
theorem mis_l1 (us : List S57) (hus : us.length ≤ 60) : ∀ (n : Nat) (i : Int) (r : List Int), 0 ≤ i → i ≤ us.length → n = us.length - i.toNat → r.length ≤ 64 → Ev (fun k => proof_Missing.l1 k 0 r us (us.length : Int) i) (misR (misGo (us.drop i.toNat) r)) := by
  intro n
  induction n with
  | zero =>
    intro i r h0 h1 hn hr
    refine Ev.step ?_ (fun k => by rw [proof_Missing.l1])
    refine Ev.neg (by omega) ?_
    refine (mis_l2 r hr r.length 0 0 (by omega) (by omega) (by simp)).eq ?_
    rw [show us.drop i.toNat = [] from List.drop_of_length_le (by omega)]; rfl
  | succ n ih =>
    intro i r h0 h1 hn hr
    refine Ev.step ?_ (fun k => by rw [proof_Missing.l1])
    refine Ev.pos (by omega) (Ev.pos h0 (Ev.pos (by omega) ?_))
    have hd := drop_one z57 us h0 (by omega)
    have hd : us.drop i.toNat = rd_T57 us i :: us.drop (i + 1).toNat := hd
    rw [hd]
    generalize rd_T57 us i = u at *
    have hbad : ∀ b : Bool, (b = true ↔ (u.f1 < 0 ∨ (r.length : Int) ≤ u.f1 ∨ u.f2 < 1 ∨ rd r u.f1 < u.f2)) → Ev (fun k => proof_Missing.j2 k 0 r us (us.length : Int) i b u.f0 u.f1 u.f2) (misR (misGo (u :: us.drop (i + 1).toNat) r)) := by
      intro b hb
      refine Ev.step ?_ (fun k => by rw [proof_Missing.j2])
      by_cases hb1 : b = true
      · refine Ev.pos hb1 ((Ev.of _).eq ?_)
        rw [misGo, if_pos (hb.1 hb1)]; rfl
      · have hn1 : ¬ (u.f1 < 0 ∨ (r.length : Int) ≤ u.f1 ∨ u.f2 < 1 ∨ rd r u.f1 < u.f2) := fun h => hb1 (hb.2 h)
        refine Ev.neg hb1 (Ev.pos (by omega) (Ev.pos (by omega) ?_))
        rw [wrap_id (i + 1) (by omega) (by omega), misGo, if_neg hn1]
        exact ih (i + 1) _ (by omega) (by omega) (by omega) (by simpa using hr)
    by_cases c1 : u.f1 < 0
    · exact Ev.pos c1 (hbad true (by simp [c1]))
    · refine Ev.neg c1 ?_
      by_cases c2 : u.f1 ≥ (r.length : Int)
      · exact Ev.pos c2 (hbad true (by simp; omega))
      · refine Ev.neg c2 ?_
        by_cases c3 : u.f2 < 1
        · exact Ev.pos c3 (hbad true (by simp [c3]))
        · refine Ev.neg c3 (Ev.pos (by omega) (Ev.pos (by omega) (hbad _ ?_)))
          rw [decide_eq_true_eq]
          omega
theorem mis_l0 (us : List S57) (q : List S92) (hq : q.length ≤ 64) {z : Int × Int} (hE : Ev (fun k => proof_Missing.l1 k 0 (q.map S92.f1) us (us.length : Int) 0) z) : ∀ (n : Nat) (i : Int) (r : List Int), 0 ≤ i → i ≤ q.length → n = q.length - i.toNat → r.length = q.length → r.take i.toNat = (q.map S92.f1).take i.toNat → Ev (fun k => proof_Missing.l0 k us 0 r q (q.length : Int) i) z := by
  intro n
  induction n with
  | zero =>
    intro i r h0 h1 hn hr ht
    refine Ev.step ?_ (fun k => by rw [proof_Missing.l0])
    refine Ev.neg (by omega) ?_
    rw [List.take_of_length_le (by omega), List.take_of_length_le (by simp; omega)] at ht
    rw [ht]; exact hE
  | succ n ih =>
    intro i r h0 h1 hn hr ht
    refine Ev.step ?_ (fun k => by rw [proof_Missing.l0])
    refine Ev.pos (by omega) (Ev.pos h0 (Ev.pos (by omega) (Ev.pos (by omega) ?_)))
    rw [wrap_id (i + 1) (by omega) (by omega)]
    refine ih (i + 1) _ (by omega) (by omega) (by omega) (by simpa using hr) ?_
    rw [show (i + 1).toNat = i.toNat + 1 by omega, List.take_add_one, List.take_add_one, List.take_set_of_le (Nat.le_refl _), ht, List.getElem?_set_self (by omega)]
    congr 1
    rw [List.getElem?_map, List.getElem?_eq_getElem (show i.toNat < q.length by omega)]
    unfold rd_T92
    simp [List.getD_eq_getElem?_getD, List.getElem?_eq_getElem (show i.toNat < q.length by omega)]
theorem ev_miss (s : ByteArray) (n u e mn md : Int) (q : List S92) (us : List S57) (hus : us.length ≤ 60) : Ev (fun k => proof_Missing.f k s n u e mn md q us) (missV n u e mn md q us) := by
  unfold proof_Missing.f degree_Check.f
  refine Ev.bind (Ev.of _) ?_
  unfold missV
  by_cases h : degV n u e mn md q = 0
  · have hq : q.length ≤ 64 := by
      unfold degV at h
      split at h
      · rename_i h2
        simp only [Bool.and_eq_true, decide_eq_true_eq] at h2
        omega
      · cases h
    rw [if_pos h]
    refine Ev.pos h (Ev.pos (by omega) (Ev.pos (by omega) ?_))
    refine mis_l0 us q hq ?_ q.length 0 _ (by omega) (by omega) (by simp) (by simp) rfl
    exact mis_l1 us hus us.length 0 _ (by omega) (by omega) (by simp) (by simpa using hq)
  · rw [if_neg h]
    exact Ev.neg h (Ev.of _)
theorem rd_set (r : List Int) (i j v : Int) (h0 : 0 ≤ i) (h1 : i < r.length) (hj : 0 ≤ j) : rd (r.set i.toNat v) j = if j = i then v else rd r j := by
  unfold rd
  rw [List.getD_eq_getElem?_getD, List.getD_eq_getElem?_getD]
  by_cases e : j = i
  · subst e; rw [if_pos rfl, List.getElem?_set_self (by omega)]; rfl
  · rw [if_neg e, List.getElem?_set_ne (by omega)]
/-- an allowed assignment leaves open what it does not take -/
theorem mis_al {pu : Int} {q : List S92} {l : List S44} (G : Gd pu q l) : ∀ (us : List S57) (pr : Option S57) (m1 m2 : Int → Int) (rest : List Int), alGo q l pu pr m1 m2 us = true → (∀ a, 0 ≤ m1 a ∧ m1 a ≤ 240) → (∀ r, 0 ≤ m2 r ∧ m2 r ≤ 10000) → rest.length = q.length → (∀ r : Int, 0 ≤ r → r < q.length → rd rest r = (rd_T92 q r).f1 - m2 r) →
    ∃ rest', misGo us rest = some rest' ∧ rest'.length = q.length ∧ ∀ r : Int, 0 ≤ r → r < q.length → rd rest' r = (rd_T92 q r).f1 - m2 r - sb (atR r) us
  | [], _, _, _, rest, _, _, _, hl, hr => ⟨rest, rfl, hl, fun r h0 h1 => by simp only [sb]; have := hr r h0 h1; omega⟩
  | u :: us, pr, m1, m2, rest, h, h1, h2, hl, hr => by
    obtain ⟨hu, _, _, hx, hg, k1, k2⟩ := al_cons G h h1 h2
    obtain ⟨_, _, b0, b1, c0, _, _⟩ := hu
    have hru := hr u.f1 b0 b1
    have hq := G.q1 _ (rd_memQ b0 b1)
    have hm := h2 u.f1
    have hn : ¬ (u.f1 < 0 ∨ (rest.length : Int) ≤ u.f1 ∨ u.f2 < 1 ∨ rd rest u.f1 < u.f2) := by omega
    rw [misGo, if_neg hn, wrap_id (rd rest u.f1 - u.f2) (by omega) (by omega)]
    obtain ⟨rest', e1, e2, e3⟩ := mis_al G us _ _ _ (rest.set u.f1.toNat (rd rest u.f1 - u.f2)) hg k1 k2 (by simpa using hl) (fun r h0 h9 => by
      rw [rd_set _ _ _ _ b0 (by omega) h0]
      unfold updM
      by_cases e : r = u.f1
      · subst e; rw [if_pos rfl, if_pos rfl]; omega
      · rw [if_neg e, if_neg e]; exact hr r h0 h9)
    refine ⟨rest', e1, e2, fun r h0 h9 => ?_⟩
    rw [e3 r h0 h9]
    unfold updM
    by_cases e : r = u.f1
    · subst e; rw [if_pos rfl, sb_yes (by simp [atR])]; omega
    · rw [if_neg e, sb_no (by simp [atR]; omega)]
/-- .. and so Missing says -/
theorem miss_al {n u e mn md : Int} {q : List S92} {l : List S44} {us : List S57} (hg : degV n u e mn md q = 0) (G : Gd u q l) (h : alGo q l u none (fun _ => 0) (fun _ => 0) us = true) : missV n u e mn md q us = (totS q - allS us, 0) ∧ 0 ≤ totS q - allS us := by
  have A := al_all G h
  obtain ⟨r, h1, h2, h3⟩ := mis_al G us none _ _ (q.map S92.f1) h (fun a => by simp) (fun a => by simp) (by simp) (fun r h0 h9 => by
    have := rd_f1 q (k := r.toNat) (by omega)
    rw [show ((r.toNat : Nat) : Int) = r by omega] at this
    simp [this])
  have hel : ∀ k : Nat, k < q.length → rd r k = (rd_T92 q k).f1 - sb (atR k) us := fun k hk => by have := h3 k (by omega) (by omega); simpa using this
  have hall : sg (fun k => sb (atR k) us) q.length = allS us := sg_split (c := S57.f1) (fun k u => by simp [atR]) fun u hu => ⟨(A.use u hu).2.2.1, (A.use u hu).2.2.2.1⟩
  have hb : ∀ k : Nat, k < q.length → 0 ≤ rd r k ∧ rd r k ≤ 10000 := fun k hk => by
    have := A.col k (by omega) (by omega)
    have := G.q1 _ (rd_memQ (q := q) (a := k) (by omega) (by omega))
    have := sb_nonneg (p := atR k) (us := us) fun u hu => (A.use u hu).2.2.2.2.1
    rw [hel k hk]; omega
  have hsum : sg (fun k => rd r k) q.length = totS q - allS us := by
    rw [sg_congr hel, sg_sub, hall]; rfl
  have hlen := G.len
  have hS : sumW r 0 = totS q - allS us := by
    rw [sumW_eq _ _ (fun x hx => ?_) (Int.le_refl _) (by omega), list_sum, h2, hsum]; omega
    obtain ⟨i, hi, rfl⟩ := List.mem_iff_getElem.1 hx
    have := hb i (by omega)
    unfold rd at this
    rw [List.getD_eq_getElem?_getD, Int.toNat_natCast, List.getElem?_eq_getElem hi] at this
    exact this
  refine ⟨?_, ?_⟩
  · unfold missV
    rw [if_pos hg, h1]; show (sumW r 0, (0 : Int)) = _; rw [hS]
  · have := sg_bound hb; omega
theorem al_zero {n u e mn md : Int} {q : List S92} {l : List S44} {us : List S57} (h : alV n u e mn md q l us = 0) : askV n u e mn md q l = 0 ∧ alGo q l u none (fun _ => 0) (fun _ => 0) us = true := by
  unfold alV at h
  split at h
  · rename_i h1
    split at h
    · rename_i h2; exact ⟨h1, h2⟩
    · cases h
  · rename_i h1; exact absurd h h1
/-- THE MAIN THEOREM: an assignment leaves at least as much open as every cut says. -/
theorem main {n u e mn md : Int} {q : List S92} {l : List S44} {us : List S57} (h : alV n u e mn md q l us = 0) (hl : l.length ≤ 12000000) (c : List Bool) : (missV n u e mn md q us).2 = 0 ∧ 0 ≤ (missV n u e mn md q us).1 ∧ ((boundV n u e mn md q l c).2 = 0 → 0 ≤ (boundV n u e mn md q l c).1 ∧ (boundV n u e mn md q l c).1 ≤ (missV n u e mn md q us).1) := by
  obtain ⟨h1, h2⟩ := al_zero h
  obtain ⟨h3, h4, G⟩ := gd_of h1
  obtain ⟨e1, e2⟩ := miss_al h3 G h2
  rw [e1]
  refine ⟨rfl, e2, fun hb => ?_⟩
  unfold boundV at hb ⊢
  rw [if_pos h1] at hb ⊢
  split at hb
  · rename_i hc
    rw [if_pos hc]
    have := dual G (al_all G h2) ((c.drop 1).take l.length) (c.drop (1 + l.length))
    have := bound_eq G hl ((c.drop 1).take l.length) (c.drop (1 + l.length))
    dsimp only
    unfold mx
    split <;> omega
  · cases hb
theorem ev_few (s : ByteArray) (n u e mn md : Int) (q : List S92) (l : List S44) : ∃ b, Ev (fun k => sizarref20_Few.f k s n u e mn md q l) b ∧ (b = true → q.length ≤ 10 ∧ l.length ≤ 12) := by
  have hloop : q.length ≤ 10 → ∀ (m : Nat) (i : Int), 0 ≤ i → i ≤ q.length → m = q.length - i.toNat → ∃ b, Ev (fun k => sizarref20_Few.l0 k i s n u e mn md q) b := by
    intro hq m
    induction m with
    | zero =>
      intro i h0 h1 hm
      refine ⟨true, Ev.step ?_ (fun k => by rw [sizarref20_Few.l0])⟩
      exact Ev.neg (by omega) (Ev.of _)
    | succ m ih =>
      intro i h0 h1 hm
      obtain ⟨b, hb⟩ := ih (i + 1) (by omega) (by omega) (by omega)
      by_cases c : (((rd_T92 q i).f5).length : Int) > 20
      · refine ⟨false, Ev.step ?_ (fun k => by rw [sizarref20_Few.l0])⟩
        exact Ev.pos (by omega) (Ev.pos h0 (Ev.pos c (Ev.of _)))
      · refine ⟨b, Ev.step ?_ (fun k => by rw [sizarref20_Few.l0])⟩
        refine Ev.pos (by omega) (Ev.pos h0 (Ev.neg c ?_))
        rw [wrap_id (i + 1) (by omega) (by omega)]
        exact hb
  unfold sizarref20_Few.f
  by_cases hq : (q.length : Int) > 10
  · refine ⟨false, Ev.pos hq (Ev.step ?_ (fun k => by rw [sizarref20_Few.j0])), fun h => by cases h⟩
    exact Ev.pos rfl (Ev.of _)
  · by_cases hl : (l.length : Int) > 12
    · refine ⟨false, Ev.neg hq (Ev.step ?_ (fun k => by rw [sizarref20_Few.j0])), fun h => by cases h⟩
      exact Ev.pos (decide_eq_true hl) (Ev.of _)
    · obtain ⟨b, hb⟩ := hloop (by omega) q.length 0 (by omega) (by omega) (by simp)
      refine ⟨b, Ev.neg hq (Ev.step ?_ (fun k => by rw [sizarref20_Few.j0])), fun _ => ⟨by omega, by omega⟩⟩
      exact Ev.neg (by simpa using hl) hb
end Go.Proofs.Ytadeidhefjifaaa.Px.L20
end
section
set_option linter.unusedVariables false
set_option linter.unusedSimpArgs false
set_option linter.constructorNameAsVariable false
set_option maxRecDepth 100000
namespace Go.Proofs.Ytadeidhefjifaaa.Px
open Go.RowKit Go.Deep Go.ChangeShapes Go.WideShapes Go.Proofs.YtadeidhefjifaaaW.PrintWords Go.Proofs.YtadeidhefjifaaaW.PrintLast Go.Proofs.YtadeidhefjifaaaW.PrintMore
/-- What reads as the type t is of the kind d. -/
def Opens {H : Type} (enc : TypeId × Value → H) (base : Nat) (spare : Nat → Bool) (held : Bool) (t : TypeId) {α : Type} (d : Kd α) : Prop :=
  Try.prog.cellsOf t = d.sz ∧ ∀ (w : World) (fuel : Nat) (cs : List Value) (x : DataW H × List MemPlace), DataW.trod enc Try.prog w base spare held fuel t cs = some x → ∃ v : α, d.K w v cs
section
variable {H : Type} {enc : TypeId × Value → H} {base : Nat} {spare : Nat → Bool} {held : Bool}
theorem opens_int : Opens enc base spare held 3 (Kd.int .i64) := ⟨by kernel_rfl, fun w fuel cs x h => by
  obtain ⟨n, hn, _⟩ := DataW.trod_int Try.underlying3 h
  exact ⟨n, hn⟩⟩
theorem opens_bool : Opens enc base spare held 4 Kd.bool := ⟨by kernel_rfl, fun w fuel cs x h => by
  obtain ⟨n, hn, _⟩ := DataW.trod_bool Try.underlying4 h
  exact ⟨n, hn⟩⟩
theorem opens_string : Opens enc base spare held 9 Kd.string := ⟨by kernel_rfl, fun w fuel cs x h => by
  obtain ⟨n, hn, _⟩ := DataW.trod_string (by kernel_rfl) h
  exact ⟨n, hn⟩⟩
theorem opens_row {α : Type} {d : Kd α} {t e : TypeId} {fuel : Nat} {w : World} {a : Option Addr} {len cap : Nat} {x : DataW H × List MemPlace} (ht : Try.prog.underlying t = some (.slice e)) (hd : Opens enc base spare held e d) (h : DataW.trod enc Try.prog w base spare held fuel t [.slice a len cap] = some x) : len ≤ cap ∧ ∃ l : List α, l.length = len ∧ Kd.C d w a len l := by
  rcases open_slice ht h with ⟨hc, _⟩ | ⟨ad, l, c, m, n, D, Pl, hc, hb, hl, hm, hmm, hx, hi⟩
  · cases hc
    exact ⟨Nat.le_refl _, [], rfl, rfl, by omega, fun h => by omega⟩
  · cases hc
    have hlm : len ≤ m := by rw [hmm]; split <;> omega
    have hcell : ∀ i : Fin len, ∃ v : α, ∃ cs', w.cells? base (ad.add (i.1 * d.sz)) d.sz = some cs' ∧ d.K w v cs' := by
      intro i
      obtain ⟨cs', hcs, ht⟩ := hi i.1 (by have := i.2; omega)
      rw [hd.1] at hcs
      obtain ⟨v, hv⟩ := hd.2 w n cs' _ ht
      exact ⟨v, cs', hcs, hv⟩
    refine ⟨hl, List.ofFn fun i => Classical.choose (hcell i), by simp, by simp, Nat.le_trans (Nat.le_trans hl hm) (by decide), fun _ => ⟨ad, rfl, fun j p hj => ?_⟩⟩
    obtain ⟨hjl, hp⟩ := List.getElem?_eq_some_iff.1 hj
    have hjl : j < len := by simpa using hjl
    simp only [List.getElem_ofFn] at hp
    have hs := Classical.choose_spec (hcell ⟨j, hjl⟩)
    rw [hp] at hs
    obtain ⟨cs', hcs, hK⟩ := hs
    have hlen := d.K_len hK
    obtain ⟨_, hcl, hat⟩ := World.cells?_some hcs
    refine ⟨cs', hlen, hK, fun i u hu => ?_⟩
    obtain ⟨hil, hiu⟩ := List.getElem?_eq_some_iff.1 hu
    rw [← Go.Deep.add_add, hat i (by omega), hu]
theorem opens_slice {α : Type} {d : Kd α} {t e : TypeId} (h1 : Try.prog.cellsOf t = 1) (ht : Try.prog.underlying t = some (.slice e)) (hd : Opens enc base spare held e d) : Opens enc base spare held t (Kd.slice e d) := ⟨h1, fun w fuel cs x h => by
  have hcs : ∃ a len cap, cs = [.slice a len cap] := by
    rcases open_slice ht h with ⟨hc, _⟩ | ⟨ad, l, c, m, n, D, Pl, hc, _⟩
    · exact ⟨_, _, _, hc⟩
    · exact ⟨_, _, _, hc⟩
  obtain ⟨a, len, cap, rfl⟩ := hcs
  obtain ⟨hl, l, hll, hC⟩ := opens_row ht hd h
  subst hll
  exact ⟨l, a, cap, rfl, hl, hC⟩⟩
/-- One field of a struct. -/
theorem opens_field {α : Type} {d : Kd α} {w : World} {n : Nat} {t o : Nat} {cs : List Value} {y : Option (DataW H × List MemPlace)} (hd : Opens enc base spare held t d) (hy : ∃ z, y = some z) (h : DataW.trod enc Try.prog w base spare held n t ((cs.drop o).take (Try.prog.cellsOf t)) = y) : ∃ v : α, d.K w v ((cs.drop o).take d.sz) := by
  obtain ⟨z, rfl⟩ := hy
  rw [hd.1] at h
  exact hd.2 w n _ _ h
theorem opens_att : Opens enc base spare held 44 k44 := ⟨by kernel_rfl, fun w fuel cs x h => by
  obtain ⟨ys, n', hn', hy, hlen, hyl, hf⟩ := DataW.trod_struct Try.underlying44 h
  have hyl' : ys.length = 5 := hyl
  have hlen : cs.length = 5 := hlen.trans (by kernel_rfl)
  have hys : ∀ j, j < 5 → ∃ y, ys[j]? = some y := fun j hj => ⟨_, List.getElem?_eq_getElem (by omega)⟩
  obtain ⟨n0, e0⟩ := opens_field opens_int (hys 0 (by omega)) (hf 0 _ rfl)
  obtain ⟨n1, e1⟩ := opens_field opens_int (hys 1 (by omega)) (hf 1 _ rfl)
  obtain ⟨n2, e2⟩ := opens_field opens_int (hys 2 (by omega)) (hf 2 _ rfl)
  obtain ⟨n3, e3⟩ := opens_field opens_int (hys 3 (by omega)) (hf 3 _ rfl)
  obtain ⟨n4, e4⟩ := opens_field opens_int (hys 4 (by omega)) (hf 4 _ rfl)
  match cs, hlen with
  | [c0, c1, c2, c3, c4], _ =>
    replace e0 : [c0] = [Value.int .i64 n0] := e0
    replace e1 : [c1] = [Value.int .i64 n1] := e1
    replace e2 : [c2] = [Value.int .i64 n2] := e2
    replace e3 : [c3] = [Value.int .i64 n3] := e3
    replace e4 : [c4] = [Value.int .i64 n4] := e4
    injection e0 with e0; injection e1 with e1; injection e2 with e2; injection e3 with e3; injection e4 with e4
    subst e0 e1 e2 e3 e4
    exact ⟨⟨n0, n1, n2, n3, n4⟩, k44_mk w _⟩⟩
theorem opens_use : Opens enc base spare held 57 k57 := ⟨by kernel_rfl, fun w fuel cs x h => by
  obtain ⟨ys, n', hn', hy, hlen, hyl, hf⟩ := DataW.trod_struct Try.underlying57 h
  have hyl' : ys.length = 3 := hyl
  have hlen : cs.length = 3 := hlen.trans (by kernel_rfl)
  have hys : ∀ j, j < 3 → ∃ y, ys[j]? = some y := fun j hj => ⟨_, List.getElem?_eq_getElem (by omega)⟩
  obtain ⟨n0, e0⟩ := opens_field opens_int (hys 0 (by omega)) (hf 0 _ rfl)
  obtain ⟨n1, e1⟩ := opens_field opens_int (hys 1 (by omega)) (hf 1 _ rfl)
  obtain ⟨n2, e2⟩ := opens_field opens_int (hys 2 (by omega)) (hf 2 _ rfl)
  match cs, hlen with
  | [c0, c1, c2], _ =>
    replace e0 : [c0] = [Value.int .i64 n0] := e0
    replace e1 : [c1] = [Value.int .i64 n1] := e1
    replace e2 : [c2] = [Value.int .i64 n2] := e2
    injection e0 with e0; injection e1 with e1; injection e2 with e2
    subst e0 e1 e2
    exact ⟨⟨n0, n1, n2⟩, k57_mk w _⟩⟩
theorem opens_strings : Opens enc base spare held 90 (Kd.slice 9 Kd.string) := opens_slice (by kernel_rfl) (by kernel_rfl) opens_string
theorem opens_ints : Opens enc base spare held 23 (Kd.slice 3 (Kd.int .i64)) := opens_slice (by kernel_rfl) Try.underlying23 opens_int
theorem opens_req : Opens enc base spare held 92 k92 := ⟨by kernel_rfl, fun w fuel cs x h => by
  obtain ⟨ys, n', hn', hy, hlen, hyl, hf⟩ := DataW.trod_struct Try.underlying92 h
  have hyl' : ys.length = 6 := hyl
  have hlen : cs.length = 6 := hlen.trans (by kernel_rfl)
  have hys : ∀ j, j < 6 → ∃ y, ys[j]? = some y := fun j hj => ⟨_, List.getElem?_eq_getElem (by omega)⟩
  obtain ⟨n0, e0⟩ := opens_field opens_string (hys 0 (by omega)) (hf 0 _ rfl)
  obtain ⟨n1, e1⟩ := opens_field opens_int (hys 1 (by omega)) (hf 1 _ rfl)
  obtain ⟨n2, e2⟩ := opens_field opens_int (hys 2 (by omega)) (hf 2 _ rfl)
  obtain ⟨n3, e3⟩ := opens_field opens_bool (hys 3 (by omega)) (hf 3 _ rfl)
  obtain ⟨n4, e4⟩ := opens_field opens_strings (hys 4 (by omega)) (hf 4 _ rfl)
  obtain ⟨n5, e5⟩ := opens_field opens_ints (hys 5 (by omega)) (hf 5 _ rfl)
  match cs, hlen with
  | [c0, c1, c2, c3, c4, c5], _ =>
    replace e0 : [c0] = [Value.string n0] := e0
    replace e1 : [c1] = [Value.int .i64 n1] := e1
    replace e2 : [c2] = [Value.int .i64 n2] := e2
    replace e3 : [c3] = [Value.bool n3] := e3
    obtain ⟨A4, k4, e4, l4, g4⟩ := e4
    obtain ⟨A5, k5, e5, l5, g5⟩ := e5
    replace e4 : [c4] = [Value.slice A4 n4.length k4] := e4
    replace e5 : [c5] = [Value.slice A5 n5.length k5] := e5
    injection e0 with e0; injection e1 with e1; injection e2 with e2; injection e3 with e3; injection e4 with e4; injection e5 with e5
    subst e0 e1 e2 e3 e4 e5
    exact ⟨⟨n0, n1, n2, n3, n4, n5⟩, k92_mk w ⟨n0, n1, n2, n3, n4, n5⟩ l4 g4 l5 g5⟩⟩
theorem opens_cut : Opens enc base spare held 24 (Kd.slice 4 Kd.bool) := opens_slice (by kernel_rfl) Try.underlying24 opens_bool
theorem opens_uses : Opens enc base spare held 46 (Kd.slice 57 k57) := opens_slice (by kernel_rfl) Try.underlying46 opens_use
theorem opens_reqs : Opens enc base spare held 39 (Kd.slice 92 k92) := opens_slice (by kernel_rfl) (by kernel_rfl) opens_req
theorem opens_ratio : Opens enc base spare held 38 (Kd.pair (Kd.int .i64) (Kd.int .i64)) := ⟨by kernel_rfl, fun w fuel cs x h => by
  obtain ⟨ys, n', hn', hy, hlen, hyl, hf⟩ := DataW.trod_struct Try.underlying38 h
  have hyl' : ys.length = 2 := hyl
  have hlen : cs.length = 2 := hlen.trans (by kernel_rfl)
  have hys : ∀ j, j < 2 → ∃ y, ys[j]? = some y := fun j hj => ⟨_, List.getElem?_eq_getElem (by omega)⟩
  obtain ⟨n0, e0⟩ := opens_field opens_int (hys 0 (by omega)) (hf 0 _ rfl)
  obtain ⟨n1, e1⟩ := opens_field opens_int (hys 1 (by omega)) (hf 1 _ rfl)
  match cs, hlen with
  | [c0, c1], _ => exact ⟨(n0, n1), [c0], [c1], rfl, e0, e1⟩⟩
theorem open_struct {α : Type} {d : Kd α} {t : TypeId} {fs : Array Field} {w : World} {r : Reach} {b0 : Nat} {v : Value} {D : DataW H} {p : List MemPlace} (ht : Try.prog.underlying t = some (.struct fs)) (hd : Opens enc base spare held t d) (hv : Value.okWide Try.prog w r b0 t v) (h : DataW.Trod enc Try.prog w base spare held t v D p) :
    ∃ cs : List Value, v = .agg cs.toArray ∧ ∃ x : α, d.K w x cs := by
  obtain ⟨cs, rfl, hsz⟩ := okWide_struct ht hv
  obtain ⟨fuel, hf⟩ := h
  obtain ⟨x, hx⟩ := hd.2 w fuel _ _ hf
  exact ⟨cs.toList, by simp, x, hx⟩
theorem opens_prog : Opens enc base spare held 41 (Kd.pair Kd.string (Kd.pair (Kd.int .i64) (Kd.pair (Kd.int .i64) (Kd.pair (Kd.int .i64) (Kd.pair (Kd.pair (Kd.int .i64) (Kd.int .i64)) (Kd.slice 92 k92)))))) := ⟨by kernel_rfl, fun w fuel cs x h => by
  obtain ⟨ys, n', hn', hy, hlen, hyl, hf⟩ := DataW.trod_struct Try.underlying41 h
  have hyl' : ys.length = 6 := hyl
  have hlen : cs.length = 7 := hlen.trans (by kernel_rfl)
  have hys : ∀ j, j < 6 → ∃ y, ys[j]? = some y := fun j hj => ⟨_, List.getElem?_eq_getElem (by omega)⟩
  obtain ⟨n0, e0⟩ := opens_field opens_string (hys 0 (by omega)) (hf 0 _ rfl)
  obtain ⟨n1, e1⟩ := opens_field opens_int (hys 1 (by omega)) (hf 1 _ rfl)
  obtain ⟨n2, e2⟩ := opens_field opens_int (hys 2 (by omega)) (hf 2 _ rfl)
  obtain ⟨n3, e3⟩ := opens_field opens_int (hys 3 (by omega)) (hf 3 _ rfl)
  obtain ⟨n4, e4⟩ := opens_field opens_ratio (hys 4 (by omega)) (hf 4 _ rfl)
  obtain ⟨n5, e5⟩ := opens_field opens_reqs (hys 5 (by omega)) (hf 5 _ rfl)
  match cs, hlen with
  | [c0, c1, c2, c3, c4, c5, c6], _ =>
    exact ⟨(n0, n1, n2, n3, n4, n5), [c0], [c1, c2, c3, c4, c5, c6], rfl, e0, [c1], [c2, c3, c4, c5, c6], rfl, e1, [c2], [c3, c4, c5, c6], rfl, e2, [c3], [c4, c5, c6], rfl, e3, [c4, c5], [c6], rfl, e4, e5⟩⟩
theorem open_prog {w : World} {r : Reach} {b0 : Nat} {v : Value} {D : DataW H} {p : List MemPlace} (hv : Value.okWide Try.prog w r b0 41 v) (h : DataW.Trod enc Try.prog w base spare held 41 v D p) :
    ∃ (s : ByteArray) (n1 n2 n3 n4 n5 : Int) (A : Option Addr) (c : Nat) (l : List S92), v = .agg #[.string s, .int .i64 n1, .int .i64 n2, .int .i64 n3, .int .i64 n4, .int .i64 n5, .slice A l.length c] ∧ l.length ≤ c ∧ Kd.C k92 w A l.length l := by
  obtain ⟨cs, rfl, ⟨s, n1, n2, n3, ⟨n4, n5⟩, l⟩, hK⟩ := open_struct Try.underlying41 opens_prog hv h
  obtain ⟨_, _, rfl, rfl, _, _, rfl, rfl, _, _, rfl, rfl, _, _, rfl, rfl, _, _, rfl, ⟨_, _, rfl, rfl, rfl⟩, A, c, rfl, hl, hC⟩ := hK
  exact ⟨s, n1, n2, n3, n4, n5, A, c, l, rfl, hl, hC⟩
theorem opens_audit : Opens enc base spare held 48 (Kd.pair (Kd.slice 57 k57) (Kd.pair (Kd.int .i64) (Kd.slice 4 Kd.bool))) := ⟨by kernel_rfl, fun w fuel cs x h => by
  obtain ⟨ys, n', hn', hy, hlen, hyl, hf⟩ := DataW.trod_struct Try.underlying48 h
  have hyl' : ys.length = 3 := hyl
  have hlen : cs.length = 3 := hlen.trans (by kernel_rfl)
  have hys : ∀ j, j < 3 → ∃ y, ys[j]? = some y := fun j hj => ⟨_, List.getElem?_eq_getElem (by omega)⟩
  obtain ⟨n0, e0⟩ := opens_field opens_uses (hys 0 (by omega)) (hf 0 _ rfl)
  obtain ⟨n1, e1⟩ := opens_field opens_int (hys 1 (by omega)) (hf 1 _ rfl)
  obtain ⟨n2, e2⟩ := opens_field opens_cut (hys 2 (by omega)) (hf 2 _ rfl)
  match cs, hlen with
  | [c0, c1, c2], _ => exact ⟨(n0, n1, n2), [c0], [c1, c2], rfl, e0, [c1], [c2], rfl, e1, e2⟩⟩
theorem open_audit {w : World} {r : Reach} {b0 : Nat} {v : Value} {D : DataW H} {p : List MemPlace} (hv : Value.okWide Try.prog w r b0 48 v) (h : DataW.Trod enc Try.prog w base spare held 48 v D p) :
    ∃ (A : Option Addr) (c : Nat) (l : List S57) (m : Int) (B : Option Addr) (e : Nat) (k : List Bool), v = .agg #[.slice A l.length c, .int .i64 m, .slice B k.length e] ∧ l.length ≤ c ∧ Kd.C k57 w A l.length l ∧ k.length ≤ e ∧ Kd.C Kd.bool w B k.length k := by
  obtain ⟨cs, rfl, ⟨l, m, k⟩, hK⟩ := open_struct Try.underlying48 opens_audit hv h
  obtain ⟨_, _, rfl, ⟨A, c, rfl, hl, hC⟩, _, _, rfl, rfl, B, e, rfl, hk, hD⟩ := hK
  exact ⟨A, c, l, m, B, e, k, rfl, hl, hC, hk, hD⟩
end
end Go.Proofs.Ytadeidhefjifaaa.Px
end
