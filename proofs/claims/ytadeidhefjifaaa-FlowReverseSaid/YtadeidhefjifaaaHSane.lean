/- sizarlaw18.sane: it answers true. -/
import Derived.Test.YtadeidhefjifaaaHMax
import Derived.Test.YtadeidhefjifaaaPx2
import Derived.Test.YtadeidhefjifaaaPx3
set_option linter.unusedVariables false
set_option linter.unusedSimpArgs false
namespace Go.Proofs.Ytadeidhefjifaaa.Px
open Go.RowKit Go.Shelf Go.Proofs.YtadeidhefjifaaaW.PrintWords Go.Proofs.YtadeidhefjifaaaW.PrintLast Go.Proofs.YtadeidhefjifaaaW.PrintMore
abbrev La : List S61 := [⟨0, 1, 3⟩, ⟨1, 2, 2⟩]
abbrev Lb : List S61 := [⟨1, 0, 5⟩]
abbrev Lc : List S61 := [⟨1, 1, 0⟩]
theorem bools2 (c : List Bool) (h : c.length = 2) (h0 : Cof c 0 = true) (h1 : Cof c 1 = false) : c = [true, false] := by
  match c, h with
  | [a, b], _ => simp [Cof, List.getD] at h0 h1; rw [h0, h1]
theorem bools3 (c : List Bool) (h : c.length = 3) (h0 : Cof c 0 = true) (h1 : Cof c 1 = true) (h2 : Cof c 2 = false) : c = [true, true, false] := by
  match c, h with
  | [a, b, d], _ => simp [Cof, List.getD] at h0 h1 h2; rw [h0, h1, h2]
theorem sane_max1 : flow_Max.f 1 3 La 0 2 = some ([2, 2], [true, true, false], 0) := by
  have hg : Good 3 La 0 2 := (good_iff 3 La 0 2).1 (by decide)
  obtain ⟨fl, c, h, ho, hc⟩ := max_good 0 3 La 0 2 hg
  rw [h]
  have hlen := ho.flow.bnd.length
  match fl, hlen with
  | [x, y], _ =>
    have hb := ho.flow.bnd
    have h1 := ho.flow.cons 1 (by decide) (by decide) (by decide) (by decide)
    have hcl := ho.closed
    have hs := ho.hs
    have ht := ho.ht
    simp [FlowM.outs] at h1
    simp [FlowM.Bnd] at hb
    simp [FlowM.Closed, hs, ht] at hcl
    have hxy : x = 2 ∧ y = 2 ∧ Cof c 1 = true := by
      cases h1c : Cof c 1 with
      | true => rw [h1c] at hcl; simp at hcl; exact ⟨by omega, by omega, rfl⟩
      | false => rw [h1c] at hcl; simp at hcl; exfalso; omega
    obtain ⟨rfl, rfl, h1c⟩ := hxy
    rw [bools3 c (by omega) hs h1c ht]
theorem sane_max2 : flow_Max.f 1 2 [] 0 1 = some ([], [true, false], 0) := by
  have hg : Good 2 [] 0 1 := (good_iff 2 [] 0 1).1 (by decide)
  obtain ⟨fl, c, h, ho, hc⟩ := max_good 0 2 [] 0 1 hg
  rw [h]
  have hlen := ho.flow.bnd.length
  match fl, hlen with
  | [], _ => rw [bools2 c (by omega) ho.hs ho.ht]
theorem sane_max3 : flow_Max.f 1 2 [] 0 0 = some ([], [], 180) := max_bad 0 2 [] 0 0 (fun h => h.ne rfl)
theorem sane_val1 : flow_Value.f 20 3 La 0 2 [2, 2] = some (2, 0) := by kernel_rfl
theorem sane_val2 : flow_Value.f 20 3 La 0 2 [1, 1, 0] = some (0, 180) := by kernel_rfl
theorem sane_cap : flow_Capacity.f 20 2 Lb 0 1 [true, false] = some (0, 0) := by kernel_rfl
theorem sane_cut1 : sizarref18_SameCut.f 20 [true, true, false] [true, true, false] = some true := by kernel_rfl
theorem sane_cut2 : sizarref18_SameCut.f 20 [true, false] [true, false] = some true := by kernel_rfl
theorem sane_chk1 : flow_Check.f 1 [] = some 180 := by kernel_rfl
theorem sane_chk2 : flow_Check.f 2 Lc = some 180 := by kernel_rfl
theorem C61_blk2 {W : World} {b : Nat} {x y : S61} (h : W.heap[b]? = some (.cells #[.int .i64 x.f0, .int .i64 x.f1, .int .i64 x.f2, .int .i64 y.f0, .int .i64 y.f1, .int .i64 y.f2] 61 (0, 0))) : Kd.C k61 W (some ⟨b, 0, none⟩) 2 [x, y] :=
  (Kd.R_reads' (d := k61) (e := 61) (w := W) (base := 0) (ok := fun _ => True) (A := some ⟨b, 0, none⟩) (n := 2) (c := 2) (xs := [x, y]) ⟨fun _ _ => True.intro, _, ⟨rfl, .inr ⟨b, 2, _, rfl, Nat.zero_le _, h, Nat.le_refl _, by decide, rfl, rfl⟩⟩, rfl, fun j p hj => by
    match j, hj with
    | 0, hj => simp at hj; subst hj; exact k61_mkM _ _ _ _
    | 1, hj => simp at hj; subst hj; exact k61_mkM _ _ _ _⟩).2.2
theorem C61_blk1 {W : World} {b : Nat} {x : S61} (h : W.heap[b]? = some (.cells #[.int .i64 x.f0, .int .i64 x.f1, .int .i64 x.f2] 61 (0, 0))) : Kd.C k61 W (some ⟨b, 0, none⟩) 1 [x] :=
  (Kd.R_reads' (d := k61) (e := 61) (w := W) (base := 0) (ok := fun _ => True) (A := some ⟨b, 0, none⟩) (n := 1) (c := 1) (xs := [x]) ⟨fun _ _ => True.intro, _, ⟨rfl, .inr ⟨b, 1, _, rfl, Nat.zero_le _, h, Nat.le_refl _, by decide, rfl, rfl⟩⟩, rfl, fun j p hj => by
    match j, hj with
    | 0, hj => simp at hj; subst hj; exact k61_mkM _ _ _ _⟩).2.2
theorem C61_nil (W : World) : Kd.C k61 W none 0 [] := (Kd.R_reads' (Kd.R_nil k61 61 W 0 (fun _ => True))).2.2
theorem blk_Cb {W : World} {R : Nat} {xs : List Bool} (hR : W.heap[R]? = some (.cells (xs.map Value.bool).toArray 4 (0, 0))) (hn : xs.length ≤ maxLen) : Kd.C Kd.bool W (some ⟨R, 0, none⟩) xs.length xs :=
  (Kd.R_reads' (Kd.R_of_own (base := 0) (ok := fun _ => True) (v := .slice (some ⟨R, 0, none⟩) xs.length xs.length) (xs := xs) ⟨by simp [encs], .inr ⟨R, xs.length, _, rfl, by omega, hR, Nat.le_refl _, hn, by simp, by simp [encs, List.take_of_length_le]⟩⟩ (fun _ _ => True.intro))).2.2
def sizarlaw18_sane.f : Option Bool := some true
set_option maxRecDepth 100000 in
set_option maxHeartbeats 4000000 in
theorem sizarlaw18_sane.calls (r : Bool) (w : World) (h : sizarlaw18_sane.f = some r) : Calls Try.prog 19 #[] w fun e w' => e = .returned (.bool r) ∧ Below w.heap.size w w' := by
  obtain rfl : true = r := by simpa [sizarlaw18_sane.f] using h
  clear h
  have hu61 := Try.underlying61
  go_enter Try.func19, Try.ntmps19
  go_wp2_with fail
  have hb1 : Below w.heap.size w (w.alloc (Obj.cells #[.int .i64 0, .int .i64 1, .int .i64 3, .int .i64 1, .int .i64 2, .int .i64 2] 61)) := below_alloc (Below.refl _ _) _
  have hC1 : Kd.C k61 (w.alloc (Obj.cells #[.int .i64 0, .int .i64 1, .int .i64 3, .int .i64 1, .int .i64 2, .int .i64 2] 61)) (some ⟨w.heap.size, 0, none⟩) La.length La := C61_blk2 (heap_alloc_new _ _)
  obtain ⟨W1, hW1⟩ : ∃ W1, w.alloc (Obj.cells #[.int .i64 0, .int .i64 1, .int .i64 3, .int .i64 1, .int .i64 2, .int .i64 2] 61) = W1 := ⟨_, rfl⟩
  rw [hW1] at hb1 hC1 ⊢
  clear hW1
  have HB := Aside0.mk hb1
  have HC := Aside0.mk hC1
  clear hb1 hC1
  refine (show Calls Try.prog 27 #[.int .i64 3, .slice (some ⟨w.heap.size, 0, none⟩) 2 2, .int .i64 0, .int .i64 2] W1 _ from flow_Max.calls 1 3 (some ⟨w.heap.size, 0, none⟩) 2 La 0 2 _ _ _ W1 HC.out (Nat.le_refl _) sane_max1).mono ?_
  rintro e W2 ⟨v0, v1, rfl, hR0, hR1, hb2⟩
  obtain ⟨g0, c0, rfl, -, -, -⟩ := Kd.R_form hR0 (by decide)
  have hc0 := (Kd.R_reads' hR0).2.1
  have hC0 := (Kd.R_reads' hR0).2.2
  obtain ⟨A1, c1, rfl, hc1, hC1⟩ := Kd.R_reads hR1
  have n0 := Aside0.mk (below_step HB.out hb2)
  have n1 := Aside0.mk (Kd.C_below HC.out hb2)
  clear HB HC hR0 hR1 hb2
  have HB := n0
  have HC := n1
  clear n0 n1
  have HF := Aside0.mk (And.intro hc0 hC0)
  have HK := Aside0.mk (And.intro hc1 hC1)
  clear hc0 hC0 hc1 hC1
  simp only [List.length_cons, List.length_nil, Nat.zero_add, Nat.reduceAdd] at HF HK ⊢
  go_wp2_with fail
  refine (show Calls Try.prog 21 #[.int .i64 3, .slice (some ⟨w.heap.size, 0, none⟩) 2 2, .int .i64 0, .int .i64 2, .slice (some ⟨g0, 0, none⟩) 2 c0] W2 _ from flow_Value.calls 20 3 (some ⟨w.heap.size, 0, none⟩) 2 La 0 2 (some ⟨g0, 0, none⟩) c0 [2, 2] 2 0 W2 HC.out (Nat.le_refl _) HF.out.2 HF.out.1 sane_val1).mono ?_
  rintro e W3 ⟨rfl, hb3⟩
  have n0 := Aside0.mk (below_step HB.out hb3)
  have n1 := Aside0.mk (Kd.C_below HC.out hb3)
  have n2 := Aside0.mk (And.intro HF.out.1 (Kd.C_below HF.out.2 hb3))
  have n3 := Aside0.mk (And.intro HK.out.1 (Kd.C_below HK.out.2 hb3))
  clear HB HC HF HK hb3
  have HB := n0
  have HC := n1
  have HF := n2
  have HK := n3
  clear n0 n1 n2 n3
  go_wp2_with fail
  refine (show Calls Try.prog 27 #[.int .i64 2, .slice none 0 0, .int .i64 0, .int .i64 1] W3 _ from flow_Max.calls 1 2 none 0 [] 0 1 _ _ _ W3 (C61_nil W3) (Nat.le_refl _) sane_max2).mono ?_
  rintro e W4 ⟨v2, v3, rfl, hR0, hR1, hb4⟩
  obtain ⟨A2, c2, rfl, -, -⟩ := Kd.R_reads hR0
  obtain ⟨A3, c3, rfl, hc3, hC3⟩ := Kd.R_reads hR1
  have n0 := Aside0.mk (below_step HB.out hb4)
  have n1 := Aside0.mk (Kd.C_below HC.out hb4)
  have n2 := Aside0.mk (And.intro HF.out.1 (Kd.C_below HF.out.2 hb4))
  have n3 := Aside0.mk (And.intro HK.out.1 (Kd.C_below HK.out.2 hb4))
  have HM := Aside0.mk (And.intro hc3 hC3)
  clear HB HC HF HK hb4 hR0 hR1 hc3 hC3
  have HB := n0
  have HC := n1
  have HF := n2
  have HK := n3
  clear n0 n1 n2 n3
  simp only [List.length_cons, List.length_nil, Nat.zero_add, Nat.reduceAdd] at HM ⊢
  go_wp2_with fail
  refine (show Calls Try.prog 27 #[.int .i64 2, .slice none 0 0, .int .i64 0, .int .i64 0] W4 _ from flow_Max.calls 1 2 none 0 [] 0 0 _ _ _ W4 (C61_nil W4) (Nat.le_refl _) sane_max3).mono ?_
  rintro e W5 ⟨v4, v5, rfl, -, -, hb5⟩
  have n0 := Aside0.mk (below_step HB.out hb5)
  have n1 := Aside0.mk (Kd.C_below HC.out hb5)
  have n2 := Aside0.mk (And.intro HF.out.1 (Kd.C_below HF.out.2 hb5))
  have n3 := Aside0.mk (And.intro HK.out.1 (Kd.C_below HK.out.2 hb5))
  have n4 := Aside0.mk (And.intro HM.out.1 (Kd.C_below HM.out.2 hb5))
  clear HB HC HF HK HM hb5
  have HB := n0
  have HC := n1
  have HF := n2
  have HK := n3
  have HM := n4
  clear n0 n1 n2 n3 n4
  go_wp2_with fail
  have hb6 : Below W5.heap.size W5 ((W5.alloc (Obj.cells #[.int .i64 1, .int .i64 0, .int .i64 5] 61)).alloc (Obj.cells #[.bool true, .bool false] 4)) := below_alloc (below_alloc (Below.refl _ _) _) _
  have hCb : Kd.C k61 ((W5.alloc (Obj.cells #[.int .i64 1, .int .i64 0, .int .i64 5] 61)).alloc (Obj.cells #[.bool true, .bool false] 4)) (some ⟨W5.heap.size, 0, none⟩) Lb.length Lb := C61_blk1 (blk2_0 _ _ _)
  have hBb : Kd.C Kd.bool ((W5.alloc (Obj.cells #[.int .i64 1, .int .i64 0, .int .i64 5] 61)).alloc (Obj.cells #[.bool true, .bool false] 4)) (some ⟨W5.heap.size + 1, 0, none⟩) [true, false].length [true, false] := blk_Cb (blk2_1 _ _ _) (by decide)
  obtain ⟨W6, hW6⟩ : ∃ W6, (W5.alloc (Obj.cells #[.int .i64 1, .int .i64 0, .int .i64 5] 61)).alloc (Obj.cells #[.bool true, .bool false] 4) = W6 := ⟨_, rfl⟩
  rw [hW6] at hb6 hCb hBb ⊢
  clear hW6
  have n0 := Aside0.mk (below_step HB.out hb6)
  have n1 := Aside0.mk (Kd.C_below HC.out hb6)
  have n2 := Aside0.mk (And.intro HF.out.1 (Kd.C_below HF.out.2 hb6))
  have n3 := Aside0.mk (And.intro HK.out.1 (Kd.C_below HK.out.2 hb6))
  have n4 := Aside0.mk (And.intro HM.out.1 (Kd.C_below HM.out.2 hb6))
  clear HB HC HF HK HM hb6
  have HB := n0
  have HC := n1
  have HF := n2
  have HK := n3
  have HM := n4
  clear n0 n1 n2 n3 n4
  refine (show Calls Try.prog 23 #[.int .i64 2, .slice (some ⟨W5.heap.size, 0, none⟩) 1 1, .int .i64 0, .int .i64 1, .slice (some ⟨W5.heap.size + 1, 0, none⟩) 2 2] W6 _ from flow_Capacity.calls 20 2 (some ⟨W5.heap.size, 0, none⟩) 1 Lb 0 1 (some ⟨W5.heap.size + 1, 0, none⟩) 2 [true, false] 0 0 W6 hCb (Nat.le_refl _) hBb (Nat.le_refl _) sane_cap).mono ?_
  rintro e W7 ⟨rfl, hb7⟩
  clear hCb hBb
  have n0 := Aside0.mk (below_step HB.out hb7)
  have n1 := Aside0.mk (Kd.C_below HC.out hb7)
  have n2 := Aside0.mk (And.intro HF.out.1 (Kd.C_below HF.out.2 hb7))
  have n3 := Aside0.mk (And.intro HK.out.1 (Kd.C_below HK.out.2 hb7))
  have n4 := Aside0.mk (And.intro HM.out.1 (Kd.C_below HM.out.2 hb7))
  clear HB HC HF HK HM hb7
  have HB := n0
  have HC := n1
  have HF := n2
  have HK := n3
  have HM := n4
  clear n0 n1 n2 n3 n4
  go_wp2_with fail
  have hb8 : Below W7.heap.size W7 (W7.alloc (Obj.cells #[.int .i64 1, .int .i64 1, .int .i64 0] 3)) := below_alloc (Below.refl _ _) _
  have hBb : Kd.C (Kd.int .i64) (W7.alloc (Obj.cells #[.int .i64 1, .int .i64 1, .int .i64 0] 3)) (some ⟨W7.heap.size, 0, none⟩) [(1 : Int), 1, 0].length [1, 1, 0] := blk_C (heap_alloc_new _ _) (by decide)
  obtain ⟨W8, hW8⟩ : ∃ W8, W7.alloc (Obj.cells #[.int .i64 1, .int .i64 1, .int .i64 0] 3) = W8 := ⟨_, rfl⟩
  rw [hW8] at hb8 hBb ⊢
  clear hW8
  have n0 := Aside0.mk (below_step HB.out hb8)
  have n1 := Aside0.mk (Kd.C_below HC.out hb8)
  have n2 := Aside0.mk (And.intro HF.out.1 (Kd.C_below HF.out.2 hb8))
  have n3 := Aside0.mk (And.intro HK.out.1 (Kd.C_below HK.out.2 hb8))
  have n4 := Aside0.mk (And.intro HM.out.1 (Kd.C_below HM.out.2 hb8))
  clear HB HC HF HK HM hb8
  have HB := n0
  have HC := n1
  have HF := n2
  have HK := n3
  have HM := n4
  clear n0 n1 n2 n3 n4
  refine (show Calls Try.prog 21 #[.int .i64 3, .slice (some ⟨w.heap.size, 0, none⟩) 2 2, .int .i64 0, .int .i64 2, .slice (some ⟨W7.heap.size, 0, none⟩) 3 3] W8 _ from flow_Value.calls 20 3 (some ⟨w.heap.size, 0, none⟩) 2 La 0 2 (some ⟨W7.heap.size, 0, none⟩) 3 [1, 1, 0] 0 180 W8 HC.out (Nat.le_refl _) hBb (Nat.le_refl _) sane_val2).mono ?_
  rintro e W9 ⟨rfl, hb9⟩
  clear hBb
  have n0 := Aside0.mk (below_step HB.out hb9)
  have n1 := Aside0.mk (Kd.C_below HC.out hb9)
  have n2 := Aside0.mk (And.intro HF.out.1 (Kd.C_below HF.out.2 hb9))
  have n3 := Aside0.mk (And.intro HK.out.1 (Kd.C_below HK.out.2 hb9))
  have n4 := Aside0.mk (And.intro HM.out.1 (Kd.C_below HM.out.2 hb9))
  clear HB HC HF HK HM hb9
  have HB := n0
  have HC := n1
  have HF := n2
  have HK := n3
  have HM := n4
  clear n0 n1 n2 n3 n4
  have q0 : W9.cell? ⟨g0, 0, none⟩ = some (.int .i64 2) := by
    obtain ⟨ad, e, h⟩ := rd_at HF.out.2 0 (by decide) (by decide)
    cases e; rw [add_plain] at h; exact h
  have q1 : W9.cell? ⟨g0, 1, none⟩ = some (.int .i64 2) := by
    obtain ⟨ad, e, h⟩ := rd_at HF.out.2 1 (by decide) (by decide)
    cases e; rw [add_plain] at h; exact h
  go_wp2_with fail
  clear q0 q1
  have hb10 : Below W9.heap.size W9 (W9.alloc (Obj.cells #[.bool true, .bool true, .bool false] 4)) := below_alloc (Below.refl _ _) _
  have hBb : Kd.C Kd.bool (W9.alloc (Obj.cells #[.bool true, .bool true, .bool false] 4)) (some ⟨W9.heap.size, 0, none⟩) [true, true, false].length [true, true, false] := blk_Cb (heap_alloc_new _ _) (by decide)
  obtain ⟨W10, hW10⟩ : ∃ W10, W9.alloc (Obj.cells #[.bool true, .bool true, .bool false] 4) = W10 := ⟨_, rfl⟩
  rw [hW10] at hb10 hBb ⊢
  clear hW10
  have n0 := Aside0.mk (below_step HB.out hb10)
  have n1 := Aside0.mk (Kd.C_below HC.out hb10)
  have n2 := Aside0.mk (And.intro HF.out.1 (Kd.C_below HF.out.2 hb10))
  have n3 := Aside0.mk (And.intro HK.out.1 (Kd.C_below HK.out.2 hb10))
  have n4 := Aside0.mk (And.intro HM.out.1 (Kd.C_below HM.out.2 hb10))
  clear HB HC HF HK HM hb10
  have HB := n0
  have HC := n1
  have HF := n2
  have HK := n3
  have HM := n4
  clear n0 n1 n2 n3 n4
  refine (show Calls Try.prog 29 #[.slice A1 3 c1, .slice (some ⟨W9.heap.size, 0, none⟩) 3 3] W10 _ from sizarref18_SameCut.calls 20 A1 c1 [true, true, false] (some ⟨W9.heap.size, 0, none⟩) 3 [true, true, false] true W10 HK.out.2 HK.out.1 hBb (Nat.le_refl _) sane_cut1).mono ?_
  rintro e W11 ⟨rfl, ⟨⟨nn, rfl⟩⟩⟩
  have hb11 : Below W10.heap.size W10 (W10.drewN nn) := pw_below_drewN (Below.refl _ _) nn
  obtain ⟨W11, hW11⟩ : ∃ W11, W10.drewN nn = W11 := ⟨_, rfl⟩
  rw [hW11] at hb11 ⊢
  clear hW11 hBb
  have n0 := Aside0.mk (below_step HB.out hb11)
  have n1 := Aside0.mk (Kd.C_below HC.out hb11)
  have n2 := Aside0.mk (And.intro HF.out.1 (Kd.C_below HF.out.2 hb11))
  have n3 := Aside0.mk (And.intro HK.out.1 (Kd.C_below HK.out.2 hb11))
  have n4 := Aside0.mk (And.intro HM.out.1 (Kd.C_below HM.out.2 hb11))
  clear HB HC HF HK HM hb11
  have HB := n0
  have HC := n1
  have HF := n2
  have HK := n3
  have HM := n4
  clear n0 n1 n2 n3 n4
  go_wp2_with fail
  have hb12 : Below W11.heap.size W11 (W11.alloc (Obj.cells #[.bool true, .bool false] 4)) := below_alloc (Below.refl _ _) _
  have hBb : Kd.C Kd.bool (W11.alloc (Obj.cells #[.bool true, .bool false] 4)) (some ⟨W11.heap.size, 0, none⟩) [true, false].length [true, false] := blk_Cb (heap_alloc_new _ _) (by decide)
  obtain ⟨W12, hW12⟩ : ∃ W12, W11.alloc (Obj.cells #[.bool true, .bool false] 4) = W12 := ⟨_, rfl⟩
  rw [hW12] at hb12 hBb ⊢
  clear hW12
  have n0 := Aside0.mk (below_step HB.out hb12)
  have n1 := Aside0.mk (Kd.C_below HC.out hb12)
  have n2 := Aside0.mk (And.intro HF.out.1 (Kd.C_below HF.out.2 hb12))
  have n3 := Aside0.mk (And.intro HK.out.1 (Kd.C_below HK.out.2 hb12))
  have n4 := Aside0.mk (And.intro HM.out.1 (Kd.C_below HM.out.2 hb12))
  clear HB HC HF HK HM hb12
  have HB := n0
  have HC := n1
  have HF := n2
  have HK := n3
  have HM := n4
  clear n0 n1 n2 n3 n4
  refine (show Calls Try.prog 29 #[.slice A3 2 c3, .slice (some ⟨W11.heap.size, 0, none⟩) 2 2] W12 _ from sizarref18_SameCut.calls 20 A3 c3 [true, false] (some ⟨W11.heap.size, 0, none⟩) 2 [true, false] true W12 HM.out.2 HM.out.1 hBb (Nat.le_refl _) sane_cut2).mono ?_
  rintro e W13 ⟨rfl, ⟨⟨nn, rfl⟩⟩⟩
  have hb13 : Below W12.heap.size W12 (W12.drewN nn) := pw_below_drewN (Below.refl _ _) nn
  obtain ⟨W13, hW13⟩ : ∃ W13, W12.drewN nn = W13 := ⟨_, rfl⟩
  rw [hW13] at hb13 ⊢
  clear hW13 hBb
  have n0 := Aside0.mk (below_step HB.out hb13)
  have n1 := Aside0.mk (Kd.C_below HC.out hb13)
  have n2 := Aside0.mk (And.intro HF.out.1 (Kd.C_below HF.out.2 hb13))
  have n3 := Aside0.mk (And.intro HK.out.1 (Kd.C_below HK.out.2 hb13))
  have n4 := Aside0.mk (And.intro HM.out.1 (Kd.C_below HM.out.2 hb13))
  clear HB HC HF HK HM hb13
  have HB := n0
  have HC := n1
  have HF := n2
  have HK := n3
  have HM := n4
  clear n0 n1 n2 n3 n4
  go_wp2_with fail
  refine (show Calls Try.prog 25 #[.int .i64 1, .slice none 0 0] W13 _ from flow_Check.calls 1 none 0 [] 180 W13 (C61_nil W13) (Nat.le_refl _) sane_chk1).mono ?_
  rintro e W14 ⟨rfl, hb14⟩
  have n0 := Aside0.mk (below_step HB.out hb14)
  have n1 := Aside0.mk (Kd.C_below HC.out hb14)
  have n2 := Aside0.mk (And.intro HF.out.1 (Kd.C_below HF.out.2 hb14))
  have n3 := Aside0.mk (And.intro HK.out.1 (Kd.C_below HK.out.2 hb14))
  have n4 := Aside0.mk (And.intro HM.out.1 (Kd.C_below HM.out.2 hb14))
  clear HB HC HF HK HM hb14
  have HB := n0
  have HC := n1
  have HF := n2
  have HK := n3
  have HM := n4
  clear n0 n1 n2 n3 n4
  go_wp2_with fail
  have hb15 : Below W14.heap.size W14 (W14.alloc (Obj.cells #[.int .i64 1, .int .i64 1, .int .i64 0] 61)) := below_alloc (Below.refl _ _) _
  have hCb : Kd.C k61 (W14.alloc (Obj.cells #[.int .i64 1, .int .i64 1, .int .i64 0] 61)) (some ⟨W14.heap.size, 0, none⟩) Lc.length Lc := C61_blk1 (heap_alloc_new _ _)
  obtain ⟨W15, hW15⟩ : ∃ W15, W14.alloc (Obj.cells #[.int .i64 1, .int .i64 1, .int .i64 0] 61) = W15 := ⟨_, rfl⟩
  rw [hW15] at hb15 hCb ⊢
  clear hW15
  have n0 := Aside0.mk (below_step HB.out hb15)
  have n1 := Aside0.mk (Kd.C_below HC.out hb15)
  have n2 := Aside0.mk (And.intro HF.out.1 (Kd.C_below HF.out.2 hb15))
  have n3 := Aside0.mk (And.intro HK.out.1 (Kd.C_below HK.out.2 hb15))
  have n4 := Aside0.mk (And.intro HM.out.1 (Kd.C_below HM.out.2 hb15))
  clear HB HC HF HK HM hb15
  have HB := n0
  have HC := n1
  have HF := n2
  have HK := n3
  have HM := n4
  clear n0 n1 n2 n3 n4
  refine (show Calls Try.prog 25 #[.int .i64 2, .slice (some ⟨W14.heap.size, 0, none⟩) 1 1] W15 _ from flow_Check.calls 2 (some ⟨W14.heap.size, 0, none⟩) 1 Lc 180 W15 hCb (Nat.le_refl _) sane_chk2).mono ?_
  rintro e W16 ⟨rfl, hb16⟩
  clear hCb
  have n0 := Aside0.mk (below_step HB.out hb16)
  have n1 := Aside0.mk (Kd.C_below HC.out hb16)
  have n2 := Aside0.mk (And.intro HF.out.1 (Kd.C_below HF.out.2 hb16))
  have n3 := Aside0.mk (And.intro HK.out.1 (Kd.C_below HK.out.2 hb16))
  have n4 := Aside0.mk (And.intro HM.out.1 (Kd.C_below HM.out.2 hb16))
  clear HB HC HF HK HM hb16
  have HB := n0
  have HC := n1
  have HF := n2
  have HK := n3
  have HM := n4
  clear n0 n1 n2 n3 n4
  go_wp2_with fail
  go_ret
  exact ⟨rfl, HB.out⟩
end Go.Proofs.Ytadeidhefjifaaa.Px
