/- flow.Max. -/
import Derived.Test.YtadeidhefjifaaaHMaxO
import Derived.Test.YtadeidhefjifaaaHSearch
import Derived.Test.YtadeidhefjifaaaHMaxQ
set_option linter.unusedVariables false
set_option linter.unusedSimpArgs false
namespace Go.Proofs.Ytadeidhefjifaaa.Px
open Go.RowKit Go.Shelf Go.Proofs.YtadeidhefjifaaaW.PrintWords Go.Proofs.YtadeidhefjifaaaW.PrintLast Go.Proofs.YtadeidhefjifaaaW.PrintMore
theorem check_ok {k : Nat} {a0 : Int} {l : List S61} {a2 a3 : Int} (h : flow_check.f k a0 l a2 a3 = some 0) : Good a0 l a2 a3 := by
  have := flow_check.mono a0 l a2 a3 k 0 h
  rw [check_good] at this
  split at this
  · assumption
  · simp at this
theorem row_setCell {W : World} {R : Nat} {cs : Array Value} {t : TypeId} (h : W.heap[R]? = some (.cells cs t (0, 0))) (i : Nat) (v : Value) : (W.setCell ⟨R, i, none⟩ v).heap[R]? = some (.cells (cs.setIfInBounds i v) t (0, 0)) := by
  have hlt := lt_of_block h
  show (W.heap.modify R _)[R]? = _
  have h' : W.heap[R] = .cells cs t (0, 0) := by simpa [Array.getElem?_eq_getElem hlt] using h
  rw [Array.getElem?_eq_getElem (by simpa using hlt), Array.getElem_modify_self, h']
  rfl
theorem blk2_1 (w : World) (o1 o2 : Obj) : ((w.alloc o1).alloc o2).heap[w.heap.size + 1]? = some o2 := by
  have := heap_alloc_new (w.alloc o1) o2
  simpa using this
theorem blk2_0 (w : World) (o1 o2 : Obj) : ((w.alloc o1).alloc o2).heap[w.heap.size]? = some o1 := by
  rw [Below.heap_alloc _ _ _ (by simp)]; exact heap_alloc_new _ _
set_option maxRecDepth 100000 in
set_option maxHeartbeats 4000000 in
theorem flow_Max.calls (k : Nat) (a0 : Int) (A1 : Option Addr) (c1 : Nat) (l1 : List S61) (a2 : Int) (a3 : Int) (r1 : List Int) (r2 : List Bool) (r3 : Int) (w : World) (hr1 : Kd.C k61 w A1 l1.length l1) (hc1 : l1.length ≤ c1) (h : flow_Max.f k a0 l1 a2 a3 = some (r1, r2, r3)) :
    Calls Try.prog 27 #[.int .i64 a0, .slice A1 l1.length c1, .int .i64 a2, .int .i64 a3] w fun e w' => ∃ v0_ v1_ : Value, e = .returned (.tuple #[v0_, v1_, .int .i64 r3]) ∧ Kd.R (Kd.int .i64) 3 w' w.heap.size (fun _ => True) v0_ r1 ∧ Kd.R Kd.bool 4 w' w.heap.size (fun _ => True) v1_ r2 ∧ Below w.heap.size w w' := by
  obtain ⟨e0, he0, hh⟩ := Option.bind_eq_some_iff.1 h
  have HR := Aside0.mk hr1
  have HC := Aside0.mk hc1
  have HE := Aside0.mk he0
  have H := Aside0.mk hh
  clear hr1 hc1 he0 hh h
  go_enter Try.func27, Try.ntmps27
  go_wp2_with fail
  have hb1 : Below w.heap.size w ((w.alloc (Obj.cells #[Value.int IntKind.i64 a2] 3)).alloc (Obj.cells #[Value.int IntKind.i64 a3] 3)) := below_alloc (below_alloc (Below.refl _ _) _) _
  have k6 := blk2_0 w (Obj.cells #[Value.int IntKind.i64 a2] 3) (Obj.cells #[Value.int IntKind.i64 a3] 3)
  have k7 := blk2_1 w (Obj.cells #[Value.int IntKind.i64 a2] 3) (Obj.cells #[Value.int IntKind.i64 a3] 3)
  obtain ⟨W1, hW1⟩ : ∃ W1, (w.alloc (Obj.cells #[Value.int IntKind.i64 a2] 3)).alloc (Obj.cells #[Value.int IntKind.i64 a3] 3) = W1 := ⟨_, rfl⟩
  rw [hW1] at hb1 k6 k7 ⊢
  clear hW1
  refine (flow_check.calls k a0 A1 c1 l1 a2 a3 e0 W1 (Kd.C_below HR.out hb1) HC.out HE.out).mono ?_
  rintro e W2 ⟨rfl, hb2⟩
  have HB := Aside0.mk (below_step hb1 hb2)
  have j6 := (hb2.block _ (lt_of_block k6)).trans k6
  have j7 := (hb2.block _ (lt_of_block k7)).trans k7
  have J6 := Aside0.mk j6
  have J7 := Aside0.mk j7
  clear hb1 hb2 k6 k7 j6 j7
  by_cases h0 : e0 = 0
  · subst h0
    have hg := check_ok HE.out
    have h := H.out
    rw [if_pos rfl] at h
    simp only [Option.some.injEq, Prod.mk.injEq] at h
    obtain ⟨hr1, hr2, rfl⟩ := h
    have HG := Aside0.mk hg
    have HO := Aside0.mk (And.intro hr1 hr2)
    clear hr1 hr2 hg
    obtain ⟨n, rfl⟩ := Int.eq_ofNat_of_zero_le (show 0 ≤ a0 by have := HG.out.n2; omega)
    have hn4 : n ≤ 4096 := by have := HG.out.n4; omega
    have hn2 : 2 ≤ n := by have := HG.out.n2; omega
    have hE2 := Kd.C_below HR.out HB.out
    go_wp2_with fail
    refine (newNetwork_calls W2 n A1 c1 l1 hE2 HC.out HG.out.m hn4 (fun x hx => ⟨(HG.out.ends x hx).1, (HG.out.ends x hx).2.1⟩)).mono ?_
    rintro e W3 ⟨G, F, Ab, rfl, vals, hNN⟩
    have hN3 := NS_of_NN hNN hE2 HC.out HG.out.m
    have had : (adjOf l1 0 (List.replicate n [])).length = n := by rw [adjOf_length]; simp
    rw [had] at hN3
    obtain ⟨vF, hvF⟩ : ∃ v, Value.slice (some ⟨F, 0, none⟩) l1.length l1.length = v := ⟨_, rfl⟩
    obtain ⟨vA, hvA⟩ : ∃ v, Value.slice (some ⟨Ab, 0, none⟩) n n = v := ⟨_, rfl⟩
    rw [hvF, hvA] at hN3
    obtain ⟨U, hU⟩ : ∃ U, W3.heap.size = U := ⟨_, rfl⟩
    rw [hU] at hN3
    have HN3 := Aside0.mk hN3
    have HU := Aside0.mk hU
    have HAD := Aside0.mk had
    clear hN3 hNN hvF hvA had hE2
    go_wp2_with fail
    have hb4 : Below U W3 (W3.alloc (Obj.cells #[Value.pointer (some ⟨G, 0, none⟩)] 76)) := by rw [← hU]; exact below_alloc (Below.refl _ _) _
    have hN4 := HN3.out.below hb4
    have h12 : (W3.alloc (Obj.cells #[Value.pointer (some ⟨G, 0, none⟩)] 76)).heap[U]? = some (Obj.cells #[Value.pointer (some ⟨G, 0, none⟩)] 76) := by rw [← hU]; exact heap_alloc_new _ _
    obtain ⟨W4, hW4⟩ : ∃ W4, W3.alloc (Obj.cells #[Value.pointer (some ⟨G, 0, none⟩)] 76) = W4 := ⟨_, rfl⟩
    rw [hW4] at hN4 h12 ⊢
    have J6' : W4.heap[w.heap.size]? = some (.cells #[.int .i64 a2] 3 (0, 0)) := (hN4.hW.block _ (lt_of_block J6.out)).trans J6.out
    have HN4 := Aside0.mk hN4
    have H12 := Aside0.mk h12
    have HO' := Aside0.mk (fun r c (h : Run n l1 a2 a3 (List.replicate l1.length 0) r c) => (show r1 = r ∧ r2 = c by
      have := runOut_eq h
      have ho := HO.out
      rw [Int.toNat_natCast, this] at ho
      exact ⟨ho.1.symm, ho.2.symm⟩))
    have HW4 := Aside0.mk (show U ≤ W4.heap.size from Nat.le_of_lt (lt_of_block h12))
    have hsz2 := hN4.hW.size
    clear hN4 h12 hb4 hW4 J6' HN3 hU HU HO hsz2
    go_loopg [] (FlowM.cap S61.f0 S61.f1 S61.f2 (fun v => decide (v = a2)) l1).toNat (fun g W => ∃ fl : List Int, Aside0 (NS W2 U W G A1 c1 l1 vF fl vA (adjG n l1)) ∧ Aside0 (W.heap[U]? = some (Obj.cells #[Value.pointer (some ⟨G, 0, none⟩)] 76 (0, 0))) ∧ Aside0 (FlowG n l1 a2 a3 fl) ∧ Aside0 (∀ r c, Run n l1 a2 a3 fl r c → Run n l1 a2 a3 (List.replicate l1.length 0) r c) ∧ Aside0 (g = (FlowM.cap S61.f0 S61.f1 S61.f2 (fun v => decide (v = a2)) l1 - outsG l1 fl a2).toNat))
    case atStart => exact ⟨_, HN4, H12, ⟨flow_zero n l1 a2 a3 HG.out.ends⟩, ⟨fun r c h => h⟩, ⟨by rw [outs_zero]; simp⟩⟩
    case round =>
      obtain ⟨fl, HN, H12r, HF, HRUN, HGG⟩ := hrel
      have hN := HN.out
      have c6 : wr.cell? ⟨w.heap.size, 0, none⟩ = some (.int .i64 a2) := (blk_cell ((hN.hW.block _ (lt_of_block J6.out)).trans J6.out) 0).trans rfl
      have c7 : wr.cell? ⟨w.heap.size + 1, 0, none⟩ = some (.int .i64 a3) := (blk_cell ((hN.hW.block _ (lt_of_block J7.out)).trans J7.out) 0).trans rfl
      have c12 : wr.cell? ⟨U, 0, none⟩ = some (.pointer (some ⟨G, 0, none⟩)) := (blk_cell H12r.out 0).trans rfl
      clear hN
      have hUr : U ≤ wr.heap.size := Nat.le_of_lt (lt_of_block H12r.out)
      have hn0 : ∀ v : Int, 0 ≤ v → v < n → ∀ r ∈ (adjG n l1).getD v.toNat [], 0 ≤ r ∧ r < 2 * (l1.length : Int) := fun v v0 v1 r hr => ⟨((adj_iff n l1 HG.out.ends v r v0).1 hr).1, ((adj_iff n l1 HG.out.ends v r v0).1 hr).2.1⟩
      have HS := Aside0.mk (search_calls n a3 a2 HN.out hUr (flow_okf HG.out.ends HF.out) (by omega) hn4 HAD.out HG.out.f0 HG.out.f1 (fun r r0 r1 => endR_in n l1 HG.out.ends r r0 r1) hn0 (fun v _ _ => adj_lens n l1 v))
      clear hn0
      go_wp2_with fail
      refine HS.out.mono ?_
      rintro e W5 ⟨R, bys, rfl, hR5, hlen, hb5, hRl, hs⟩
      have hs : Srch n l1 fl a2 a3 bys := hs
      have d6 := below_cell hb5 c6
      have d7 := below_cell hb5 c7
      have d12 := below_cell hb5 c12
      have h12 := (hb5.block _ (lt_of_block H12r.out)).trans H12r.out
      have hN5 := HN.out.below (hb5.mono hUr)
      have dR : W5.cell? ⟨R, a3.toNat, none⟩ = some (.int .i64 (rd bys a3)) := by
        have : a3.toNat < bys.length := by have := HG.out.t0; have := HG.out.t1; omega
        rw [blk_cell hR5]; simp [this, rd, List.getD]
      have f6 := cell_lt d6 (Obj.cells #[Value.slice (some ⟨R, 0, none⟩) n n] 23)
      have f7 := cell_lt d7 (Obj.cells #[Value.slice (some ⟨R, 0, none⟩) n n] 23)
      have f12 := cell_lt d12 (Obj.cells #[Value.slice (some ⟨R, 0, none⟩) n n] 23)
      have fR := cell_lt dR (Obj.cells #[Value.slice (some ⟨R, 0, none⟩) n n] 23)
      have h13 : (W5.alloc (Obj.cells #[Value.slice (some ⟨R, 0, none⟩) n n] 23)).heap[W5.heap.size]? = some (Obj.cells #[Value.slice (some ⟨R, 0, none⟩) n n] 23 (0, 0)) := heap_alloc_new _ _
      have f13 : (W5.alloc (Obj.cells #[Value.slice (some ⟨R, 0, none⟩) n n] 23)).cell? ⟨W5.heap.size, 0, none⟩ = some (.slice (some ⟨R, 0, none⟩) n n) := (blk_cell h13 0).trans rfl
      have hba : Below W5.heap.size W5 (W5.alloc (Obj.cells #[Value.slice (some ⟨R, 0, none⟩) n n] 23)) := below_alloc (Below.refl _ _) _
      have hU5 : U ≤ W5.heap.size := Nat.le_trans hUr hb5.size
      have hN6 := hN5.below (hba.mono hU5)
      have hR6 := (hba.block _ (lt_of_block hR5)).trans hR5
      have h12' := (hba.block _ (lt_of_block h12)).trans h12
      have HN6 := Aside0.mk hN6
      have HR6 := Aside0.mk hR6
      have H126 := Aside0.mk h12'
      have H136 := Aside0.mk h13
      have HS5 := Aside0.mk hs
      have HLN := Aside0.mk hlen
      have HRL := Aside0.mk hRl
      have HU5 := Aside0.mk hU5
      have HRW := Aside0.mk (lt_of_block hR5)
      have q0 := HG.out.t0
      have q1 := HG.out.t1
      clear hs hR5 hlen hb5 hRl h12 hN5 h13 hba hU5 hN6 hR6 h12' d6 d7 d12 dR c6 c7 c12 hUr HS
      by_cases hlt : rd bys a3 < 0
      · have b0 : decide (rd bys a3 < 0) = true := decide_eq_true hlt
        have HLT := Aside0.mk hlt
        clear hlt
        obtain ⟨cC, hcC⟩ : ∃ x, madeCells #[.bool false] n = x := ⟨_, rfl⟩
        have hmC : ∀ W : World, (Instr.makeSlice 24 (.int .i64 (n : Int)) (.int .i64 (n : Int))).run Try.prog W = .ok (.slice (some ⟨W.heap.size, 0, none⟩) n n) (W.alloc (.cells cC 4)) := fun W => by
          rw [← hcC]; exact run_make_row' 24 4 (.bool false) 1 Try.underlying24 info4 rfl .i64 .i64 n (by omega) (by omega) W
        have HCC := Aside0.mk hcC
        clear hcC
        go_wp2_with fail
        go_loopg [42] n (fun g v W => ∃ i : Nat, v = .int .i64 i ∧ i ≤ n ∧ Aside0 (Below (W5.heap.size + 1) (W5.alloc (Obj.cells #[Value.slice (some ⟨R, 0, none⟩) n n] 23)) W) ∧ Aside0 (∃ cs : Array Value, W.heap[W5.heap.size + 1]? = some (.cells cs 4 (0, 0)) ∧ cs.size = n ∧ ∀ j, j < i → cs[j]? = some (.bool (decide (0 ≤ rd bys j)))) ∧ Aside0 (g = n - i))
        case atStart =>
          have hb7 : Below (W5.heap.size + 1) (W5.alloc (Obj.cells #[Value.slice (some ⟨R, 0, none⟩) n n] 23)) ((W5.alloc (Obj.cells #[Value.slice (some ⟨R, 0, none⟩) n n] 23)).alloc (.cells cC 4)) := by
            have h := below_alloc (Below.refl (W5.alloc (Obj.cells #[Value.slice (some ⟨R, 0, none⟩) n n] 23)).heap.size (W5.alloc (Obj.cells #[Value.slice (some ⟨R, 0, none⟩) n n] 23))) (Obj.cells cC 4)
            rw [World.size_alloc] at h; exact h
          refine ⟨0, rfl, by omega, ⟨hb7⟩, ⟨⟨cC, blk2_1 _ _ _, by rw [← HCC.out]; simp [size_madeCells], fun j hj => by omega⟩⟩, ⟨by omega⟩⟩
        case round =>
          obtain ⟨i, rfl, hi, HB7, HCS, HGI⟩ := hrel
          have hu81 := Try.underlying81
          have hbw := HB7.out
          have e13 : wr.heap[W5.heap.size]? = some (Obj.cells #[Value.slice (some ⟨R, 0, none⟩) n n] 23 (0, 0)) := (hbw.block _ (by omega)).trans H136.out
          have eR : wr.heap[R]? = _ := (hbw.block _ (by have := HRW.out; omega)).trans HR6.out
          have eN := HN6.out.below (hbw.mono (by have := HU5.out; omega))
          have eG := (blk_cell eN.hG 1).trans (show _ = some vF from rfl)
          have e12 := (blk_cell ((hbw.block _ (by have := HU5.out; omega)).trans H126.out) 0).trans (show _ = some (Value.pointer (some ⟨G, 0, none⟩)) from rfl)
          by_cases hin : i < n
          · have b1 : decide (i < n) = true := decide_eq_true hin
            obtain ⟨cs, hcs, hcn, hcj⟩ := HCS.out
            have eRi : wr.cell? ⟨R, i, none⟩ = some (.int .i64 (rd bys i)) := by
              have : i < bys.length := by rw [HLN.out]; exact hin
              rw [blk_cell eR]; simp [this, rd, List.getD]
            have eC : ∃ v, wr.cell? ⟨W5.heap.size + 1, i, none⟩ = some v := by
              rw [blk_cell hcs]; exact ⟨_, Array.getElem?_eq_getElem (by omega)⟩
            obtain ⟨vC, eC⟩ := eC
            have zC := blk_frozen hcs i
            have HCN := Aside0.mk (And.intro hcs (And.intro hcn hcj))
            clear hbw e13 eR eN hcs hcn hcj
            go_wp2_with fail
            go_roundg (n - (i + 1))
            case measure => have := HGI.out; omega
            case rel =>
              obtain ⟨h1, h2, h3⟩ := HCN.out
              refine ⟨i + 1, by simp, by omega, ⟨HB7.out.setCell (p := ⟨W5.heap.size + 1, i, none⟩) (Nat.le_refl _) _⟩, ⟨⟨_, row_setCell h1 i _, by simp [h2], fun j hj => ?_⟩⟩, ⟨rfl⟩⟩
              by_cases e : j = i
              · subst e; simp [h2, hin]
              · rw [Array.getElem?_setIfInBounds_ne (fun h => e h.symm)]; exact h3 j (by omega)
          · have b1 : decide (i < n) = false := decide_eq_false hin
            have HNE := Aside0.mk eN
            clear hbw e13 eR eN
            go_wp2_with fail
            refine bodyPost_ret (results_tmp3 rfl _ _ _) rfl ?_
            obtain ⟨e1, e2⟩ := HO'.out fl (cutB bys) (HRUN.out fl (cutB bys) (.done HS5.out HLT.out))
            obtain rfl : i = n := by omega
            obtain ⟨cs, hcs, hcn, hcj⟩ := HCS.out
            have hcl : (cutB bys).length = i := by simp [cutB, HLN.out]
            have hle : w.heap.size ≤ W2.heap.size := HB.out.size
            have hw := HNE.out.hW
            have hu5 := HU5.out
            have hu2 : W2.heap.size ≤ U := Nat.le_of_lt (Nat.lt_of_le_of_lt HNE.out.hB HNE.out.hU)
            refine ⟨_, _, rfl, by rw [e1]; exact Kd.R_mono (Kd.R_lower HNE.out.hF hle) (fun _ _ => True.intro), ?_, below_step HB.out hw⟩
            rw [e2]
            refine Kd.R_of_own ⟨by simp [encs], .inr ⟨W5.heap.size + 1, i, cs, by rw [hcl]; rfl, by omega, hcs, by omega, by unfold maxLen; omega, by omega, ?_⟩⟩ (fun _ _ => True.intro)
            apply List.ext_getElem?
            intro j
            rw [hcl, Nat.mul_one, List.take_of_length_le (by simp [hcn]), Array.getElem?_toList]
            by_cases hj : j < i
            · rw [hcj j hj]
              have hj2 : j < bys.length := by rw [HLN.out]; exact hj
              simp [encs, cutB, hj2, rd, List.getD]
            · rw [Array.getElem?_eq_none (by omega)]
              exact (List.getElem?_eq_none (by show (encs Value.bool (cutB bys)).length ≤ j; unfold encs; rw [List.length_map, hcl]; omega)).symm
      · have b0 : decide (rd bys a3 < 0) = false := decide_eq_false hlt
        have HLT := Aside0.mk hlt
        clear hlt
        obtain ⟨p, hp⟩ := (srch_facts HG.out.ends HG.out.f0 HG.out.f1 HS5.out).2.2.1 a3 HG.out.t0 HG.out.t1 (by have := HLT.out; omega)
        have HP := Aside0.mk hp
        clear hp
        go_wp2_with fail
        have hJ : JB W2 U ((W5.alloc (Obj.cells #[Value.slice (some ⟨R, 0, none⟩) n n] 23)).alloc (Obj.cells #[Value.int .i64 1073741824] 3)) G A1 c1 l1 vF fl vA (adjG n l1) W5.heap.size (W5.heap.size + 1) R n bys 1073741824 := by
          have hb7 : Below (W5.alloc (Obj.cells #[Value.slice (some ⟨R, 0, none⟩) n n] 23)).heap.size (W5.alloc (Obj.cells #[Value.slice (some ⟨R, 0, none⟩) n n] 23)) ((W5.alloc (Obj.cells #[Value.slice (some ⟨R, 0, none⟩) n n] 23)).alloc (Obj.cells #[Value.int .i64 1073741824] 3)) := below_alloc (Below.refl _ _) _
          have u5 := HU5.out
          have hr := HRW.out
          exact {
            net := HN6.out.below (hb7.mono (by simp; omega))
            h12 := (hb7.block _ (lt_of_block H126.out)).trans H126.out
            h13 := (hb7.block _ (lt_of_block H136.out)).trans H136.out
            hL := blk2_1 _ _ _
            hR := (hb7.block _ (lt_of_block HR6.out)).trans HR6.out
            hlen := HLN.out
            u13 := u5
            uL := by omega
            uR := Nat.le_trans (Nat.le_of_lt (lt_of_block H12r.out)) HRL.out
            ne := by omega }
        refine (walk_least HG.out.ends HF.out hn4 J7.out J6.out HP.out hJ).mono ?_
        rintro e W8 ⟨rfl, hJ8⟩
        have HJ8 := Aside0.mk hJ8
        clear hJ hJ8
        go_wp2_with fail
        refine (walk_push HG.out.ends HF.out hn4 J7.out J6.out HP.out HJ8.out).mono ?_
        rintro e W9 ⟨rfl, hJ9⟩
        have HJ9 := Aside0.mk hJ9
        clear hJ9
        go_wp2_with fail
        go_roundg (FlowM.cap S61.f0 S61.f1 S61.f2 (fun v => decide (v = a2)) l1 - outsG l1 (aug fl p (leastP l1 fl p)) a2).toNat
        case measure =>
          have hg := HGG.out
          obtain ⟨h1, h2⟩ := flow_aug HG.out.ne HF.out HP.out
          have h3 := FlowM.weak (C := fun v => decide (v = a2)) (by omega) HG.out.ends h1 HG.out.f0 HG.out.f1 (by simp) (by simp; exact fun e => HG.out.ne e.symm)
          have h4 : FlowM.outs S61.f0 S61.f1 l1 (aug fl p (leastP l1 fl p)) a2 = outsG l1 (aug fl p (leastP l1 fl p)) a2 := rfl
          omega
        case rel => exact ⟨_, ⟨HJ9.out.net⟩, ⟨HJ9.out.h12⟩, ⟨(flow_aug HG.out.ne HF.out HP.out).1⟩, ⟨fun r c h => HRUN.out r c (.step HS5.out (by have := HLT.out; omega) HP.out h)⟩, ⟨rfl⟩⟩
  · have h := H.out
    rw [if_neg h0] at h
    simp only [Option.some.injEq, Prod.mk.injEq] at h
    obtain ⟨rfl, rfl, rfl⟩ := h
    have b0 : (e0 != 0) = true := by simp [h0]
    clear h0
    go_wp2_with fail
    refine bodyPost_ret (results_tmp3 rfl _ _ _) rfl ?_
    exact ⟨_, _, rfl, Kd.R_nil _ _ _ _ _, Kd.R_nil _ _ _ _ _, HB.out⟩
end Go.Proofs.Ytadeidhefjifaaa.Px
