/- Contract of flow.newNetwork. -/
import Derived.Test.YtadeidhefjifaaaHNN
import Derived.Test.YtadeidhefjifaaaHRegion
import Derived.Deep.DrawnRows
set_option linter.unusedVariables false
set_option linter.unusedSimpArgs false
namespace Go.Proofs.Ytadeidhefjifaaa.Px
open Go.RowKit Go.Proofs.YtadeidhefjifaaaW.PrintWords Go.Proofs.YtadeidhefjifaaaW.PrintLast Go.Proofs.YtadeidhefjifaaaW.PrintMore
attribute [local go_sem ↓] Go.wp_at_zero Go.wp_at_succ
section
variable {w0 W W1 : World} {G F Ab : Nat} {A : Option Addr} {c : Nat} {l : List S61} {cF : Array Value} {n : Nat} {vals : List Value} {adj : List (List Int)}
theorem NN.cells (h : NN w0 W G F Ab A c l cF n vals adj) (u : Int) (h0 : 0 ≤ u) (h1 : u < n) : W.cell? ⟨G, 2, none⟩ = some (.slice (some ⟨Ab, 0, none⟩) n n) ∧ W.cell? ⟨Ab, u.toNat, none⟩ = some (vals.getD u.toNat undef) ∧ W.frozen? ⟨Ab, u.toNat, none⟩ = false := by
  have hlv : vals.length = n := by have := h.hO.1; omega
  refine ⟨(blk_cell h.hG 2).trans rfl, ?_, h.hO.frozenAt _⟩
  have hu : u.toNat < vals.length := by omega
  have := h.hO.cellAt u.toNat (by omega)
  rw [this]; simp [List.getD, hu]
/-- what an append to a list leaves as it was -/
theorem NN.after (h : NN w0 W G F Ab A c l cF n vals adj) (u : Int) (h0 : 0 ≤ u) (h1 : u < n) (hg : W.grownBy W1 (vals.getD u.toNat undef).ownBlock) :
    W1.cell? ⟨G, 2, none⟩ = some (.slice (some ⟨Ab, 0, none⟩) n n) ∧ W1.cell? ⟨Ab, u.toNat, none⟩ = some (vals.getD u.toNat undef) ∧ W1.frozen? ⟨Ab, u.toNat, none⟩ = false ∧
    ∀ (X : Nat) (cs : Array Value), W.heap[X]? = some (Obj.cells cs 61 (0, 0)) → W1.heap[X]? = some (Obj.cells cs 61 (0, 0)) := by
  have ho := h.hrow u.toNat (by omega)
  have hne : ∀ (g : Nat) (t : TypeId) (cs : Array Value), W.heap[g]? = some (Obj.cells cs t (0, 0)) → t ≠ 3 → some g ≠ (vals.getD u.toNat undef).ownBlock := fun g t cs hg' ht e => by
    obtain ⟨cells, hc⟩ := Kd.R_typed ho g e.symm
    rw [hc] at hg'
    simp at hg'; exact ht hg'.2.symm
  obtain ⟨c1, c2, c3⟩ := h.cells u h0 h1
  have hA : ∃ cells, W.heap[Ab]? = some (.cells cells 23 (0, 0)) := by
    rcases h.hO.2 with ⟨e, _⟩ | ⟨g, cap, cur, e, _, hh, _⟩
    · simp at e
    · simp at e; obtain ⟨rfl, -⟩ := e; exact ⟨cur, hh⟩
  obtain ⟨cA, hA⟩ := hA
  have e1 := hg.block G (lt_of_block h.hG) (hne _ 81 _ h.hG (by decide))
  have e2 := hg.block Ab (lt_of_block hA) (hne _ 23 _ hA (by decide))
  exact ⟨(World.cell?_of_block (a := ⟨G, 2, none⟩) e1).trans c1, (World.cell?_of_block (a := ⟨Ab, u.toNat, none⟩) e2).trans c2, (World.frozen?_of_block (a := ⟨Ab, u.toNat, none⟩) e2).trans c3,
    fun X cs hX => (hg.block X (lt_of_block hX) (hne _ 61 _ hX (by decide))).trans hX⟩
end
def NNs (w0 W : World) (G F Ab : Nat) (A : Option Addr) (c : Nat) (l : List S61) (cF : Array Value) (n : Nat) (adj : List (List Int)) : Prop := ∃ vals, NN w0 W G F Ab A c l cF n vals adj
section
variable {w0 W W1 : World} {G F Ab : Nat} {A : Option Addr} {c : Nat} {l : List S61} {cF : Array Value} {n : Nat} {vals : List Value} {adj : List (List Int)}
/-- what a cell holds -/
def valAt (w : World) (a : Addr) : Value := (w.cell? a).getD undef
theorem valAt_some {w : World} {a : Addr} {v : Value} (h : w.cell? a = some v) : w.cell? a = some (valAt w a) := by unfold valAt; rw [h]; rfl
theorem valAt_ex {w : World} {a : Addr} (h : ∃ v, w.cell? a = some v) : w.cell? a = some (valAt w a) := by obtain ⟨v, h⟩ := h; exact valAt_some h
theorem valAt_eq {w : World} {a : Addr} {v : Value} (h : w.cell? a = some v) : valAt w a = v := by unfold valAt; rw [h]; rfl
/-- the cells behind a store into the row of rows -/
theorem NN.stored (h : NN w0 W G F Ab A c l cF n vals adj) (u : Int) (h0 : 0 ≤ u) (h1 : u < n) (hg : W.grownBy W1 (vals.getD u.toNat undef).ownBlock) (v : Value) :
    (W1.setCell ⟨Ab, u.toNat, none⟩ v).cell? ⟨G, 2, none⟩ = some (.slice (some ⟨Ab, 0, none⟩) n n) ∧ (W1.setCell ⟨Ab, u.toNat, none⟩ v).cell? ⟨Ab, u.toNat, none⟩ = some v ∧
    ∀ (X : Nat) (cs : Array Value), W.heap[X]? = some (Obj.cells cs 61 (0, 0)) → (W1.setCell ⟨Ab, u.toNat, none⟩ v).heap[X]? = some (Obj.cells cs 61 (0, 0)) := by
  obtain ⟨e1, e2, e3, e4⟩ := h.after u h0 h1 hg
  have hA : ∃ cells, W.heap[Ab]? = some (Obj.cells cells 23 (0, 0)) := by
    rcases h.hO.2 with ⟨e, _⟩ | ⟨g, cap, cur, e, _, hh, _⟩
    · simp at e
    · simp at e; obtain ⟨rfl, -⟩ := e; exact ⟨cur, hh⟩
  obtain ⟨cA, hA⟩ := hA
  have GA : G ≠ Ab := fun e => by have := h.hG; rw [e, hA] at this; simp at this
  refine ⟨?_, World.cell?_setCell_same' _ _ _ (by rw [e2]; rfl), fun X cs hX => ?_⟩
  · rw [World.cell?_of_block (w := W1) (a := ⟨G, 2, none⟩) (Below.heap_setCell W1 ⟨Ab, u.toNat, none⟩ v G GA)]; exact e1
  · have XA : X ≠ Ab := fun e => by rw [e, hA] at hX; simp at hX
    rw [Below.heap_setCell W1 ⟨Ab, u.toNat, none⟩ v X XA]; exact e4 X cs hX
end
theorem addAt_len (adj : List (List Int)) (u y : Int) (k : Nat) (h : ∀ j, (adj.getD j []).length ≤ k) (j : Nat) : ((addAt adj u y).getD j []).length ≤ k + 1 := by
  unfold addAt
  by_cases e : u.toNat = j
  · subst e
    by_cases hl : u.toNat < adj.length
    · rw [getD_set_self _ _ _ _ hl]; have := h u.toNat; simp only [List.length_append, List.length_cons, List.length_nil]; omega
    · rw [List.set_eq_of_length_le (by omega)]; have := h u.toNat; omega
  · rw [getD_set_ne _ _ _ _ _ e]; have := h j; omega
theorem blk3_2 (w : World) (o1 o2 o3 : Obj) : (((w.alloc o1).alloc o2).alloc o3).drew.heap[w.heap.size + 1 + 1]? = some o3 := by
  have := heap_alloc_new ((w.alloc o1).alloc o2) o3
  show (((w.alloc o1).alloc o2).alloc o3).heap[w.heap.size + 1 + 1]? = some o3
  simpa using this
theorem blk3_1 (w : World) (o1 o2 o3 : Obj) : (((w.alloc o1).alloc o2).alloc o3).drew.heap[w.heap.size + 1]? = some o2 := by
  have h1 := heap_alloc_new (w.alloc o1) o2
  have h2 := Below.heap_alloc ((w.alloc o1).alloc o2) o3 (w.heap.size + 1) (by simp)
  exact h2.trans (by simpa using h1)
theorem blk3_0 (w : World) (o1 o2 o3 : Obj) : (((w.alloc o1).alloc o2).alloc o3).drew.heap[w.heap.size]? = some o1 := by
  have h1 := heap_alloc_new w o1
  have h2 := Below.heap_alloc (w.alloc o1) o2 w.heap.size (by simp)
  have h3 := Below.heap_alloc ((w.alloc o1).alloc o2) o3 w.heap.size (by simp; omega)
  exact h3.trans (h2.trans h1)
theorem repl_nil (n j : Nat) : (List.replicate n ([] : List Int)).getD j [] = [] := by
  rcases Nat.lt_or_ge j n with h | h <;> simp [List.getD, h]
/-- what newNetwork hands back -/
def NetMade (w : World) (A : Option Addr) (c : Nat) (l : List S61) (n : Nat) (e : Ending) (w' : World) : Prop := ∃ G F Ab : Nat, e = .returned (.pointer (some ⟨G, 0, none⟩)) ∧ NNs w w' G F Ab A c l (madeCells #[.int .i64 0] l.length) n (adjOf l 0 (List.replicate n []))
theorem of_wanted {ops : Array Oper} {o : Oper} {a : Act} {p q : Prop} (hg : o.guard = none) (h : if Region.wanted o (yielded ops a.tmps) = true then p else q) : p := by
  rwa [if_pos (by unfold Region.wanted; rw [hg])] at h
theorem rd_mem (l : List S61) (i : Int) (h0 : 0 ≤ i) (h : i < l.length) : l[i.toNat]'(by omega) = rd_T61 l i := by
  simp [rd_T61, List.getD, show i.toNat < l.length by omega]
set_option maxHeartbeats 4000000 in
set_option maxRecDepth 100000 in
theorem newNetwork_calls (w : World) (n : Nat) (A : Option Addr) (c : Nat) (l : List S61) (hE : Kd.C k61 w A l.length l) (hc : l.length ≤ c) (hm : l.length ≤ 65536) (hn : n ≤ 4096)
    (hv : ∀ x ∈ l, (0 ≤ x.f0 ∧ x.f0 < n) ∧ (0 ≤ x.f1 ∧ x.f1 < n)) :
    Calls Try.prog 48 #[.int .i64 n, .slice A l.length c] w (NetMade w A c l n) := by
  have hu81 := Try.underlying81
  have hu61 := Try.underlying61
  obtain ⟨cF, hcF⟩ : ∃ x, madeCells #[.int .i64 0] l.length = x := ⟨_, rfl⟩
  obtain ⟨cA, hcA⟩ : ∃ x, madeCells #[.slice none 0 0] n = x := ⟨_, rfl⟩
  have hmF : ∀ W : World, (Instr.makeSlice 23 (.int .i64 (l.length : Int)) (.int .i64 (l.length : Int))).run Try.prog W = .ok (.slice (some ⟨W.heap.size, 0, none⟩) l.length l.length) (W.alloc (.cells cF 3)) := fun W => by
    rw [← hcF]; exact run_make_row' 23 3 (.int .i64 0) 8 Try.underlying23 info3 rfl .i64 .i64 l.length (by omega) (by omega) W
  have hmA : ∀ W : World, (Instr.makeSlice 79 (.int .i64 (n : Int)) (.int .i64 (n : Int))).run Try.prog W = .ok (.slice (some ⟨W.heap.size, 0, none⟩) n n) (W.alloc (.cells cA 23)) := fun W => by
    rw [← hcA]; exact run_make_row' 79 23 (.slice none 0 0) 24 Try.underlying79 (by kernel_rfl) rfl .i64 .i64 n (by omega) (by omega) W
  have HCA := Aside0.mk hcA
  have HCF := Aside0.mk hcF
  have HE := Aside0.mk hE
  have HV := Aside0.mk hv
  clear hcF hcA hE hv
  have hmi : (l.length : Int) ≤ 65536 := by omega
  go_enter Try.func48, Try.ntmps48
  go_upto_region 1 with (fail)
  go_cut [5] (fun v5 wc => ∃ G F Ab : Nat, v5 = .pointer (some ⟨G, 0, none⟩) ∧ Aside0 (NNs w wc G F Ab A c l cF n (List.replicate n [])))
  case first =>
    have hb3 : ∀ o1 o2 o3, Below w.heap.size w (((w.alloc o1).alloc o2).alloc o3).drew := fun o1 o2 o3 => below_drew (below_alloc (below_alloc (below_alloc (Below.refl _ _) o1) o2) o3)
    have HB3 := Aside0.mk hb3
    clear hb3
    go_wp2
    go_region
    all_goals go_wp2
    all_goals go_meet
    · case rel => exact ⟨w.heap.size + 1 + 1, w.heap.size, w.heap.size + 1, rfl, ⟨⟨_, NN.start hn (blk3_2 _ _ _ _) (blk3_0 _ _ _ _) ((blk3_1 _ _ _ _).trans (by rw [HCA.out])) (HB3.out _ _ _) (by omega) (by omega) (by omega)⟩⟩⟩
    · case rel => exact ⟨w.heap.size + 1 + 1, w.heap.size + 1, w.heap.size, rfl, ⟨⟨_, NN.start hn (blk3_2 _ _ _ _) (blk3_1 _ _ _ _) ((blk3_0 _ _ _ _).trans (by rw [HCA.out])) (HB3.out _ _ _) (by omega) (by omega) (by omega)⟩⟩⟩
  case rest =>
    clear hmF hmA
    obtain ⟨G, F, Ab, rfl, HN⟩ := hcut
    go_wp2_with fail
    go_loopw [18] (fun v wr => ∃ (i : Int) (adj : List (List Int)), v = .int .i64 i ∧ 0 ≤ i ∧ i ≤ l.length ∧ Aside0 (adjOf (l.drop i.toNat) i adj = adjOf l 0 (List.replicate n [])) ∧ Aside0 (NNs w wr G F Ab A c l cF n adj) ∧ Aside0 (∀ j, (adj.getD j []).length ≤ 2 * i.toNat)) (fun v _ => l.length - (intOf v).toNat)
    case atStart => exact ⟨0, _, rfl, by omega, by omega, ⟨rfl⟩, HN, ⟨fun j => by rw [repl_nil]; simp⟩⟩
    case round =>
      clear HN
      obtain ⟨i, adj, rfl, h0, h1, HI, HN, HLN⟩ := hrel
      by_cases hlt : i < l.length
      · have b0 : decide (i < (l.length : Int)) = true := decide_eq_true hlt
        have b1 : decide (0 ≤ i) = true := decide_eq_true h0
        obtain ⟨vals, hN⟩ := HN.out
        obtain ⟨ad, e, x0, x1, x2⟩ := at_T61 (Kd.C_below HE.out hN.hW) i h0 hlt
        cases e
        have hd := Aside0.mk (drop_rd l i h0 hlt)
        have HN2 := Aside0.mk hN
        have hvi := HV.out (rd_T61 l i) (by rw [← rd_mem l i h0 hlt]; exact List.getElem_mem _)
        clear hN HN
        go_upto_region 5 with (fail)
        obtain ⟨fa, hfa⟩ : ∃ x, (rd_T61 l i).f0 = x := ⟨_, rfl⟩
        obtain ⟨fb, hfb⟩ : ∃ x, (rd_T61 l i).f1 = x := ⟨_, rfl⟩
        obtain ⟨fc, hfc⟩ : ∃ x, (rd_T61 l i).f2 = x := ⟨_, rfl⟩
        rw [hfa, hfb, hfc]
        rw [hfa, hfb] at hvi
        obtain ⟨⟨a0, a1⟩, a2, a3⟩ := hvi
        obtain ⟨W5, hW5⟩ : ∃ W5, wr.alloc (Obj.cells #[Value.int IntKind.i64 fa, Value.int IntKind.i64 fb, Value.int IntKind.i64 fc] 61) = W5 := ⟨_, rfl⟩
        have hN5 := HN2.out.below (show Below wr.heap.size wr W5 by rw [← hW5]; exact below_alloc (Below.refl _ _) _)
        have hX5 : W5.heap[wr.heap.size]? = some (.cells #[.int .i64 fa, .int .i64 fb, .int .i64 fc] 61 (0, 0)) := by rw [← hW5]; exact heap_alloc_new wr _
        rw [hW5]
        obtain ⟨X, hX⟩ : ∃ X, wr.heap.size = X := ⟨_, rfl⟩
        rw [hX] at hX5 ⊢
        have FA := Aside0.mk (And.intro hfa hfb)
        clear hW5 hX hfa hfb hfc HN2 x0 x1 x2
        have HN5 := Aside0.mk hN5
        have HX5 := Aside0.mk hX5
        clear hN5 hX5
        obtain ⟨c1, c2, c3⟩ := HN5.out.cells fa a0 a1
        have d0 : W5.cell? ⟨X, 0, none⟩ = some (.int .i64 fa) := (blk_cell HX5.out 0).trans rfl
        have ho5 := Aside0.mk (HN5.out.hrow fa.toNat (by omega))
        obtain ⟨va5, hva⟩ : ∃ va, vals.getD fa.toNat undef = va := ⟨_, rfl⟩
        rw [hva] at c2 ho5
        have HVA5 := Aside0.mk hva
        clear hva
        have HFR5 := Aside0.mk (show ∀ k, W5.drew.heap.size ≤ k → k ≠ F from fun k hk e => by have := lt_of_block HN5.out.hF; have hk' : W5.heap.size ≤ k := hk; omega)
        have HR5 := Aside0.mk (show Kd.R (Kd.int .i64) 3 W5.drew w.heap.size (fun k => k ≠ F) va5 (adj.getD fa.toNat []) from Kd.R_drew ho5.out)
        have HB5 := Aside0.mk (show Below w.heap.size w W5.drew from below_drew HN5.out.hW)
        have HZ5 := Aside0.mk (show w.heap.size ≤ W5.drew.heap.size from HB5.out.size)
        have HLr5 := Aside0.mk (show ((adj.getD fa.toNat []).length + 1) * 8 ≤ 140737488355328 by have := HLN.out fa.toNat; omega)
        have HS5 := Aside0.mk (show W5.drew.cell? ⟨G, 2, none⟩ = some (.slice (some ⟨Ab, 0, none⟩) n n) ∧ W5.drew.cell? ⟨X, 0, none⟩ = some (.int .i64 fa) ∧ W5.drew.cell? ⟨Ab, fa.toNat, none⟩ = some va5 from ⟨c1, d0, c2⟩)
        have HKA5 := Aside0.mk (show (W5.alloc (Obj.cells #[.int .i64 (2 * i)] 3)).cell? ⟨G, 2, none⟩ = some (.slice (some ⟨Ab, 0, none⟩) n n) ∧ (W5.alloc (Obj.cells #[.int .i64 (2 * i)] 3)).cell? ⟨X, 0, none⟩ = some (.int .i64 fa) ∧ (W5.alloc (Obj.cells #[.int .i64 (2 * i)] 3)).cell? ⟨Ab, fa.toNat, none⟩ = some va5 from ⟨cell_lt c1 _, cell_lt d0 _, cell_lt c2 _⟩)
        clear c1 d0 c2 c3
        have hw1 : IntKind.i64.wrap (2 * i) = 2 * i := IntWalk.i64_in _ (by omega)
        refine wp_region_noPanic ?_
        refine wp_region_T (by kernel_rfl) (fun w' => w'.cell? ⟨G, 2, none⟩ = some (.slice (some ⟨Ab, 0, none⟩) n n) ∧ w'.cell? ⟨X, 0, none⟩ = some (.int .i64 fa) ∧ w'.cell? ⟨Ab, fa.toNat, none⟩ = some va5) 19 ?_
        refine wpAnyT_take (i := 0) (v := (.pointer (some ⟨G, 0, none⟩))) (by decide +kernel) (by decide) rfl (by decide +kernel) (by decide +kernel) (by decide +kernel) (fun _ _ _ h => h) (.inl ⟨rfl, fun w' hS' => ?_⟩) HS5.out ?_
        · obtain ⟨s1, s2, s3⟩ := hS'; go_simp; done
        simp only [Act.put, List.setIfInBounds_toArray, List.set_cons_zero, List.set_cons_succ]
        refine wpAnyT_take (i := 1) (v := (.pointer (some ⟨G, 0, none⟩))) (by decide +kernel) (by decide) rfl (by decide +kernel) (by decide +kernel) (by decide +kernel) (fun _ _ _ h => h) (.inl ⟨rfl, fun w' hS' => ?_⟩) HS5.out ?_
        · obtain ⟨s1, s2, s3⟩ := hS'; go_simp; done
        simp only [Act.put, List.setIfInBounds_toArray, List.set_cons_zero, List.set_cons_succ]
        refine wpAnyT_take (i := 2) (v := (.pointer (some ⟨G, 2, none⟩))) (by decide +kernel) (by decide) rfl (by decide +kernel) (by decide +kernel) (by decide +kernel) (fun _ _ _ h => h) (.inl ⟨rfl, fun w' hS' => ?_⟩) HS5.out ?_
        · obtain ⟨s1, s2, s3⟩ := hS'; go_simp; done
        simp only [Act.put, List.setIfInBounds_toArray, List.set_cons_zero, List.set_cons_succ]
        refine wpAnyT_take (i := 3) (v := (.slice (some ⟨Ab, 0, none⟩) n n)) (by decide +kernel) (by decide) rfl (by decide +kernel) (by decide +kernel) (by decide +kernel) (fun _ _ _ h => h) (.inl ⟨rfl, fun w' hS' => ?_⟩) HS5.out ?_
        · obtain ⟨s1, s2, s3⟩ := hS'; go_simp; done
        simp only [Act.put, List.setIfInBounds_toArray, List.set_cons_zero, List.set_cons_succ]
        refine wpAnyT_take (i := 4) (v := (.pointer (some ⟨X, 0, none⟩))) (by decide +kernel) (by decide) rfl (by decide +kernel) (by decide +kernel) (by decide +kernel) (fun _ _ _ h => h) (.inl ⟨rfl, fun w' hS' => ?_⟩) HS5.out ?_
        · obtain ⟨s1, s2, s3⟩ := hS'; go_simp; done
        simp only [Act.put, List.setIfInBounds_toArray, List.set_cons_zero, List.set_cons_succ]
        refine wpAnyT_take (i := 5) (v := (.int .i64 fa)) (by decide +kernel) (by decide) rfl (by decide +kernel) (by decide +kernel) (by decide +kernel) (fun _ _ _ h => h) (.inl ⟨rfl, fun w' hS' => ?_⟩) HS5.out ?_
        · obtain ⟨s1, s2, s3⟩ := hS'; go_simp; done
        simp only [Act.put, List.setIfInBounds_toArray, List.set_cons_zero, List.set_cons_succ]
        refine wpAnyT_take (i := 6) (v := (.pointer (some ⟨G, 0, none⟩))) (by decide +kernel) (by decide) rfl (by decide +kernel) (by decide +kernel) (by decide +kernel) (fun _ _ _ h => h) (.inl ⟨rfl, fun w' hS' => ?_⟩) HS5.out ?_
        · obtain ⟨s1, s2, s3⟩ := hS'; go_simp; done
        simp only [Act.put, List.setIfInBounds_toArray, List.set_cons_zero, List.set_cons_succ]
        refine wpAnyT_take (i := 7) (v := (.pointer (some ⟨G, 0, none⟩))) (by decide +kernel) (by decide) rfl (by decide +kernel) (by decide +kernel) (by decide +kernel) (fun _ _ _ h => h) (.inl ⟨rfl, fun w' hS' => ?_⟩) HS5.out ?_
        · obtain ⟨s1, s2, s3⟩ := hS'; go_simp; done
        simp only [Act.put, List.setIfInBounds_toArray, List.set_cons_zero, List.set_cons_succ]
        refine wpAnyT_take (i := 8) (v := (.pointer (some ⟨G, 2, none⟩))) (by decide +kernel) (by decide) rfl (by decide +kernel) (by decide +kernel) (by decide +kernel) (fun _ _ _ h => h) (.inl ⟨rfl, fun w' hS' => ?_⟩) HS5.out ?_
        · obtain ⟨s1, s2, s3⟩ := hS'; go_simp; done
        simp only [Act.put, List.setIfInBounds_toArray, List.set_cons_zero, List.set_cons_succ]
        refine wpAnyT_take (i := 9) (v := (.slice (some ⟨Ab, 0, none⟩) n n)) (by decide +kernel) (by decide) rfl (by decide +kernel) (by decide +kernel) (by decide +kernel) (fun _ _ _ h => h) (.inl ⟨rfl, fun w' hS' => ?_⟩) HS5.out ?_
        · obtain ⟨s1, s2, s3⟩ := hS'; go_simp; done
        simp only [Act.put, List.setIfInBounds_toArray, List.set_cons_zero, List.set_cons_succ]
        refine wpAnyT_take (i := 10) (v := (.pointer (some ⟨X, 0, none⟩))) (by decide +kernel) (by decide) rfl (by decide +kernel) (by decide +kernel) (by decide +kernel) (fun _ _ _ h => h) (.inl ⟨rfl, fun w' hS' => ?_⟩) HS5.out ?_
        · obtain ⟨s1, s2, s3⟩ := hS'; go_simp; done
        simp only [Act.put, List.setIfInBounds_toArray, List.set_cons_zero, List.set_cons_succ]
        refine wpAnyT_take (i := 11) (v := (.int .i64 fa)) (by decide +kernel) (by decide) rfl (by decide +kernel) (by decide +kernel) (by decide +kernel) (fun _ _ _ h => h) (.inl ⟨rfl, fun w' hS' => ?_⟩) HS5.out ?_
        · obtain ⟨s1, s2, s3⟩ := hS'; go_simp; done
        simp only [Act.put, List.setIfInBounds_toArray, List.set_cons_zero, List.set_cons_succ]
        refine wpAnyT_take (i := 12) (v := (.pointer (some ⟨Ab, fa.toNat, none⟩))) (by decide +kernel) (by decide) rfl (by decide +kernel) (by decide +kernel) (by decide +kernel) (fun _ _ _ h => h) (.inl ⟨rfl, fun w' hS' => ?_⟩) HS5.out ?_
        · obtain ⟨s1, s2, s3⟩ := hS'; go_simp; done
        simp only [Act.put, List.setIfInBounds_toArray, List.set_cons_zero, List.set_cons_succ]
        refine wpAnyT_take (i := 13) (v := va5) (by decide +kernel) (by decide) rfl (by decide +kernel) (by decide +kernel) (by decide +kernel) (fun _ _ _ h => h) (.inl ⟨rfl, fun w' hS' => ?_⟩) HS5.out ?_
        · obtain ⟨s1, s2, s3⟩ := hS'; go_simp; done
        simp only [Act.put, List.setIfInBounds_toArray, List.set_cons_zero, List.set_cons_succ]
        refine wpAnyT_take (i := 14) (v := (.int .i64 i)) (by decide +kernel) (by decide) rfl (by decide +kernel) (by decide +kernel) (by decide +kernel) (fun _ _ _ h => h) (.inl ⟨rfl, fun w' hS' => ?_⟩) HS5.out ?_
        · obtain ⟨s1, s2, s3⟩ := hS'; go_simp; done
        simp only [Act.put, List.setIfInBounds_toArray, List.set_cons_zero, List.set_cons_succ]
        refine wpAnyT_take (i := 15) (v := (.int .i64 (2 * i))) (by decide +kernel) (by decide) rfl (by decide +kernel) (by decide +kernel) (by decide +kernel) (fun _ _ _ h => h) (.inl ⟨rfl, fun w' hS' => ?_⟩) HS5.out ?_
        · obtain ⟨s1, s2, s3⟩ := hS'; go_simp; done
        simp only [Act.put, List.setIfInBounds_toArray, List.set_cons_zero, List.set_cons_succ]
        refine wpAnyT_one (i := 16) rfl rfl (by decide +kernel) ?_
        unfold Oper.wp
        go_simp
        refine ⟨HKA5.out, ?_⟩
        refine wpAnyT_one (i := 17) rfl rfl (by decide +kernel) ?_
        refine of_wanted (ops := #[]) rfl (Kd.R_append_step (Kd.int .i64) (w0 := w) (W := W5.drew) w.heap.size rfl (.tmp 36) (.tmp 39) 23 3 (.int .i64 0) 8 rfl Try.underlying23 info3 rfl (by decide) (by decide) va5 (adj.getD fa.toNat []) (2 * i) [.int .i64 (2 * i)] (fun k => k ≠ F) (fun _ => False) rfl rfl rfl (fun _ h => h.elim) HFR5.out HR5.out HB5.out HZ5.out HLr5.out ?_)
        intro v1 w1 hr1 hb1 hg1 hat1
        obtain ⟨g1, k1, rfl, hf1, hf2, hf3⟩ := Kd.R_form hr1 (by simp)
        clear hf1 hf2 hf3 hb1
        simp only [Act.put, List.setIfInBounds_toArray, List.set_cons_zero, List.set_cons_succ]
        have hN5d := HN5.out.below (below_drew (Below.refl _ _))
        have hg1' : W5.drew.grownBy w1 (vals.getD fa.toNat undef).ownBlock := by rw [HVA5.out]; exact hg1
        obtain ⟨e1, e2, e3, e4⟩ := NN.after hN5d fa a0 a1 hg1'
        have e5 : w1.cell? ⟨X, 0, none⟩ = some (.int .i64 fa) := (blk_cell (e4 X _ HX5.out) 0).trans rfl
        rw [HVA5.out] at e2
        have HN6t := Aside0.mk (NN.append hN5d fa a0 a1 (2 * i) _ hr1 hg1' (by rw [HVA5.out]; exact hat1))
        have HX6t := Aside0.mk (NN.stored hN5d fa a0 a1 hg1' (.slice (some ⟨g1, 0, none⟩) (adj.getD fa.toNat [] ++ [2 * i]).length k1))
        have HS6t := Aside0.mk (And.intro e1 (And.intro e5 e2))
        clear hr1 hg1 hat1 hN5d hg1' e4 e1 e5
        refine ⟨.inr HS6t.out, ?_⟩
        refine wpAnyT_one (i := 18) rfl rfl (by decide +kernel) ?_
        unfold Oper.wp
        go_simp
        refine ⟨⟨HS6t.out.1, HS6t.out.2.1⟩, ?_⟩
        refine wpAnyT_one (i := 19) rfl rfl (by decide +kernel) ?_
        unfold Oper.wp
        go_simp
        refine wpAnyT_done (by decide +kernel) ?_ _
        refine NoPanic.normal ?_
        have hX6 := HX6t.out.2.2 X _ HX5.out
        have hN6 := HN6t.out
        obtain ⟨W6, hW6⟩ : ∃ W6, w1.setCell ⟨Ab, fa.toNat, none⟩ (.slice (some ⟨g1, 0, none⟩) (adj.getD fa.toNat [] ++ [2 * i]).length k1) = W6 := ⟨_, rfl⟩
        rw [hW6] at hX6 hN6
        simp only [List.length_append, List.length_cons, List.length_nil, Nat.zero_add, List.getD_eq_getElem?_getD] at hW6
        rw [hW6]
        have HNb5 := Aside0.mk hN6
        have HXb5 := Aside0.mk hX6
        clear hW6 hX6 hN6 HN6t HX6t HS6t HKA5 HS5 HFR5 HR5 HB5 HZ5 HLr5 ho5 HVA5 e2 e3 hw1
        go_wp2_with fail
        obtain ⟨vals6, hvals6⟩ : ∃ x, vals.set fa.toNat (Value.slice (some ⟨g1, 0, none⟩) (adj.getD fa.toNat [] ++ [2 * i]).length k1) = x := ⟨_, rfl⟩
        have hNb5 := HNb5.out
        rw [hvals6] at hNb5
        have HNc := Aside0.mk hNb5
        clear hvals6 hNb5 HNb5
        obtain ⟨adj6, hadj6⟩ : ∃ x, addAt adj fa (2 * i) = x := ⟨_, rfl⟩
        have hNc := HNc.out
        rw [hadj6] at hNc
        have HN6 := Aside0.mk hNc
        have HL6 := Aside0.mk (show ∀ j, (adj6.getD j []).length ≤ 2 * i.toNat + 1 from fun j => by rw [← hadj6]; exact addAt_len _ _ _ _ HLN.out j)
        have HA6 := Aside0.mk hadj6
        clear hNc HNc hadj6
        obtain ⟨c1, c2, c3⟩ := HN6.out.cells fb a2 a3
        have d0 : W6.cell? ⟨X, 1, none⟩ = some (.int .i64 fb) := (blk_cell HXb5.out 1).trans rfl
        have ho6 := Aside0.mk (HN6.out.hrow fb.toNat (by omega))
        obtain ⟨va6, hva⟩ : ∃ va, vals6.getD fb.toNat undef = va := ⟨_, rfl⟩
        rw [hva] at c2 ho6
        have HVA6 := Aside0.mk hva
        clear hva
        have HFR6 := Aside0.mk (show ∀ k, W6.drew.heap.size ≤ k → k ≠ F from fun k hk e => by have := lt_of_block HN6.out.hF; have hk' : W6.heap.size ≤ k := hk; omega)
        have HR6 := Aside0.mk (show Kd.R (Kd.int .i64) 3 W6.drew w.heap.size (fun k => k ≠ F) va6 (adj6.getD fb.toNat []) from Kd.R_drew ho6.out)
        have HB6 := Aside0.mk (show Below w.heap.size w W6.drew from below_drew HN6.out.hW)
        have HZ6 := Aside0.mk (show w.heap.size ≤ W6.drew.heap.size from HB6.out.size)
        have HLr6 := Aside0.mk (show ((adj6.getD fb.toNat []).length + 1) * 8 ≤ 140737488355328 by have := HL6.out fb.toNat; omega)
        have HS6 := Aside0.mk (show W6.drew.cell? ⟨G, 2, none⟩ = some (.slice (some ⟨Ab, 0, none⟩) n n) ∧ W6.drew.cell? ⟨X, 1, none⟩ = some (.int .i64 fb) ∧ W6.drew.cell? ⟨Ab, fb.toNat, none⟩ = some va6 from ⟨c1, d0, c2⟩)
        have HKA6 := Aside0.mk (show (W6.alloc (Obj.cells #[.int .i64 (2 * i + 1)] 3)).cell? ⟨G, 2, none⟩ = some (.slice (some ⟨Ab, 0, none⟩) n n) ∧ (W6.alloc (Obj.cells #[.int .i64 (2 * i + 1)] 3)).cell? ⟨X, 1, none⟩ = some (.int .i64 fb) ∧ (W6.alloc (Obj.cells #[.int .i64 (2 * i + 1)] 3)).cell? ⟨Ab, fb.toNat, none⟩ = some va6 from ⟨cell_lt c1 _, cell_lt d0 _, cell_lt c2 _⟩)
        clear c1 d0 c2 c3
        have hw1 : IntKind.i64.wrap (2 * i) = 2 * i := IntWalk.i64_in _ (by omega)
        have hw2 : IntKind.i64.wrap (2 * i + 1) = 2 * i + 1 := IntWalk.i64_in _ (by omega)
        refine wp_region_noPanic ?_
        refine wp_region_T (by kernel_rfl) (fun w' => w'.cell? ⟨G, 2, none⟩ = some (.slice (some ⟨Ab, 0, none⟩) n n) ∧ w'.cell? ⟨X, 1, none⟩ = some (.int .i64 fb) ∧ w'.cell? ⟨Ab, fb.toNat, none⟩ = some va6) 20 ?_
        refine wpAnyT_take (i := 0) (v := (.pointer (some ⟨G, 0, none⟩))) (by decide +kernel) (by decide) rfl (by decide +kernel) (by decide +kernel) (by decide +kernel) (fun _ _ _ h => h) (.inl ⟨rfl, fun w' hS' => ?_⟩) HS6.out ?_
        · obtain ⟨s1, s2, s3⟩ := hS'; go_simp; done
        simp only [Act.put, List.setIfInBounds_toArray, List.set_cons_zero, List.set_cons_succ]
        refine wpAnyT_take (i := 1) (v := (.pointer (some ⟨G, 0, none⟩))) (by decide +kernel) (by decide) rfl (by decide +kernel) (by decide +kernel) (by decide +kernel) (fun _ _ _ h => h) (.inl ⟨rfl, fun w' hS' => ?_⟩) HS6.out ?_
        · obtain ⟨s1, s2, s3⟩ := hS'; go_simp; done
        simp only [Act.put, List.setIfInBounds_toArray, List.set_cons_zero, List.set_cons_succ]
        refine wpAnyT_take (i := 2) (v := (.pointer (some ⟨G, 2, none⟩))) (by decide +kernel) (by decide) rfl (by decide +kernel) (by decide +kernel) (by decide +kernel) (fun _ _ _ h => h) (.inl ⟨rfl, fun w' hS' => ?_⟩) HS6.out ?_
        · obtain ⟨s1, s2, s3⟩ := hS'; go_simp; done
        simp only [Act.put, List.setIfInBounds_toArray, List.set_cons_zero, List.set_cons_succ]
        refine wpAnyT_take (i := 3) (v := (.slice (some ⟨Ab, 0, none⟩) n n)) (by decide +kernel) (by decide) rfl (by decide +kernel) (by decide +kernel) (by decide +kernel) (fun _ _ _ h => h) (.inl ⟨rfl, fun w' hS' => ?_⟩) HS6.out ?_
        · obtain ⟨s1, s2, s3⟩ := hS'; go_simp; done
        simp only [Act.put, List.setIfInBounds_toArray, List.set_cons_zero, List.set_cons_succ]
        refine wpAnyT_take (i := 4) (v := (.pointer (some ⟨X, 1, none⟩))) (by decide +kernel) (by decide) rfl (by decide +kernel) (by decide +kernel) (by decide +kernel) (fun _ _ _ h => h) (.inl ⟨rfl, fun w' hS' => ?_⟩) HS6.out ?_
        · obtain ⟨s1, s2, s3⟩ := hS'; go_simp; done
        simp only [Act.put, List.setIfInBounds_toArray, List.set_cons_zero, List.set_cons_succ]
        refine wpAnyT_take (i := 5) (v := (.int .i64 fb)) (by decide +kernel) (by decide) rfl (by decide +kernel) (by decide +kernel) (by decide +kernel) (fun _ _ _ h => h) (.inl ⟨rfl, fun w' hS' => ?_⟩) HS6.out ?_
        · obtain ⟨s1, s2, s3⟩ := hS'; go_simp; done
        simp only [Act.put, List.setIfInBounds_toArray, List.set_cons_zero, List.set_cons_succ]
        refine wpAnyT_take (i := 6) (v := (.pointer (some ⟨G, 0, none⟩))) (by decide +kernel) (by decide) rfl (by decide +kernel) (by decide +kernel) (by decide +kernel) (fun _ _ _ h => h) (.inl ⟨rfl, fun w' hS' => ?_⟩) HS6.out ?_
        · obtain ⟨s1, s2, s3⟩ := hS'; go_simp; done
        simp only [Act.put, List.setIfInBounds_toArray, List.set_cons_zero, List.set_cons_succ]
        refine wpAnyT_take (i := 7) (v := (.pointer (some ⟨G, 0, none⟩))) (by decide +kernel) (by decide) rfl (by decide +kernel) (by decide +kernel) (by decide +kernel) (fun _ _ _ h => h) (.inl ⟨rfl, fun w' hS' => ?_⟩) HS6.out ?_
        · obtain ⟨s1, s2, s3⟩ := hS'; go_simp; done
        simp only [Act.put, List.setIfInBounds_toArray, List.set_cons_zero, List.set_cons_succ]
        refine wpAnyT_take (i := 8) (v := (.pointer (some ⟨G, 2, none⟩))) (by decide +kernel) (by decide) rfl (by decide +kernel) (by decide +kernel) (by decide +kernel) (fun _ _ _ h => h) (.inl ⟨rfl, fun w' hS' => ?_⟩) HS6.out ?_
        · obtain ⟨s1, s2, s3⟩ := hS'; go_simp; done
        simp only [Act.put, List.setIfInBounds_toArray, List.set_cons_zero, List.set_cons_succ]
        refine wpAnyT_take (i := 9) (v := (.slice (some ⟨Ab, 0, none⟩) n n)) (by decide +kernel) (by decide) rfl (by decide +kernel) (by decide +kernel) (by decide +kernel) (fun _ _ _ h => h) (.inl ⟨rfl, fun w' hS' => ?_⟩) HS6.out ?_
        · obtain ⟨s1, s2, s3⟩ := hS'; go_simp; done
        simp only [Act.put, List.setIfInBounds_toArray, List.set_cons_zero, List.set_cons_succ]
        refine wpAnyT_take (i := 10) (v := (.pointer (some ⟨X, 1, none⟩))) (by decide +kernel) (by decide) rfl (by decide +kernel) (by decide +kernel) (by decide +kernel) (fun _ _ _ h => h) (.inl ⟨rfl, fun w' hS' => ?_⟩) HS6.out ?_
        · obtain ⟨s1, s2, s3⟩ := hS'; go_simp; done
        simp only [Act.put, List.setIfInBounds_toArray, List.set_cons_zero, List.set_cons_succ]
        refine wpAnyT_take (i := 11) (v := (.int .i64 fb)) (by decide +kernel) (by decide) rfl (by decide +kernel) (by decide +kernel) (by decide +kernel) (fun _ _ _ h => h) (.inl ⟨rfl, fun w' hS' => ?_⟩) HS6.out ?_
        · obtain ⟨s1, s2, s3⟩ := hS'; go_simp; done
        simp only [Act.put, List.setIfInBounds_toArray, List.set_cons_zero, List.set_cons_succ]
        refine wpAnyT_take (i := 12) (v := (.pointer (some ⟨Ab, fb.toNat, none⟩))) (by decide +kernel) (by decide) rfl (by decide +kernel) (by decide +kernel) (by decide +kernel) (fun _ _ _ h => h) (.inl ⟨rfl, fun w' hS' => ?_⟩) HS6.out ?_
        · obtain ⟨s1, s2, s3⟩ := hS'; go_simp; done
        simp only [Act.put, List.setIfInBounds_toArray, List.set_cons_zero, List.set_cons_succ]
        refine wpAnyT_take (i := 13) (v := va6) (by decide +kernel) (by decide) rfl (by decide +kernel) (by decide +kernel) (by decide +kernel) (fun _ _ _ h => h) (.inl ⟨rfl, fun w' hS' => ?_⟩) HS6.out ?_
        · obtain ⟨s1, s2, s3⟩ := hS'; go_simp; done
        simp only [Act.put, List.setIfInBounds_toArray, List.set_cons_zero, List.set_cons_succ]
        refine wpAnyT_take (i := 14) (v := (.int .i64 i)) (by decide +kernel) (by decide) rfl (by decide +kernel) (by decide +kernel) (by decide +kernel) (fun _ _ _ h => h) (.inl ⟨rfl, fun w' hS' => ?_⟩) HS6.out ?_
        · obtain ⟨s1, s2, s3⟩ := hS'; go_simp; done
        simp only [Act.put, List.setIfInBounds_toArray, List.set_cons_zero, List.set_cons_succ]
        refine wpAnyT_take (i := 15) (v := (.int .i64 (2 * i))) (by decide +kernel) (by decide) rfl (by decide +kernel) (by decide +kernel) (by decide +kernel) (fun _ _ _ h => h) (.inl ⟨rfl, fun w' hS' => ?_⟩) HS6.out ?_
        · obtain ⟨s1, s2, s3⟩ := hS'; go_simp; done
        simp only [Act.put, List.setIfInBounds_toArray, List.set_cons_zero, List.set_cons_succ]
        refine wpAnyT_take (i := 16) (v := (.int .i64 (2 * i + 1))) (by decide +kernel) (by decide) rfl (by decide +kernel) (by decide +kernel) (by decide +kernel) (fun _ _ _ h => h) (.inl ⟨rfl, fun w' hS' => ?_⟩) HS6.out ?_
        · obtain ⟨s1, s2, s3⟩ := hS'; go_simp; done
        simp only [Act.put, List.setIfInBounds_toArray, List.set_cons_zero, List.set_cons_succ]
        refine wpAnyT_one (i := 17) rfl rfl (by decide +kernel) ?_
        unfold Oper.wp
        go_simp
        refine ⟨HKA6.out, ?_⟩
        refine wpAnyT_one (i := 18) rfl rfl (by decide +kernel) ?_
        refine of_wanted (ops := #[]) rfl (Kd.R_append_step (Kd.int .i64) (w0 := w) (W := W6.drew) w.heap.size rfl (.tmp 55) (.tmp 59) 23 3 (.int .i64 0) 8 rfl Try.underlying23 info3 rfl (by decide) (by decide) va6 (adj6.getD fb.toNat []) (2 * i + 1) [.int .i64 (2 * i + 1)] (fun k => k ≠ F) (fun _ => False) rfl rfl rfl (fun _ h => h.elim) HFR6.out HR6.out HB6.out HZ6.out HLr6.out ?_)
        intro v1 w1 hr1 hb1 hg1 hat1
        obtain ⟨g1, k1, rfl, hf1, hf2, hf3⟩ := Kd.R_form hr1 (by simp)
        clear hf1 hf2 hf3 hb1
        simp only [Act.put, List.setIfInBounds_toArray, List.set_cons_zero, List.set_cons_succ]
        have hN5d := HN6.out.below (below_drew (Below.refl _ _))
        have hg1' : W6.drew.grownBy w1 (vals6.getD fb.toNat undef).ownBlock := by rw [HVA6.out]; exact hg1
        obtain ⟨e1, e2, e3, e4⟩ := NN.after hN5d fb a2 a3 hg1'
        have e5 : w1.cell? ⟨X, 1, none⟩ = some (.int .i64 fb) := (blk_cell (e4 X _ HXb5.out) 1).trans rfl
        rw [HVA6.out] at e2
        have HN6t := Aside0.mk (NN.append hN5d fb a2 a3 (2 * i + 1) _ hr1 hg1' (by rw [HVA6.out]; exact hat1))
        have HX6t := Aside0.mk (NN.stored hN5d fb a2 a3 hg1' (.slice (some ⟨g1, 0, none⟩) (adj6.getD fb.toNat [] ++ [2 * i + 1]).length k1))
        have HS6t := Aside0.mk (And.intro e1 (And.intro e5 e2))
        clear hr1 hg1 hat1 hN5d hg1' e4 e1 e5
        refine ⟨.inr HS6t.out, ?_⟩
        refine wpAnyT_one (i := 19) rfl rfl (by decide +kernel) ?_
        unfold Oper.wp
        go_simp
        refine ⟨⟨HS6t.out.1, HS6t.out.2.1⟩, ?_⟩
        refine wpAnyT_one (i := 20) rfl rfl (by decide +kernel) ?_
        unfold Oper.wp
        go_simp
        refine wpAnyT_done (by decide +kernel) ?_ _
        refine NoPanic.normal ?_
        have hX6 := HX6t.out.2.2 X _ HXb5.out
        have hN6 := HN6t.out
        obtain ⟨W7, hW6⟩ : ∃ W6, w1.setCell ⟨Ab, fb.toNat, none⟩ (.slice (some ⟨g1, 0, none⟩) (adj6.getD fb.toNat [] ++ [2 * i + 1]).length k1) = W6 := ⟨_, rfl⟩
        rw [hW6] at hX6 hN6
        simp only [List.length_append, List.length_cons, List.length_nil, Nat.zero_add, List.getD_eq_getElem?_getD] at hW6
        rw [hW6]
        have HNb6 := Aside0.mk hN6
        have HXb6 := Aside0.mk hX6
        clear hW6 hX6 hN6 HN6t HX6t HS6t HKA6 HS6 HFR6 HR6 HB6 HZ6 HLr6 ho6 HVA6 e2 e3 hw1 hw2
        go_wp2_with fail
        go_roundw
        case rel =>
          refine ⟨i + 1, adjStep adj (rd_T61 l i) i, rfl, by omega, by omega, ⟨?_⟩, ⟨?_⟩, ⟨?_⟩⟩
          · have := HI.out
            rw [hd.out, adjOf] at this; exact this
          · unfold adjStep; rw [FA.out.1, FA.out.2, HA6.out]; exact ⟨_, HNb6.out⟩
          · intro j
            unfold adjStep; rw [FA.out.1, FA.out.2, HA6.out]
            have := addAt_len adj6 fb (2 * i + 1) (2 * i.toNat + 1) HL6.out j
            omega
        case measure => simp [intOf]; omega
      · have b0 : decide (i < (l.length : Int)) = false := decide_eq_false hlt
        have hI := HI.out
        rw [List.drop_eq_nil_of_le (by omega), adjOf] at hI
        have HI' := Aside0.mk hI
        clear hI
        go_wp2
        go_ret
        exact ⟨G, F, Ab, rfl, by rw [← HI'.out, HCF.out]; exact HN.out⟩
end Go.Proofs.Ytadeidhefjifaaa.Px
