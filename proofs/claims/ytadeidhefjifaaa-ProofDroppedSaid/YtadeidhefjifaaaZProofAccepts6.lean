/- Parts of the proof of ProofAccepts, put together from several texts (words that the printing program wrote for this claim, walks, plain facts): the declarations that this law needs. -/
import Derived.Test.YtadeidhefjifaaaZProofAccepts5
import Derived.Deep.DrawnRows
import Derived.Deep.LoopGhost
import Derived.Deep.RegionHeld3
import Derived.Laws.BitsLemmas
import Derived.Laws.CopyOwn
import Derived.RangeFuncLeaves
import Derived.RangeFuncWrites
import Derived.WalkMore
section
set_option linter.unusedVariables false
set_option linter.unusedSimpArgs false
namespace Go.Proofs.Ytadeidhefjifaaa.Px
open Go.RowKit Go.Proofs.YtadeidhefjifaaaW.PrintWords Go.Proofs.YtadeidhefjifaaaW.PrintLast Go.Proofs.YtadeidhefjifaaaW.PrintMore
attribute [local go_sem ↓] Go.wp_at_zero Go.wp_at_succ
section
variable {w0 W W1 : World} {G F Ab : Nat} {A : Option Addr} {c : Nat} {l : List S61} {cF : Array Value} {n : Nat} {vals : List Value} {adj : List (List Int)}
theorem NN.cells (h : NN w0 W G F Ab A c l cF n vals adj) (u : Int) (h0 : 0 ≤ u) (h1 : u < n) : W.cell? ⟨G, 2, none⟩ = some (.slice (some ⟨Ab, 0, none⟩) n n) ∧ W.cell? ⟨Ab, u.toNat, none⟩ = some (vals.getD u.toNat undef) ∧ W.frozen? ⟨Ab, u.toNat, none⟩ = false := by
  have hlv : vals.length = n := by have := h.hO.1; omega
  refine ⟨(blk_cell h.hG 2).trans rfl, ?_, h.hO.frozenAt _⟩
  have hu : u.toNat < vals.length := by omega
  have := h.hO.cellAt u.toNat (by omega)
  rw [this]; simp [List.getD, hu]
/-- what an append to a list leaves as it was -/
theorem NN.after (h : NN w0 W G F Ab A c l cF n vals adj) (u : Int) (h0 : 0 ≤ u) (h1 : u < n) (hg : W.grownBy W1 (vals.getD u.toNat undef).ownBlock) :
    W1.cell? ⟨G, 2, none⟩ = some (.slice (some ⟨Ab, 0, none⟩) n n) ∧ W1.cell? ⟨Ab, u.toNat, none⟩ = some (vals.getD u.toNat undef) ∧ W1.frozen? ⟨Ab, u.toNat, none⟩ = false ∧
    ∀ (X : Nat) (cs : Array Value), W.heap[X]? = some (Obj.cells cs 61 (0, 0)) → W1.heap[X]? = some (Obj.cells cs 61 (0, 0)) := by
  have ho := h.hrow u.toNat (by omega)
  have hne : ∀ (g : Nat) (t : TypeId) (cs : Array Value), W.heap[g]? = some (Obj.cells cs t (0, 0)) → t ≠ 3 → some g ≠ (vals.getD u.toNat undef).ownBlock := fun g t cs hg' ht e => by
    obtain ⟨cells, hc⟩ := Kd.R_typed ho g e.symm
    rw [hc] at hg'
    simp at hg'; exact ht hg'.2.symm
  obtain ⟨c1, c2, c3⟩ := h.cells u h0 h1
  have hA : ∃ cells, W.heap[Ab]? = some (.cells cells 23 (0, 0)) := by
    rcases h.hO.2 with ⟨e, _⟩ | ⟨g, cap, cur, e, _, hh, _⟩
    · simp at e
    · simp at e; obtain ⟨rfl, -⟩ := e; exact ⟨cur, hh⟩
  obtain ⟨cA, hA⟩ := hA
  have e1 := hg.block G (lt_of_block h.hG) (hne _ 81 _ h.hG (by decide))
  have e2 := hg.block Ab (lt_of_block hA) (hne _ 23 _ hA (by decide))
  exact ⟨(World.cell?_of_block (a := ⟨G, 2, none⟩) e1).trans c1, (World.cell?_of_block (a := ⟨Ab, u.toNat, none⟩) e2).trans c2, (World.frozen?_of_block (a := ⟨Ab, u.toNat, none⟩) e2).trans c3,
    fun X cs hX => (hg.block X (lt_of_block hX) (hne _ 61 _ hX (by decide))).trans hX⟩
end
def NNs (w0 W : World) (G F Ab : Nat) (A : Option Addr) (c : Nat) (l : List S61) (cF : Array Value) (n : Nat) (adj : List (List Int)) : Prop := ∃ vals, NN w0 W G F Ab A c l cF n vals adj
section
variable {w0 W W1 : World} {G F Ab : Nat} {A : Option Addr} {c : Nat} {l : List S61} {cF : Array Value} {n : Nat} {vals : List Value} {adj : List (List Int)}
/-- the cells behind a store into the row of rows -/
theorem NN.stored (h : NN w0 W G F Ab A c l cF n vals adj) (u : Int) (h0 : 0 ≤ u) (h1 : u < n) (hg : W.grownBy W1 (vals.getD u.toNat undef).ownBlock) (v : Value) :
    (W1.setCell ⟨Ab, u.toNat, none⟩ v).cell? ⟨G, 2, none⟩ = some (.slice (some ⟨Ab, 0, none⟩) n n) ∧ (W1.setCell ⟨Ab, u.toNat, none⟩ v).cell? ⟨Ab, u.toNat, none⟩ = some v ∧
    ∀ (X : Nat) (cs : Array Value), W.heap[X]? = some (Obj.cells cs 61 (0, 0)) → (W1.setCell ⟨Ab, u.toNat, none⟩ v).heap[X]? = some (Obj.cells cs 61 (0, 0)) := by
  obtain ⟨e1, e2, e3, e4⟩ := h.after u h0 h1 hg
  have hA : ∃ cells, W.heap[Ab]? = some (Obj.cells cells 23 (0, 0)) := by
    rcases h.hO.2 with ⟨e, _⟩ | ⟨g, cap, cur, e, _, hh, _⟩
    · simp at e
    · simp at e; obtain ⟨rfl, -⟩ := e; exact ⟨cur, hh⟩
  obtain ⟨cA, hA⟩ := hA
  have GA : G ≠ Ab := fun e => by have := h.hG; rw [e, hA] at this; simp at this
  refine ⟨?_, World.cell?_setCell_same' _ _ _ (by rw [e2]; rfl), fun X cs hX => ?_⟩
  · rw [World.cell?_of_block (w := W1) (a := ⟨G, 2, none⟩) (Below.heap_setCell W1 ⟨Ab, u.toNat, none⟩ v G GA)]; exact e1
  · have XA : X ≠ Ab := fun e => by rw [e, hA] at hX; simp at hX
    rw [Below.heap_setCell W1 ⟨Ab, u.toNat, none⟩ v X XA]; exact e4 X cs hX
end
theorem addAt_len (adj : List (List Int)) (u y : Int) (k : Nat) (h : ∀ j, (adj.getD j []).length ≤ k) (j : Nat) : ((addAt adj u y).getD j []).length ≤ k + 1 := by
  unfold addAt
  by_cases e : u.toNat = j
  · subst e
    by_cases hl : u.toNat < adj.length
    · rw [getD_set_self _ _ _ _ hl]; have := h u.toNat; simp only [List.length_append, List.length_cons, List.length_nil]; omega
    · rw [List.set_eq_of_length_le (by omega)]; have := h u.toNat; omega
  · rw [getD_set_ne _ _ _ _ _ e]; have := h j; omega
theorem blk3_2 (w : World) (o1 o2 o3 : Obj) : (((w.alloc o1).alloc o2).alloc o3).drew.heap[w.heap.size + 1 + 1]? = some o3 := by
  have := heap_alloc_new ((w.alloc o1).alloc o2) o3
  show (((w.alloc o1).alloc o2).alloc o3).heap[w.heap.size + 1 + 1]? = some o3
  simpa using this
theorem blk3_1 (w : World) (o1 o2 o3 : Obj) : (((w.alloc o1).alloc o2).alloc o3).drew.heap[w.heap.size + 1]? = some o2 := by
  have h1 := heap_alloc_new (w.alloc o1) o2
  have h2 := Below.heap_alloc ((w.alloc o1).alloc o2) o3 (w.heap.size + 1) (by simp)
  exact h2.trans (by simpa using h1)
theorem blk3_0 (w : World) (o1 o2 o3 : Obj) : (((w.alloc o1).alloc o2).alloc o3).drew.heap[w.heap.size]? = some o1 := by
  have h1 := heap_alloc_new w o1
  have h2 := Below.heap_alloc (w.alloc o1) o2 w.heap.size (by simp)
  have h3 := Below.heap_alloc ((w.alloc o1).alloc o2) o3 w.heap.size (by simp; omega)
  exact h3.trans (h2.trans h1)
theorem repl_nil (n j : Nat) : (List.replicate n ([] : List Int)).getD j [] = [] := by
  rcases Nat.lt_or_ge j n with h | h <;> simp [List.getD, h]
/-- what newNetwork hands back -/
def NetMade (w : World) (A : Option Addr) (c : Nat) (l : List S61) (n : Nat) (e : Ending) (w' : World) : Prop := ∃ G F Ab : Nat, e = .returned (.pointer (some ⟨G, 0, none⟩)) ∧ NNs w w' G F Ab A c l (madeCells #[.int .i64 0] l.length) n (adjOf l 0 (List.replicate n []))
theorem of_wanted {ops : Array Oper} {o : Oper} {a : Act} {p q : Prop} (hg : o.guard = none) (h : if Region.wanted o (yielded ops a.tmps) = true then p else q) : p := by
  rwa [if_pos (by unfold Region.wanted; rw [hg])] at h
theorem rd_mem (l : List S61) (i : Int) (h0 : 0 ≤ i) (h : i < l.length) : l[i.toNat]'(by omega) = rd_T61 l i := by
  simp [rd_T61, List.getD, show i.toNat < l.length by omega]
set_option maxHeartbeats 4000000 in
set_option maxRecDepth 100000 in
theorem newNetwork_calls (w : World) (n : Nat) (A : Option Addr) (c : Nat) (l : List S61) (hE : Kd.C k61 w A l.length l) (hc : l.length ≤ c) (hm : l.length ≤ 65536) (hn : n ≤ 4096)
    (hv : ∀ x ∈ l, (0 ≤ x.f0 ∧ x.f0 < n) ∧ (0 ≤ x.f1 ∧ x.f1 < n)) :
    Calls Try.prog 48 #[.int .i64 n, .slice A l.length c] w (NetMade w A c l n) := by
  have hu81 := Try.underlying81
  have hu61 := Try.underlying61
  obtain ⟨cF, hcF⟩ : ∃ x, madeCells #[.int .i64 0] l.length = x := ⟨_, rfl⟩
  obtain ⟨cA, hcA⟩ : ∃ x, madeCells #[.slice none 0 0] n = x := ⟨_, rfl⟩
  have hmF : ∀ W : World, (Instr.makeSlice 23 (.int .i64 (l.length : Int)) (.int .i64 (l.length : Int))).run Try.prog W = .ok (.slice (some ⟨W.heap.size, 0, none⟩) l.length l.length) (W.alloc (.cells cF 3)) := fun W => by
    rw [← hcF]; exact run_make_row' 23 3 (.int .i64 0) 8 Try.underlying23 info3 rfl .i64 .i64 l.length (by omega) (by omega) W
  have hmA : ∀ W : World, (Instr.makeSlice 79 (.int .i64 (n : Int)) (.int .i64 (n : Int))).run Try.prog W = .ok (.slice (some ⟨W.heap.size, 0, none⟩) n n) (W.alloc (.cells cA 23)) := fun W => by
    rw [← hcA]; exact run_make_row' 79 23 (.slice none 0 0) 24 Try.underlying79 (by kernel_rfl) rfl .i64 .i64 n (by omega) (by omega) W
  have HCA := Aside0.mk hcA
  have HCF := Aside0.mk hcF
  have HE := Aside0.mk hE
  have HV := Aside0.mk hv
  clear hcF hcA hE hv
  have hmi : (l.length : Int) ≤ 65536 := by omega
  go_enter Try.func48, Try.ntmps48
  go_upto_region 1 with (fail)
  go_cut [5] (fun v5 wc => ∃ G F Ab : Nat, v5 = .pointer (some ⟨G, 0, none⟩) ∧ Aside0 (NNs w wc G F Ab A c l cF n (List.replicate n [])))
  case first =>
    have hb3 : ∀ o1 o2 o3, Below w.heap.size w (((w.alloc o1).alloc o2).alloc o3).drew := fun o1 o2 o3 => below_drew (below_alloc (below_alloc (below_alloc (Below.refl _ _) o1) o2) o3)
    have HB3 := Aside0.mk hb3
    clear hb3
    go_wp2
    go_region
    all_goals go_wp2
    all_goals go_meet
    · case rel => exact ⟨w.heap.size + 1 + 1, w.heap.size, w.heap.size + 1, rfl, ⟨⟨_, NN.start hn (blk3_2 _ _ _ _) (blk3_0 _ _ _ _) ((blk3_1 _ _ _ _).trans (by rw [HCA.out])) (HB3.out _ _ _) (by omega) (by omega) (by omega)⟩⟩⟩
    · case rel => exact ⟨w.heap.size + 1 + 1, w.heap.size + 1, w.heap.size, rfl, ⟨⟨_, NN.start hn (blk3_2 _ _ _ _) (blk3_1 _ _ _ _) ((blk3_0 _ _ _ _).trans (by rw [HCA.out])) (HB3.out _ _ _) (by omega) (by omega) (by omega)⟩⟩⟩
  case rest =>
    clear hmF hmA
    obtain ⟨G, F, Ab, rfl, HN⟩ := hcut
    go_wp2_with fail
    go_loopw [18] (fun v wr => ∃ (i : Int) (adj : List (List Int)), v = .int .i64 i ∧ 0 ≤ i ∧ i ≤ l.length ∧ Aside0 (adjOf (l.drop i.toNat) i adj = adjOf l 0 (List.replicate n [])) ∧ Aside0 (NNs w wr G F Ab A c l cF n adj) ∧ Aside0 (∀ j, (adj.getD j []).length ≤ 2 * i.toNat)) (fun v _ => l.length - (intOf v).toNat)
    case atStart => exact ⟨0, _, rfl, by omega, by omega, ⟨rfl⟩, HN, ⟨fun j => by rw [repl_nil]; simp⟩⟩
    case round =>
      clear HN
      obtain ⟨i, adj, rfl, h0, h1, HI, HN, HLN⟩ := hrel
      by_cases hlt : i < l.length
      · have b0 : decide (i < (l.length : Int)) = true := decide_eq_true hlt
        have b1 : decide (0 ≤ i) = true := decide_eq_true h0
        obtain ⟨vals, hN⟩ := HN.out
        obtain ⟨ad, e, x0, x1, x2⟩ := at_T61 (Kd.C_below HE.out hN.hW) i h0 hlt
        cases e
        have hd := Aside0.mk (drop_rd l i h0 hlt)
        have HN2 := Aside0.mk hN
        have hvi := HV.out (rd_T61 l i) (by rw [← rd_mem l i h0 hlt]; exact List.getElem_mem _)
        clear hN HN
        go_upto_region 5 with (fail)
        obtain ⟨fa, hfa⟩ : ∃ x, (rd_T61 l i).f0 = x := ⟨_, rfl⟩
        obtain ⟨fb, hfb⟩ : ∃ x, (rd_T61 l i).f1 = x := ⟨_, rfl⟩
        obtain ⟨fc, hfc⟩ : ∃ x, (rd_T61 l i).f2 = x := ⟨_, rfl⟩
        rw [hfa, hfb, hfc]
        rw [hfa, hfb] at hvi
        obtain ⟨⟨a0, a1⟩, a2, a3⟩ := hvi
        obtain ⟨W5, hW5⟩ : ∃ W5, wr.alloc (Obj.cells #[Value.int IntKind.i64 fa, Value.int IntKind.i64 fb, Value.int IntKind.i64 fc] 61) = W5 := ⟨_, rfl⟩
        have hN5 := HN2.out.below (show Below wr.heap.size wr W5 by rw [← hW5]; exact below_alloc (Below.refl _ _) _)
        have hX5 : W5.heap[wr.heap.size]? = some (.cells #[.int .i64 fa, .int .i64 fb, .int .i64 fc] 61 (0, 0)) := by rw [← hW5]; exact heap_alloc_new wr _
        rw [hW5]
        obtain ⟨X, hX⟩ : ∃ X, wr.heap.size = X := ⟨_, rfl⟩
        rw [hX] at hX5 ⊢
        have FA := Aside0.mk (And.intro hfa hfb)
        clear hW5 hX hfa hfb hfc HN2 x0 x1 x2
        have HN5 := Aside0.mk hN5
        have HX5 := Aside0.mk hX5
        clear hN5 hX5
        obtain ⟨c1, c2, c3⟩ := HN5.out.cells fa a0 a1
        have d0 : W5.cell? ⟨X, 0, none⟩ = some (.int .i64 fa) := (blk_cell HX5.out 0).trans rfl
        have ho5 := Aside0.mk (HN5.out.hrow fa.toNat (by omega))
        obtain ⟨va5, hva⟩ : ∃ va, vals.getD fa.toNat undef = va := ⟨_, rfl⟩
        rw [hva] at c2 ho5
        have HVA5 := Aside0.mk hva
        clear hva
        have HFR5 := Aside0.mk (show ∀ k, W5.drew.heap.size ≤ k → k ≠ F from fun k hk e => by have := lt_of_block HN5.out.hF; have hk' : W5.heap.size ≤ k := hk; omega)
        have HR5 := Aside0.mk (show Kd.R (Kd.int .i64) 3 W5.drew w.heap.size (fun k => k ≠ F) va5 (adj.getD fa.toNat []) from Kd.R_drew ho5.out)
        have HB5 := Aside0.mk (show Below w.heap.size w W5.drew from below_drew HN5.out.hW)
        have HZ5 := Aside0.mk (show w.heap.size ≤ W5.drew.heap.size from HB5.out.size)
        have HLr5 := Aside0.mk (show ((adj.getD fa.toNat []).length + 1) * 8 ≤ 140737488355328 by have := HLN.out fa.toNat; omega)
        have HS5 := Aside0.mk (show W5.drew.cell? ⟨G, 2, none⟩ = some (.slice (some ⟨Ab, 0, none⟩) n n) ∧ W5.drew.cell? ⟨X, 0, none⟩ = some (.int .i64 fa) ∧ W5.drew.cell? ⟨Ab, fa.toNat, none⟩ = some va5 from ⟨c1, d0, c2⟩)
        have HKA5 := Aside0.mk (show (W5.alloc (Obj.cells #[.int .i64 (2 * i)] 3)).cell? ⟨G, 2, none⟩ = some (.slice (some ⟨Ab, 0, none⟩) n n) ∧ (W5.alloc (Obj.cells #[.int .i64 (2 * i)] 3)).cell? ⟨X, 0, none⟩ = some (.int .i64 fa) ∧ (W5.alloc (Obj.cells #[.int .i64 (2 * i)] 3)).cell? ⟨Ab, fa.toNat, none⟩ = some va5 from ⟨cell_lt c1 _, cell_lt d0 _, cell_lt c2 _⟩)
        clear c1 d0 c2 c3
        have hw1 : IntKind.i64.wrap (2 * i) = 2 * i := IntWalk.i64_in _ (by omega)
        refine wp_region_noPanic ?_
        refine wp_region_T (by kernel_rfl) (fun w' => w'.cell? ⟨G, 2, none⟩ = some (.slice (some ⟨Ab, 0, none⟩) n n) ∧ w'.cell? ⟨X, 0, none⟩ = some (.int .i64 fa) ∧ w'.cell? ⟨Ab, fa.toNat, none⟩ = some va5) 19 ?_
        refine wpAnyT_take (i := 0) (v := (.pointer (some ⟨G, 0, none⟩))) (by decide +kernel) (by decide) rfl (by decide +kernel) (by decide +kernel) (by decide +kernel) (fun _ _ _ h => h) (.inl ⟨rfl, fun w' hS' => ?_⟩) HS5.out ?_
        · obtain ⟨s1, s2, s3⟩ := hS'; go_simp; done
        simp only [Act.put, List.setIfInBounds_toArray, List.set_cons_zero, List.set_cons_succ]
        refine wpAnyT_take (i := 1) (v := (.pointer (some ⟨G, 0, none⟩))) (by decide +kernel) (by decide) rfl (by decide +kernel) (by decide +kernel) (by decide +kernel) (fun _ _ _ h => h) (.inl ⟨rfl, fun w' hS' => ?_⟩) HS5.out ?_
        · obtain ⟨s1, s2, s3⟩ := hS'; go_simp; done
        simp only [Act.put, List.setIfInBounds_toArray, List.set_cons_zero, List.set_cons_succ]
        refine wpAnyT_take (i := 2) (v := (.pointer (some ⟨G, 2, none⟩))) (by decide +kernel) (by decide) rfl (by decide +kernel) (by decide +kernel) (by decide +kernel) (fun _ _ _ h => h) (.inl ⟨rfl, fun w' hS' => ?_⟩) HS5.out ?_
        · obtain ⟨s1, s2, s3⟩ := hS'; go_simp; done
        simp only [Act.put, List.setIfInBounds_toArray, List.set_cons_zero, List.set_cons_succ]
        refine wpAnyT_take (i := 3) (v := (.slice (some ⟨Ab, 0, none⟩) n n)) (by decide +kernel) (by decide) rfl (by decide +kernel) (by decide +kernel) (by decide +kernel) (fun _ _ _ h => h) (.inl ⟨rfl, fun w' hS' => ?_⟩) HS5.out ?_
        · obtain ⟨s1, s2, s3⟩ := hS'; go_simp; done
        simp only [Act.put, List.setIfInBounds_toArray, List.set_cons_zero, List.set_cons_succ]
        refine wpAnyT_take (i := 4) (v := (.pointer (some ⟨X, 0, none⟩))) (by decide +kernel) (by decide) rfl (by decide +kernel) (by decide +kernel) (by decide +kernel) (fun _ _ _ h => h) (.inl ⟨rfl, fun w' hS' => ?_⟩) HS5.out ?_
        · obtain ⟨s1, s2, s3⟩ := hS'; go_simp; done
        simp only [Act.put, List.setIfInBounds_toArray, List.set_cons_zero, List.set_cons_succ]
        refine wpAnyT_take (i := 5) (v := (.int .i64 fa)) (by decide +kernel) (by decide) rfl (by decide +kernel) (by decide +kernel) (by decide +kernel) (fun _ _ _ h => h) (.inl ⟨rfl, fun w' hS' => ?_⟩) HS5.out ?_
        · obtain ⟨s1, s2, s3⟩ := hS'; go_simp; done
        simp only [Act.put, List.setIfInBounds_toArray, List.set_cons_zero, List.set_cons_succ]
        refine wpAnyT_take (i := 6) (v := (.pointer (some ⟨G, 0, none⟩))) (by decide +kernel) (by decide) rfl (by decide +kernel) (by decide +kernel) (by decide +kernel) (fun _ _ _ h => h) (.inl ⟨rfl, fun w' hS' => ?_⟩) HS5.out ?_
        · obtain ⟨s1, s2, s3⟩ := hS'; go_simp; done
        simp only [Act.put, List.setIfInBounds_toArray, List.set_cons_zero, List.set_cons_succ]
        refine wpAnyT_take (i := 7) (v := (.pointer (some ⟨G, 0, none⟩))) (by decide +kernel) (by decide) rfl (by decide +kernel) (by decide +kernel) (by decide +kernel) (fun _ _ _ h => h) (.inl ⟨rfl, fun w' hS' => ?_⟩) HS5.out ?_
        · obtain ⟨s1, s2, s3⟩ := hS'; go_simp; done
        simp only [Act.put, List.setIfInBounds_toArray, List.set_cons_zero, List.set_cons_succ]
        refine wpAnyT_take (i := 8) (v := (.pointer (some ⟨G, 2, none⟩))) (by decide +kernel) (by decide) rfl (by decide +kernel) (by decide +kernel) (by decide +kernel) (fun _ _ _ h => h) (.inl ⟨rfl, fun w' hS' => ?_⟩) HS5.out ?_
        · obtain ⟨s1, s2, s3⟩ := hS'; go_simp; done
        simp only [Act.put, List.setIfInBounds_toArray, List.set_cons_zero, List.set_cons_succ]
        refine wpAnyT_take (i := 9) (v := (.slice (some ⟨Ab, 0, none⟩) n n)) (by decide +kernel) (by decide) rfl (by decide +kernel) (by decide +kernel) (by decide +kernel) (fun _ _ _ h => h) (.inl ⟨rfl, fun w' hS' => ?_⟩) HS5.out ?_
        · obtain ⟨s1, s2, s3⟩ := hS'; go_simp; done
        simp only [Act.put, List.setIfInBounds_toArray, List.set_cons_zero, List.set_cons_succ]
        refine wpAnyT_take (i := 10) (v := (.pointer (some ⟨X, 0, none⟩))) (by decide +kernel) (by decide) rfl (by decide +kernel) (by decide +kernel) (by decide +kernel) (fun _ _ _ h => h) (.inl ⟨rfl, fun w' hS' => ?_⟩) HS5.out ?_
        · obtain ⟨s1, s2, s3⟩ := hS'; go_simp; done
        simp only [Act.put, List.setIfInBounds_toArray, List.set_cons_zero, List.set_cons_succ]
        refine wpAnyT_take (i := 11) (v := (.int .i64 fa)) (by decide +kernel) (by decide) rfl (by decide +kernel) (by decide +kernel) (by decide +kernel) (fun _ _ _ h => h) (.inl ⟨rfl, fun w' hS' => ?_⟩) HS5.out ?_
        · obtain ⟨s1, s2, s3⟩ := hS'; go_simp; done
        simp only [Act.put, List.setIfInBounds_toArray, List.set_cons_zero, List.set_cons_succ]
        refine wpAnyT_take (i := 12) (v := (.pointer (some ⟨Ab, fa.toNat, none⟩))) (by decide +kernel) (by decide) rfl (by decide +kernel) (by decide +kernel) (by decide +kernel) (fun _ _ _ h => h) (.inl ⟨rfl, fun w' hS' => ?_⟩) HS5.out ?_
        · obtain ⟨s1, s2, s3⟩ := hS'; go_simp; done
        simp only [Act.put, List.setIfInBounds_toArray, List.set_cons_zero, List.set_cons_succ]
        refine wpAnyT_take (i := 13) (v := va5) (by decide +kernel) (by decide) rfl (by decide +kernel) (by decide +kernel) (by decide +kernel) (fun _ _ _ h => h) (.inl ⟨rfl, fun w' hS' => ?_⟩) HS5.out ?_
        · obtain ⟨s1, s2, s3⟩ := hS'; go_simp; done
        simp only [Act.put, List.setIfInBounds_toArray, List.set_cons_zero, List.set_cons_succ]
        refine wpAnyT_take (i := 14) (v := (.int .i64 i)) (by decide +kernel) (by decide) rfl (by decide +kernel) (by decide +kernel) (by decide +kernel) (fun _ _ _ h => h) (.inl ⟨rfl, fun w' hS' => ?_⟩) HS5.out ?_
        · obtain ⟨s1, s2, s3⟩ := hS'; go_simp; done
        simp only [Act.put, List.setIfInBounds_toArray, List.set_cons_zero, List.set_cons_succ]
        refine wpAnyT_take (i := 15) (v := (.int .i64 (2 * i))) (by decide +kernel) (by decide) rfl (by decide +kernel) (by decide +kernel) (by decide +kernel) (fun _ _ _ h => h) (.inl ⟨rfl, fun w' hS' => ?_⟩) HS5.out ?_
        · obtain ⟨s1, s2, s3⟩ := hS'; go_simp; done
        simp only [Act.put, List.setIfInBounds_toArray, List.set_cons_zero, List.set_cons_succ]
        refine wpAnyT_one (i := 16) rfl rfl (by decide +kernel) ?_
        unfold Oper.wp
        go_simp
        refine ⟨HKA5.out, ?_⟩
        refine wpAnyT_one (i := 17) rfl rfl (by decide +kernel) ?_
        refine of_wanted (ops := #[]) rfl (Kd.R_append_step (Kd.int .i64) (w0 := w) (W := W5.drew) w.heap.size rfl (.tmp 36) (.tmp 39) 23 3 (.int .i64 0) 8 rfl Try.underlying23 info3 rfl (by decide) (by decide) va5 (adj.getD fa.toNat []) (2 * i) [.int .i64 (2 * i)] (fun k => k ≠ F) (fun _ => False) rfl rfl rfl (fun _ h => h.elim) HFR5.out HR5.out HB5.out HZ5.out HLr5.out ?_)
        intro v1 w1 hr1 hb1 hg1 hat1
        obtain ⟨g1, k1, rfl, hf1, hf2, hf3⟩ := Kd.R_form hr1 (by simp)
        clear hf1 hf2 hf3 hb1
        simp only [Act.put, List.setIfInBounds_toArray, List.set_cons_zero, List.set_cons_succ]
        have hN5d := HN5.out.below (below_drew (Below.refl _ _))
        have hg1' : W5.drew.grownBy w1 (vals.getD fa.toNat undef).ownBlock := by rw [HVA5.out]; exact hg1
        obtain ⟨e1, e2, e3, e4⟩ := NN.after hN5d fa a0 a1 hg1'
        have e5 : w1.cell? ⟨X, 0, none⟩ = some (.int .i64 fa) := (blk_cell (e4 X _ HX5.out) 0).trans rfl
        rw [HVA5.out] at e2
        have HN6t := Aside0.mk (NN.append hN5d fa a0 a1 (2 * i) _ hr1 hg1' (by rw [HVA5.out]; exact hat1))
        have HX6t := Aside0.mk (NN.stored hN5d fa a0 a1 hg1' (.slice (some ⟨g1, 0, none⟩) (adj.getD fa.toNat [] ++ [2 * i]).length k1))
        have HS6t := Aside0.mk (And.intro e1 (And.intro e5 e2))
        clear hr1 hg1 hat1 hN5d hg1' e4 e1 e5
        refine ⟨.inr HS6t.out, ?_⟩
        refine wpAnyT_one (i := 18) rfl rfl (by decide +kernel) ?_
        unfold Oper.wp
        go_simp
        refine ⟨⟨HS6t.out.1, HS6t.out.2.1⟩, ?_⟩
        refine wpAnyT_one (i := 19) rfl rfl (by decide +kernel) ?_
        unfold Oper.wp
        go_simp
        refine wpAnyT_done (by decide +kernel) ?_ _
        refine NoPanic.normal ?_
        have hX6 := HX6t.out.2.2 X _ HX5.out
        have hN6 := HN6t.out
        obtain ⟨W6, hW6⟩ : ∃ W6, w1.setCell ⟨Ab, fa.toNat, none⟩ (.slice (some ⟨g1, 0, none⟩) (adj.getD fa.toNat [] ++ [2 * i]).length k1) = W6 := ⟨_, rfl⟩
        rw [hW6] at hX6 hN6
        simp only [List.length_append, List.length_cons, List.length_nil, Nat.zero_add, List.getD_eq_getElem?_getD] at hW6
        rw [hW6]
        have HNb5 := Aside0.mk hN6
        have HXb5 := Aside0.mk hX6
        clear hW6 hX6 hN6 HN6t HX6t HS6t HKA5 HS5 HFR5 HR5 HB5 HZ5 HLr5 ho5 HVA5 e2 e3 hw1
        go_wp2_with fail
        obtain ⟨vals6, hvals6⟩ : ∃ x, vals.set fa.toNat (Value.slice (some ⟨g1, 0, none⟩) (adj.getD fa.toNat [] ++ [2 * i]).length k1) = x := ⟨_, rfl⟩
        have hNb5 := HNb5.out
        rw [hvals6] at hNb5
        have HNc := Aside0.mk hNb5
        clear hvals6 hNb5 HNb5
        obtain ⟨adj6, hadj6⟩ : ∃ x, addAt adj fa (2 * i) = x := ⟨_, rfl⟩
        have hNc := HNc.out
        rw [hadj6] at hNc
        have HN6 := Aside0.mk hNc
        have HL6 := Aside0.mk (show ∀ j, (adj6.getD j []).length ≤ 2 * i.toNat + 1 from fun j => by rw [← hadj6]; exact addAt_len _ _ _ _ HLN.out j)
        have HA6 := Aside0.mk hadj6
        clear hNc HNc hadj6
        obtain ⟨c1, c2, c3⟩ := HN6.out.cells fb a2 a3
        have d0 : W6.cell? ⟨X, 1, none⟩ = some (.int .i64 fb) := (blk_cell HXb5.out 1).trans rfl
        have ho6 := Aside0.mk (HN6.out.hrow fb.toNat (by omega))
        obtain ⟨va6, hva⟩ : ∃ va, vals6.getD fb.toNat undef = va := ⟨_, rfl⟩
        rw [hva] at c2 ho6
        have HVA6 := Aside0.mk hva
        clear hva
        have HFR6 := Aside0.mk (show ∀ k, W6.drew.heap.size ≤ k → k ≠ F from fun k hk e => by have := lt_of_block HN6.out.hF; have hk' : W6.heap.size ≤ k := hk; omega)
        have HR6 := Aside0.mk (show Kd.R (Kd.int .i64) 3 W6.drew w.heap.size (fun k => k ≠ F) va6 (adj6.getD fb.toNat []) from Kd.R_drew ho6.out)
        have HB6 := Aside0.mk (show Below w.heap.size w W6.drew from below_drew HN6.out.hW)
        have HZ6 := Aside0.mk (show w.heap.size ≤ W6.drew.heap.size from HB6.out.size)
        have HLr6 := Aside0.mk (show ((adj6.getD fb.toNat []).length + 1) * 8 ≤ 140737488355328 by have := HL6.out fb.toNat; omega)
        have HS6 := Aside0.mk (show W6.drew.cell? ⟨G, 2, none⟩ = some (.slice (some ⟨Ab, 0, none⟩) n n) ∧ W6.drew.cell? ⟨X, 1, none⟩ = some (.int .i64 fb) ∧ W6.drew.cell? ⟨Ab, fb.toNat, none⟩ = some va6 from ⟨c1, d0, c2⟩)
        have HKA6 := Aside0.mk (show (W6.alloc (Obj.cells #[.int .i64 (2 * i + 1)] 3)).cell? ⟨G, 2, none⟩ = some (.slice (some ⟨Ab, 0, none⟩) n n) ∧ (W6.alloc (Obj.cells #[.int .i64 (2 * i + 1)] 3)).cell? ⟨X, 1, none⟩ = some (.int .i64 fb) ∧ (W6.alloc (Obj.cells #[.int .i64 (2 * i + 1)] 3)).cell? ⟨Ab, fb.toNat, none⟩ = some va6 from ⟨cell_lt c1 _, cell_lt d0 _, cell_lt c2 _⟩)
        clear c1 d0 c2 c3
        have hw1 : IntKind.i64.wrap (2 * i) = 2 * i := IntWalk.i64_in _ (by omega)
        have hw2 : IntKind.i64.wrap (2 * i + 1) = 2 * i + 1 := IntWalk.i64_in _ (by omega)
        refine wp_region_noPanic ?_
        refine wp_region_T (by kernel_rfl) (fun w' => w'.cell? ⟨G, 2, none⟩ = some (.slice (some ⟨Ab, 0, none⟩) n n) ∧ w'.cell? ⟨X, 1, none⟩ = some (.int .i64 fb) ∧ w'.cell? ⟨Ab, fb.toNat, none⟩ = some va6) 20 ?_
        refine wpAnyT_take (i := 0) (v := (.pointer (some ⟨G, 0, none⟩))) (by decide +kernel) (by decide) rfl (by decide +kernel) (by decide +kernel) (by decide +kernel) (fun _ _ _ h => h) (.inl ⟨rfl, fun w' hS' => ?_⟩) HS6.out ?_
        · obtain ⟨s1, s2, s3⟩ := hS'; go_simp; done
        simp only [Act.put, List.setIfInBounds_toArray, List.set_cons_zero, List.set_cons_succ]
        refine wpAnyT_take (i := 1) (v := (.pointer (some ⟨G, 0, none⟩))) (by decide +kernel) (by decide) rfl (by decide +kernel) (by decide +kernel) (by decide +kernel) (fun _ _ _ h => h) (.inl ⟨rfl, fun w' hS' => ?_⟩) HS6.out ?_
        · obtain ⟨s1, s2, s3⟩ := hS'; go_simp; done
        simp only [Act.put, List.setIfInBounds_toArray, List.set_cons_zero, List.set_cons_succ]
        refine wpAnyT_take (i := 2) (v := (.pointer (some ⟨G, 2, none⟩))) (by decide +kernel) (by decide) rfl (by decide +kernel) (by decide +kernel) (by decide +kernel) (fun _ _ _ h => h) (.inl ⟨rfl, fun w' hS' => ?_⟩) HS6.out ?_
        · obtain ⟨s1, s2, s3⟩ := hS'; go_simp; done
        simp only [Act.put, List.setIfInBounds_toArray, List.set_cons_zero, List.set_cons_succ]
        refine wpAnyT_take (i := 3) (v := (.slice (some ⟨Ab, 0, none⟩) n n)) (by decide +kernel) (by decide) rfl (by decide +kernel) (by decide +kernel) (by decide +kernel) (fun _ _ _ h => h) (.inl ⟨rfl, fun w' hS' => ?_⟩) HS6.out ?_
        · obtain ⟨s1, s2, s3⟩ := hS'; go_simp; done
        simp only [Act.put, List.setIfInBounds_toArray, List.set_cons_zero, List.set_cons_succ]
        refine wpAnyT_take (i := 4) (v := (.pointer (some ⟨X, 1, none⟩))) (by decide +kernel) (by decide) rfl (by decide +kernel) (by decide +kernel) (by decide +kernel) (fun _ _ _ h => h) (.inl ⟨rfl, fun w' hS' => ?_⟩) HS6.out ?_
        · obtain ⟨s1, s2, s3⟩ := hS'; go_simp; done
        simp only [Act.put, List.setIfInBounds_toArray, List.set_cons_zero, List.set_cons_succ]
        refine wpAnyT_take (i := 5) (v := (.int .i64 fb)) (by decide +kernel) (by decide) rfl (by decide +kernel) (by decide +kernel) (by decide +kernel) (fun _ _ _ h => h) (.inl ⟨rfl, fun w' hS' => ?_⟩) HS6.out ?_
        · obtain ⟨s1, s2, s3⟩ := hS'; go_simp; done
        simp only [Act.put, List.setIfInBounds_toArray, List.set_cons_zero, List.set_cons_succ]
        refine wpAnyT_take (i := 6) (v := (.pointer (some ⟨G, 0, none⟩))) (by decide +kernel) (by decide) rfl (by decide +kernel) (by decide +kernel) (by decide +kernel) (fun _ _ _ h => h) (.inl ⟨rfl, fun w' hS' => ?_⟩) HS6.out ?_
        · obtain ⟨s1, s2, s3⟩ := hS'; go_simp; done
        simp only [Act.put, List.setIfInBounds_toArray, List.set_cons_zero, List.set_cons_succ]
        refine wpAnyT_take (i := 7) (v := (.pointer (some ⟨G, 0, none⟩))) (by decide +kernel) (by decide) rfl (by decide +kernel) (by decide +kernel) (by decide +kernel) (fun _ _ _ h => h) (.inl ⟨rfl, fun w' hS' => ?_⟩) HS6.out ?_
        · obtain ⟨s1, s2, s3⟩ := hS'; go_simp; done
        simp only [Act.put, List.setIfInBounds_toArray, List.set_cons_zero, List.set_cons_succ]
        refine wpAnyT_take (i := 8) (v := (.pointer (some ⟨G, 2, none⟩))) (by decide +kernel) (by decide) rfl (by decide +kernel) (by decide +kernel) (by decide +kernel) (fun _ _ _ h => h) (.inl ⟨rfl, fun w' hS' => ?_⟩) HS6.out ?_
        · obtain ⟨s1, s2, s3⟩ := hS'; go_simp; done
        simp only [Act.put, List.setIfInBounds_toArray, List.set_cons_zero, List.set_cons_succ]
        refine wpAnyT_take (i := 9) (v := (.slice (some ⟨Ab, 0, none⟩) n n)) (by decide +kernel) (by decide) rfl (by decide +kernel) (by decide +kernel) (by decide +kernel) (fun _ _ _ h => h) (.inl ⟨rfl, fun w' hS' => ?_⟩) HS6.out ?_
        · obtain ⟨s1, s2, s3⟩ := hS'; go_simp; done
        simp only [Act.put, List.setIfInBounds_toArray, List.set_cons_zero, List.set_cons_succ]
        refine wpAnyT_take (i := 10) (v := (.pointer (some ⟨X, 1, none⟩))) (by decide +kernel) (by decide) rfl (by decide +kernel) (by decide +kernel) (by decide +kernel) (fun _ _ _ h => h) (.inl ⟨rfl, fun w' hS' => ?_⟩) HS6.out ?_
        · obtain ⟨s1, s2, s3⟩ := hS'; go_simp; done
        simp only [Act.put, List.setIfInBounds_toArray, List.set_cons_zero, List.set_cons_succ]
        refine wpAnyT_take (i := 11) (v := (.int .i64 fb)) (by decide +kernel) (by decide) rfl (by decide +kernel) (by decide +kernel) (by decide +kernel) (fun _ _ _ h => h) (.inl ⟨rfl, fun w' hS' => ?_⟩) HS6.out ?_
        · obtain ⟨s1, s2, s3⟩ := hS'; go_simp; done
        simp only [Act.put, List.setIfInBounds_toArray, List.set_cons_zero, List.set_cons_succ]
        refine wpAnyT_take (i := 12) (v := (.pointer (some ⟨Ab, fb.toNat, none⟩))) (by decide +kernel) (by decide) rfl (by decide +kernel) (by decide +kernel) (by decide +kernel) (fun _ _ _ h => h) (.inl ⟨rfl, fun w' hS' => ?_⟩) HS6.out ?_
        · obtain ⟨s1, s2, s3⟩ := hS'; go_simp; done
        simp only [Act.put, List.setIfInBounds_toArray, List.set_cons_zero, List.set_cons_succ]
        refine wpAnyT_take (i := 13) (v := va6) (by decide +kernel) (by decide) rfl (by decide +kernel) (by decide +kernel) (by decide +kernel) (fun _ _ _ h => h) (.inl ⟨rfl, fun w' hS' => ?_⟩) HS6.out ?_
        · obtain ⟨s1, s2, s3⟩ := hS'; go_simp; done
        simp only [Act.put, List.setIfInBounds_toArray, List.set_cons_zero, List.set_cons_succ]
        refine wpAnyT_take (i := 14) (v := (.int .i64 i)) (by decide +kernel) (by decide) rfl (by decide +kernel) (by decide +kernel) (by decide +kernel) (fun _ _ _ h => h) (.inl ⟨rfl, fun w' hS' => ?_⟩) HS6.out ?_
        · obtain ⟨s1, s2, s3⟩ := hS'; go_simp; done
        simp only [Act.put, List.setIfInBounds_toArray, List.set_cons_zero, List.set_cons_succ]
        refine wpAnyT_take (i := 15) (v := (.int .i64 (2 * i))) (by decide +kernel) (by decide) rfl (by decide +kernel) (by decide +kernel) (by decide +kernel) (fun _ _ _ h => h) (.inl ⟨rfl, fun w' hS' => ?_⟩) HS6.out ?_
        · obtain ⟨s1, s2, s3⟩ := hS'; go_simp; done
        simp only [Act.put, List.setIfInBounds_toArray, List.set_cons_zero, List.set_cons_succ]
        refine wpAnyT_take (i := 16) (v := (.int .i64 (2 * i + 1))) (by decide +kernel) (by decide) rfl (by decide +kernel) (by decide +kernel) (by decide +kernel) (fun _ _ _ h => h) (.inl ⟨rfl, fun w' hS' => ?_⟩) HS6.out ?_
        · obtain ⟨s1, s2, s3⟩ := hS'; go_simp; done
        simp only [Act.put, List.setIfInBounds_toArray, List.set_cons_zero, List.set_cons_succ]
        refine wpAnyT_one (i := 17) rfl rfl (by decide +kernel) ?_
        unfold Oper.wp
        go_simp
        refine ⟨HKA6.out, ?_⟩
        refine wpAnyT_one (i := 18) rfl rfl (by decide +kernel) ?_
        refine of_wanted (ops := #[]) rfl (Kd.R_append_step (Kd.int .i64) (w0 := w) (W := W6.drew) w.heap.size rfl (.tmp 55) (.tmp 59) 23 3 (.int .i64 0) 8 rfl Try.underlying23 info3 rfl (by decide) (by decide) va6 (adj6.getD fb.toNat []) (2 * i + 1) [.int .i64 (2 * i + 1)] (fun k => k ≠ F) (fun _ => False) rfl rfl rfl (fun _ h => h.elim) HFR6.out HR6.out HB6.out HZ6.out HLr6.out ?_)
        intro v1 w1 hr1 hb1 hg1 hat1
        obtain ⟨g1, k1, rfl, hf1, hf2, hf3⟩ := Kd.R_form hr1 (by simp)
        clear hf1 hf2 hf3 hb1
        simp only [Act.put, List.setIfInBounds_toArray, List.set_cons_zero, List.set_cons_succ]
        have hN5d := HN6.out.below (below_drew (Below.refl _ _))
        have hg1' : W6.drew.grownBy w1 (vals6.getD fb.toNat undef).ownBlock := by rw [HVA6.out]; exact hg1
        obtain ⟨e1, e2, e3, e4⟩ := NN.after hN5d fb a2 a3 hg1'
        have e5 : w1.cell? ⟨X, 1, none⟩ = some (.int .i64 fb) := (blk_cell (e4 X _ HXb5.out) 1).trans rfl
        rw [HVA6.out] at e2
        have HN6t := Aside0.mk (NN.append hN5d fb a2 a3 (2 * i + 1) _ hr1 hg1' (by rw [HVA6.out]; exact hat1))
        have HX6t := Aside0.mk (NN.stored hN5d fb a2 a3 hg1' (.slice (some ⟨g1, 0, none⟩) (adj6.getD fb.toNat [] ++ [2 * i + 1]).length k1))
        have HS6t := Aside0.mk (And.intro e1 (And.intro e5 e2))
        clear hr1 hg1 hat1 hN5d hg1' e4 e1 e5
        refine ⟨.inr HS6t.out, ?_⟩
        refine wpAnyT_one (i := 19) rfl rfl (by decide +kernel) ?_
        unfold Oper.wp
        go_simp
        refine ⟨⟨HS6t.out.1, HS6t.out.2.1⟩, ?_⟩
        refine wpAnyT_one (i := 20) rfl rfl (by decide +kernel) ?_
        unfold Oper.wp
        go_simp
        refine wpAnyT_done (by decide +kernel) ?_ _
        refine NoPanic.normal ?_
        have hX6 := HX6t.out.2.2 X _ HXb5.out
        have hN6 := HN6t.out
        obtain ⟨W7, hW6⟩ : ∃ W6, w1.setCell ⟨Ab, fb.toNat, none⟩ (.slice (some ⟨g1, 0, none⟩) (adj6.getD fb.toNat [] ++ [2 * i + 1]).length k1) = W6 := ⟨_, rfl⟩
        rw [hW6] at hX6 hN6
        simp only [List.length_append, List.length_cons, List.length_nil, Nat.zero_add, List.getD_eq_getElem?_getD] at hW6
        rw [hW6]
        have HNb6 := Aside0.mk hN6
        have HXb6 := Aside0.mk hX6
        clear hW6 hX6 hN6 HN6t HX6t HS6t HKA6 HS6 HFR6 HR6 HB6 HZ6 HLr6 ho6 HVA6 e2 e3 hw1 hw2
        go_wp2_with fail
        go_roundw
        case rel =>
          refine ⟨i + 1, adjStep adj (rd_T61 l i) i, rfl, by omega, by omega, ⟨?_⟩, ⟨?_⟩, ⟨?_⟩⟩
          · have := HI.out
            rw [hd.out, adjOf] at this; exact this
          · unfold adjStep; rw [FA.out.1, FA.out.2, HA6.out]; exact ⟨_, HNb6.out⟩
          · intro j
            unfold adjStep; rw [FA.out.1, FA.out.2, HA6.out]
            have := addAt_len adj6 fb (2 * i + 1) (2 * i.toNat + 1) HL6.out j
            omega
        case measure => simp [intOf]; omega
      · have b0 : decide (i < (l.length : Int)) = false := decide_eq_false hlt
        have hI := HI.out
        rw [List.drop_eq_nil_of_le (by omega), adjOf] at hI
        have HI' := Aside0.mk hI
        clear hI
        go_wp2
        go_ret
        exact ⟨G, F, Ab, rfl, by rw [← HI'.out, HCF.out]; exact HN.out⟩
end Go.Proofs.Ytadeidhefjifaaa.Px
end
section
set_option linter.unusedVariables false
set_option linter.unusedSimpArgs false
namespace Go.Proofs.Ytadeidhefjifaaa.Px
open Go.RowKit Go.Proofs.YtadeidhefjifaaaW.PrintWords Go.Proofs.YtadeidhefjifaaaW.PrintLast Go.Proofs.YtadeidhefjifaaaW.PrintMore
set_option maxHeartbeats 2000000 in
set_option maxRecDepth 100000 in
theorem mul_calls (w : World) (n : Nat) (hn : n ≤ 4096) : Calls Try.prog 89 #[.int .u64 1, .int .u64 n] w fun e w' => e = .returned (.tuple #[.int .u64 0, .int .u64 n]) ∧ w = w' := by
  have n0 : (0 : Int) ≤ n := by omega
  have n1 : (n : Int) ≤ 4096 := by omega
  have m1 : Go.bits .and .u64 1 4294967295 = 1 := by decide +kernel
  have mn : Go.bits .and .u64 (n : Int) 4294967295 = n := by
    have e : (4294967295 : Int) = ((4294967295 : Nat) : Int) := rfl
    rw [e, (bits_nat .u64 32 (by decide) (fun k h0 h1 => by simp [IntKind.wrap, IntKind.bits, IntKind.signed]; omega) n 4294967295 (by omega) (by omega)).1]
    rw [show (4294967295 : Nat) = 2 ^ 32 - 1 from rfl, Nat.and_two_pow_sub_one_eq_mod, Nat.mod_eq_of_lt (by omega)]
  have m0 : Go.bits .and .u64 0 4294967295 = 0 := by decide +kernel
  have hq : (n : Int) / 4294967296 = 0 := by omega
  have hwn : IntKind.u64.wrap (n : Int) = n := by simp [IntKind.wrap, IntKind.bits, IntKind.signed]; omega
  have hw0 : IntKind.u64.wrap 0 = 0 := by decide +kernel
  go_enter Try.func89, Try.ntmps89
  go_wp2
  go_ret2
  exact ⟨rfl, rfl⟩
theorem copy_wp {P : Program} {o : Oper} {a : Act} {w : World} {K : Act → World → Prop} {Q : Exit → Act → World → Prop} (hgd : o.guard = none) (d s : Operand) (dT sT : TypeId)
    (ho : o.op = .call { callee := .builtin .copy, args := #[d, s], argTypes := #[dT, sT] }) (elem : TypeId) (hu : P.underlying dT = some (.slice elem)) (hsz : (P.info? elem).map (·.size) = some 1)
    (dp sp : Option Addr) (dLen dCap sLen sCap : Nat) (hd : a.eval d = .slice dp dLen dCap) (hs : a.eval s = .slice sp sLen sCap)
    (g off : Nat) (cur : List Value) (t : TypeId) (hg : w.heap[g]? = some (.cells cur.toArray t (0, 0))) (cs : List Value) (hn : cs.length = Nat.min sLen dLen)
    (hpos : 0 < cs.length → dp = some ⟨g, off, none⟩ ∧ ∃ ad, sp = some ad ∧ ∀ (j : Nat) (v : Value), cs[j]? = some v → w.cell? (ad.add j) = some v)
    (hfit : off + cs.length ≤ cur.length) (h1 : ∀ v ∈ cs, v.oneCell' = true) (B : Nat) (w0 : World) (hb : RowKit.Below B w0 w) (hBg : B ≤ g)
    (h : ∀ w', RowKit.Hid (w'.heap[g]? = some (.cells (splice cur off cs).toArray t (0, 0))) → RowKit.Below B w0 w' → K (a.put o.dst (goInt cs.length)) w') : Oper.wp P o a w K Q :=
  of_wanted (ops := #[]) (q := True) hgd (step_copy_splice hgd d s dT sT ho elem hu hsz dp sp dLen dCap sLen sCap hd hs g off cur t hg cs hn hpos hfit h1 B w0 hb hBg h)
theorem splice_rep (cur : List Value) (k m n : Nat) (hl : cur.length = n) (hk : k + m ≤ n) (hp : cur.take k = List.replicate k (.int .i64 (-1))) :
    (splice cur k (List.replicate m (.int .i64 (-1)))).length = n ∧ (splice cur k (List.replicate m (.int .i64 (-1)))).take (k + m) = List.replicate (k + m) (.int .i64 (-1)) := by
  refine ⟨by rw [length_splice _ _ _ (by simpa [hl] using hk), hl], ?_⟩
  unfold splice
  rw [hp, ← List.append_assoc, List.take_append_of_le_length (by simp), List.replicate_append_replicate, List.take_of_length_le (by simp)]
theorem rep_args (cur : List Value) (k n m : Nat) (hm : m = min k (n - k)) (h1 : cur.length = n) (h2 : cur.take k = List.replicate k (.int .i64 (-1))) (hk : k ≤ n) :
    (List.replicate m (Value.int .i64 (-1))).length = Nat.min k (n - k) ∧ k + (List.replicate m (Value.int .i64 (-1))).length ≤ cur.length ∧ ∀ (j : Nat) (v : Value), (List.replicate m (Value.int .i64 (-1)))[j]? = some v → cur[j]? = some v := by
  refine ⟨by rw [List.length_replicate]; exact hm, by rw [List.length_replicate]; omega, fun j v hj => ?_⟩
  have hjm : j < m := by
    by_cases h : j < m
    · exact h
    · rw [List.getElem?_replicate, if_neg h] at hj; cases hj
  rw [List.getElem?_replicate, if_pos hjm] at hj
  have hjk : j < k := by omega
  have e : (cur.take k)[j]? = some v := by rw [h2, List.getElem?_replicate, if_pos hjk]; exact hj
  rwa [List.getElem?_take_of_lt hjk] at e
theorem wrap_sum (k m : Nat) (h1 : (k : Int) ≤ 4096) (h2 : (m : Int) ≤ 4096) : IntKind.i64.wrap ((k : Int) + (m : Int)) = (k : Int) + (m : Int) := by rw [IntKind.wrap_i64]; omega
set_option maxHeartbeats 4000000 in
set_option maxRecDepth 100000 in
theorem repeat_calls (w : World) (n : Nat) (b : Nat) (h1 : 1 ≤ n) (hn : n ≤ 4096) (hb : w.cell? ⟨b, 0, none⟩ = some (.int .i64 (-1))) :
    Calls Try.prog 74 #[.slice (some ⟨b, 0, none⟩) 1 1, .int .i64 n] w fun e w' => e = .returned (.slice (some ⟨w.heap.size, 0, none⟩) n n) ∧ w'.heap[w.heap.size]? = some (.cells (Array.replicate n (.int .i64 (-1))) 3 (0, 0)) ∧ Below w.heap.size w w' := by
  obtain ⟨cM, hcM⟩ : ∃ x : List Value, x.toArray = madeCells #[.int .i64 0] n := ⟨(madeCells #[.int .i64 0] n).toList, rfl⟩
  have n0 : (0 : Int) ≤ n := by omega
  have n1 : (n : Int) ≤ 4096 := by omega
  have n2 : (1 : Int) ≤ n := by omega
  have d0 : decide ((n : Int) < 0) = false := decide_eq_false (by omega)
  have hmk : ∀ W : World, (Instr.makeSlice 23 (.int .i64 (n : Int)) (.int .i64 (n : Int))).run Try.prog W = .ok (.slice (some ⟨W.heap.size, 0, none⟩) n n) (W.alloc (.cells cM.toArray 3)) := fun W => by
    rw [hcM]; exact run_make_row' 23 3 (.int .i64 0) 8 Try.underlying23 info3 rfl .i64 .i64 n (by omega) (by omega) W
  have hcl : cM.length = n := by have := congrArg Array.size hcM; simpa [size_madeCells] using this
  have hsz : (Try.prog.info? 3).map (·.size) = some 1 := by kernel_rfl
  have HSZ := Aside0.mk hsz
  have HCL := Aside0.mk hcl
  have hbl : b < w.heap.size := World.block_lt_of_cell? w _ hb
  have HCS := Aside0.mk (cell_lt hb (.cells cM.toArray 3))
  have HNW := Aside0.mk (heap_alloc_new w (.cells cM.toArray 3))
  have HBA := Aside0.mk (below_alloc (Below.refl w.heap.size w) (.cells cM.toArray 3))
  obtain ⟨R, hR⟩ : ∃ R, R = w.heap.size := ⟨_, rfl⟩
  have HR := Aside0.mk hR
  clear hcM hsz hcl
  go_enter Try.func74, Try.ntmps74
  go_upto_region 7 with (go_at_call 89; refine (mul_calls w n hn).mono ?_; rintro e w1 ⟨rfl, rfl⟩)
  rw [← hR]
  clear hmk hR hb hbl
  go_step
  go_step
  go_step
  go_step
  go_step
  go_step
  go_step
  refine wpList_copy_splice rfl (.tmp 31) (.tmp 32) 23 23 rfl 3 Try.underlying23 HSZ.out (some ⟨R, 0, none⟩) (some ⟨b, 0, none⟩) n n 1 1 (by rfl) (by rfl) R 0 cM 3 (by rw [HR.out]; exact HNW.out) [.int .i64 (-1)] (show 1 = min 1 n by omega) (fun _ => ⟨rfl, _, rfl, fun j v hj => ?c3⟩) (by simp [HCL.out]; omega) (by simp [Value.oneCell']) w.heap.size w HBA.out (by rw [HR.out]; exact Nat.le_refl _) ?_
  case c3 =>
    cases j with
    | zero => simp at hj; subst hj; rw [add_plain]; exact HCS.out
    | succ j => simp at hj
  intro w2 hw2 hb2
  have HS := Aside0.mk (splice_rep cM 0 1 n HCL.out (by omega) (by simp))
  have HW2 := Aside0.mk hw2.out
  have HB2 := Aside0.mk hb2
  clear hw2 hb2 HCS HNW HBA
  obtain ⟨c1, hc1⟩ : ∃ c1, splice cM 0 [Value.int IntKind.i64 (-1)] = c1 := ⟨_, rfl⟩
  have hs := HS.out
  have hw3 := HW2.out
  rw [show List.replicate 1 (Value.int IntKind.i64 (-1)) = [Value.int IntKind.i64 (-1)] from rfl, hc1] at hs
  rw [hc1] at hw3
  have HS1 := Aside0.mk hs
  have HW3 := Aside0.mk hw3
  clear hs hw3 hc1 HS HW2 HCL
  simp only [List.length_cons, List.length_nil, Act.put, List.setIfInBounds_toArray, List.set_cons_zero, List.set_cons_succ]
  rw [show goInt ((0 + 1 : Nat) : Int) = Value.int .i64 1 from rfl]
  go_wp2_with fail
  go_loopw [8] (fun v wr => ∃ (k : Nat) (cur : List Value), v = .int .i64 k ∧ 1 ≤ k ∧ k ≤ n ∧ Aside0 (cur.length = n ∧ cur.take k = List.replicate k (.int .i64 (-1))) ∧ Aside0 (wr.heap[R]? = some (.cells cur.toArray 3 (0, 0))) ∧ Aside0 (Below w.heap.size w wr)) (fun v _ => n - (intOf v).toNat)
  case atStart => exact ⟨1, c1, rfl, by omega, h1, by simpa using HS1, HW3, HB2⟩
  case round =>
    clear HS1 HW3 HB2
    obtain ⟨k, cur, rfl, k1, k2, HC, HW, HB⟩ := hrel
    have k3 : (0 : Int) ≤ (k : Int) := by omega
    have k4 : (k : Int) ≤ (n : Int) := by omega
    by_cases hlt : k < n
    · have b0 : decide (k < n) = true := decide_eq_true hlt
      have k5 : (k : Int) < (n : Int) := by omega
      go_wp2_with fail
      refine wp_region_noPanic ?_
      refine wp_region_T (by kernel_rfl) (fun _ => True) 9 ?_
      refine wpAnyT_take (i := 0) (v := (.int .i64 k)) (by decide +kernel) (by decide) rfl (by decide +kernel) (by decide +kernel) (by decide +kernel) (fun _ _ _ h => h) (.inl ⟨rfl, fun w' hS' => ?_⟩) True.intro ?_
      · clear hS'; go_simp; all_goals omega
      simp only [List.getElem_toArray, List.getElem_cons_succ, List.getElem_cons_zero, Act.put, List.setIfInBounds_toArray, List.set_cons_zero, List.set_cons_succ]
      refine wpAnyT_take (i := 1) (v := (.slice (some ⟨R, 0, none⟩) n n)) (by decide +kernel) (by decide) rfl (by decide +kernel) (by decide +kernel) (by decide +kernel) (fun _ _ _ h => h) (.inl ⟨rfl, fun w' hS' => ?_⟩) True.intro ?_
      · clear hS'; go_simp; all_goals omega
      simp only [List.getElem_toArray, List.getElem_cons_succ, List.getElem_cons_zero, Act.put, List.setIfInBounds_toArray, List.set_cons_zero, List.set_cons_succ]
      refine wpAnyT_take (i := 2) (v := (.int .i64 k)) (by decide +kernel) (by decide) rfl (by decide +kernel) (by decide +kernel) (by decide +kernel) (fun _ _ _ h => h) (.inl ⟨rfl, fun w' hS' => ?_⟩) True.intro ?_
      · clear hS'; go_simp; all_goals omega
      simp only [List.getElem_toArray, List.getElem_cons_succ, List.getElem_cons_zero, Act.put, List.setIfInBounds_toArray, List.set_cons_zero, List.set_cons_succ]
      refine wpAnyT_take (i := 3) (v := (.slice (some ⟨R, k, none⟩) (n - k) (n - k))) (by decide +kernel) (by decide) rfl (by decide +kernel) (by decide +kernel) (by decide +kernel) (fun _ _ _ h => h) (.inl ⟨rfl, fun w' hS' => ?_⟩) True.intro ?_
      · clear hS'; go_simp; all_goals omega
      simp only [List.getElem_toArray, List.getElem_cons_succ, List.getElem_cons_zero, Act.put, List.setIfInBounds_toArray, List.set_cons_zero, List.set_cons_succ]
      refine wpAnyT_take (i := 4) (v := (.slice (some ⟨R, 0, none⟩) n n)) (by decide +kernel) (by decide) rfl (by decide +kernel) (by decide +kernel) (by decide +kernel) (fun _ _ _ h => h) (.inl ⟨rfl, fun w' hS' => ?_⟩) True.intro ?_
      · clear hS'; go_simp; all_goals omega
      simp only [List.getElem_toArray, List.getElem_cons_succ, List.getElem_cons_zero, Act.put, List.setIfInBounds_toArray, List.set_cons_zero, List.set_cons_succ]
      refine wpAnyT_take (i := 5) (v := (.int .i64 k)) (by decide +kernel) (by decide) rfl (by decide +kernel) (by decide +kernel) (by decide +kernel) (fun _ _ _ h => h) (.inl ⟨rfl, fun w' hS' => ?_⟩) True.intro ?_
      · clear hS'; go_simp; all_goals omega
      simp only [List.getElem_toArray, List.getElem_cons_succ, List.getElem_cons_zero, Act.put, List.setIfInBounds_toArray, List.set_cons_zero, List.set_cons_succ]
      refine wpAnyT_take (i := 6) (v := (.slice (some ⟨R, 0, none⟩) k n)) (by decide +kernel) (by decide) rfl (by decide +kernel) (by decide +kernel) (by decide +kernel) (fun _ _ _ h => h) (.inl ⟨rfl, fun w' hS' => ?_⟩) True.intro ?_
      · clear hS'; go_simp; all_goals omega
      simp only [List.getElem_toArray, List.getElem_cons_succ, List.getElem_cons_zero, Act.put, List.setIfInBounds_toArray, List.set_cons_zero, List.set_cons_succ]
      refine wpAnyT_one (i := 7) rfl rfl (by decide +kernel) ?_
      obtain ⟨m, hm⟩ : ∃ m, m = min k (n - k) := ⟨_, rfl⟩
      have HM := Aside0.mk hm
      have hHW := HW.out
      have HD := Aside0.mk (show wr.drew.heap[R]? = some (.cells cur.toArray 3 (0, 0)) from hHW)
      have HRA := Aside0.mk (rep_args cur k n m hm HC.out.1 HC.out.2 k2)
      have HRB := Aside0.mk (show w.heap.size ≤ R by rw [HR.out]; exact Nat.le_refl _)
      have HRC := Aside0.mk (show ∀ (j : Nat) (v : Value), (List.replicate m (Value.int .i64 (-1)))[j]? = some v → wr.drew.cell? ((⟨R, 0, none⟩ : Addr).add j) = some v from fun j v hj => by
        rw [add_plain, blk_cell HD.out j]; have := HRA.out.2.2 j v hj; simpa using this)
      have HRD := Aside0.mk (show ∀ v ∈ List.replicate m (Value.int .i64 (-1)), v.oneCell' = true from fun v hv => by rw [List.eq_of_mem_replicate hv]; rfl)
      clear hm hHW
      refine copy_wp rfl (.tmp 41) (.tmp 44) 23 23 rfl 3 Try.underlying23 HSZ.out (some ⟨R, k, none⟩) (some ⟨R, 0, none⟩) (n - k) (n - k) k n rfl rfl R k cur 3 HD.out (List.replicate m (.int .i64 (-1))) HRA.out.1 (fun _ => ⟨rfl, _, rfl, HRC.out⟩) HRA.out.2.1 HRD.out w.heap.size w (below_drew HB.out) HRB.out ?_
      intro w2 hw2 hb2
      simp only [List.getElem_toArray, List.getElem_cons_succ, List.getElem_cons_zero, Act.put, List.setIfInBounds_toArray, List.set_cons_zero, List.set_cons_succ, List.length_replicate]
      refine ⟨.inr True.intro, ?_⟩
      have HW2 := Aside0.mk hw2.out
      have HB2 := Aside0.mk hb2
      clear hw2 hb2
      have m0 : (0 : Int) ≤ (m : Int) := by omega
      have m1 : (m : Int) ≤ 4096 := by have := HM.out; omega
      have k6 : (k : Int) ≤ 4096 := by omega
      have hwk : IntKind.i64.wrap ((k : Int) + (m : Int)) = (k : Int) + (m : Int) := wrap_sum k m k6 m1
      refine wpAnyT_one (i := 8) rfl rfl (by decide +kernel) ?_
      unfold Oper.wp
      go_simp
      refine wpAnyT_one (i := 9) rfl rfl (by decide +kernel) ?_
      unfold Oper.wp
      go_simp
      refine wpAnyT_done (by decide +kernel) ?_ _
      refine NoPanic.normal ?_
      clear hwk
      have m2 := HM.out
      go_wp2_with fail
      go_roundw
      case rel =>
        obtain ⟨y1, y2⟩ := HC.out
        obtain ⟨z1, z2⟩ := splice_rep cur k m n y1 (by omega) y2
        exact ⟨k + m, _, by rw [Int.natCast_add], by omega, by omega, ⟨z1, z2⟩, HW2, HB2⟩
      case measure => simp [intOf]; omega
    · have b0 : decide (k < n) = false := decide_eq_false hlt
      have e : k = n := by omega
      have HE := Aside0.mk e
      clear e hlt
      go_wp2
      go_ret
      refine ⟨by rw [← HR.out]; rfl, ?_, HB.out⟩
      rw [← HR.out, HW.out]
      obtain ⟨y1, y2⟩ := HC.out
      rw [HE.out, ← y1, List.take_length, y1] at y2
      rw [y2]
      simp
end Go.Proofs.Ytadeidhefjifaaa.Px
end
section
set_option linter.unusedVariables false
set_option linter.unusedSimpArgs false
namespace Go.Proofs.Ytadeidhefjifaaa.Px
open Go.RowKit Go.Shelf Go.Proofs.YtadeidhefjifaaaW.PrintWords Go.Proofs.YtadeidhefjifaaaW.PrintLast Go.Proofs.YtadeidhefjifaaaW.PrintMore
/-- one list of usable residual edges: the entries, the queue, and whether the node to has been met -/
def scanU (tt : Int) {n : Nat} : List Int → List Int → List (RE n) → List Int × List Int × Bool
  | bys, q, [] => (bys, q, false)
  | bys, q, x :: t => if 0 ≤ rd bys x.1.2 then scanU tt bys q t else if x.1.2 = tt then (bys.set x.1.2.toNat x.1.1, q, true) else scanU tt (bys.set x.1.2.toNat x.1.1) (q ++ [x.1.2]) t
theorem scan_old (tt : Int) {n : Nat} (b q : List Int) (x : RE n) (xs : List (RE n)) (h : 0 ≤ rd b x.1.2) : scanU tt b q (x :: xs) = scanU tt b q xs := by simp [scanU, h]
theorem scan_hit (tt : Int) {n : Nat} (b q : List Int) (x : RE n) (xs : List (RE n)) (h : ¬ 0 ≤ rd b x.1.2) (ht : x.1.2 = tt) : scanU tt b q (x :: xs) = (b.set x.1.2.toNat x.1.1, q, true) := by
  rw [scanU, if_neg h, if_pos ht]
theorem scan_new (tt : Int) {n : Nat} (b q : List Int) (x : RE n) (xs : List (RE n)) (h : ¬ 0 ≤ rd b x.1.2) (ht : ¬ x.1.2 = tt) : scanU tt b q (x :: xs) = scanU tt (b.set x.1.2.toNat x.1.1) (q ++ [x.1.2]) xs := by
  rw [scanU, if_neg h, if_neg ht]
theorem scan_append (tt : Int) {n : Nat} : ∀ (xs ys : List (RE n)) (b q b' q' : List Int), scanU tt b q xs = (b', q', false) → scanU tt b q (xs ++ ys) = scanU tt b' q' ys
  | [], ys, b, q, b', q', h => by simp [scanU] at h; obtain ⟨rfl, rfl⟩ := h; rfl
  | x :: xs, ys, b, q, b', q', h => by
    rw [List.cons_append]
    by_cases h1 : 0 ≤ rd b x.1.2
    · rw [scan_old _ _ _ _ _ h1] at h ⊢; exact scan_append tt xs ys b q b' q' h
    · by_cases h2 : x.1.2 = tt
      · rw [scan_hit _ _ _ _ _ h1 h2] at h; simp at h
      · rw [scan_new _ _ _ _ _ h1 h2] at h ⊢; exact scan_append tt xs ys _ _ b' q' h
theorem scan_stop (tt : Int) {n : Nat} : ∀ (xs ys : List (RE n)) (b q b' q' : List Int), scanU tt b q xs = (b', q', true) → scanU tt b q (xs ++ ys) = (b', q', true)
  | [], ys, b, q, b', q', h => by simp [scanU] at h
  | x :: xs, ys, b, q, b', q', h => by
    rw [List.cons_append]
    by_cases h1 : 0 ≤ rd b x.1.2
    · rw [scan_old _ _ _ _ _ h1] at h ⊢; exact scan_stop tt xs ys b q b' q' h
    · by_cases h2 : x.1.2 = tt
      · rw [scan_hit _ _ _ _ _ h1 h2] at h ⊢; exact h
      · rw [scan_new _ _ _ _ _ h1 h2] at h ⊢; exact scan_stop tt xs ys _ _ b' q' h
/-- the search: breadth first -/
def bfs (tt : Int) {n : Nat} (use : Int → List (RE n)) : Nat → List Int → List Int → Option (List Int)
  | 0, _, _ => none
  | _ + 1, b, [] => some b
  | k + 1, b, v :: q => if (scanU tt b q (use v)).2.2 = true then some (scanU tt b q (use v)).1 else bfs tt use k (scanU tt b q (use v)).1 (scanU tt b q (use v)).2.1
structure SW (w0 : World) (U B : Nat) (w W : World) (G : Nat) (A : Option Addr) (c : Nat) (l : List S61) (vF : Value) (fl : List Int) (vA : Value) (adj : List (List Int)) (P5 P6 P7 R n : Nat) (tt : Int) (bys q : List Int) (vq : Value) : Prop where
  net : NS w0 U W G A c l vF fl vA adj
  h5 : W.heap[P5]? = some (.cells #[.int .i64 tt] 3 (0, 0))
  h6 : W.heap[P6]? = some (.cells #[.slice (some ⟨R, 0, none⟩) n n] 23 (0, 0))
  h7 : W.heap[P7]? = some (.cells #[vq] 23 (0, 0))
  hR : W.heap[R]? = some (.cells (bys.map (Value.int .i64)).toArray 3 (0, 0))
  hn : bys.length = n
  hq : Kd.Q (Kd.int .i64) 3 W B (fun k => k ≠ R ∧ k ≠ P5) vq q
  b5 : B ≤ P5
  b6 : B ≤ P6
  b7 : B ≤ P7
  bR : B ≤ R
  ne : R ≠ P5
  ne2 : P6 ≠ P7
  hB : Below B w W
  hUB : U ≤ B
section
variable {w0 : World} {U B : Nat} {w W W' : World} {G : Nat} {A : Option Addr} {c : Nat} {l : List S61} {vF : Value} {fl : List Int} {vA : Value} {adj : List (List Int)} {P5 P6 P7 R n : Nat} {tt : Int} {bys q : List Int} {vq : Value}
/-- the blocks that hold cells stay -/
theorem SW.keep (h : SW w0 U B w W G A c l vF fl vA adj P5 P6 P7 R n tt bys q vq) (hb : Below B W W') (hc : ∀ (k : Nat) (cs : Array Value) (t : TypeId), W.heap[k]? = some (Obj.cells cs t (0, 0)) → W'.heap[k]? = some (Obj.cells cs t (0, 0))) :
    SW w0 U B w W' G A c l vF fl vA adj P5 P6 P7 R n tt bys q vq :=
  { h with
    net := h.net.below (hb.mono h.hUB)
    h5 := hc _ _ _ h.h5
    h6 := hc _ _ _ h.h6
    h7 := hc _ _ _ h.h7
    hR := hc _ _ _ h.hR
    hq := Kd.Q_mono (Kd.Q_move (Kd.Q_bound h.hq) (fun k hk => by obtain ⟨_, _, _, q, _, cells, hc'⟩ := hk; rw [hc', hc k cells q hc'])) (fun _ hk => hk.1)
    hB := h.hB.trans hb }
theorem SW.below (h : SW w0 U B w W G A c l vF fl vA adj P5 P6 P7 R n tt bys q vq) (hs : B ≤ W.heap.size) (hb : Below W.heap.size W W') : SW w0 U B w W' G A c l vF fl vA adj P5 P6 P7 R n tt bys q vq :=
  h.keep (hb.mono hs) (fun k cs t hk => (hb.block k (lt_of_block hk)).trans hk)
theorem SW.size (h : SW w0 U B w W G A c l vF fl vA adj P5 P6 P7 R n tt bys q vq) : B ≤ W.heap.size := Nat.le_of_lt (Nat.lt_of_le_of_lt h.b5 (lt_of_block h.h5))
/-- a turn of a block that holds no cells -/
theorem SW.own (h : SW w0 U B w W G A c l vF fl vA adj P5 P6 P7 R n tt bys q vq) {row : Option Nat} (hg : W.grownBy W' row) (hr : ∀ r, row = some r → B ≤ r ∧ ∃ o : Obj, W.heap[r]? = some o ∧ o.isCells = false) :
    SW w0 U B w W' G A c l vF fl vA adj P5 P6 P7 R n tt bys q vq :=
  h.keep ((Below.refl _ _).grown hg h.size (fun k hk => (hr k hk).1)) (fun k cs t hk => (hg.block k (lt_of_block hk) (fun e => by
    obtain ⟨_, o, ho, hoc⟩ := hr k e.symm
    rw [hk] at ho; cases ho; simp [Obj.isCells] at hoc)).trans hk)
/-- an entry is written -/
theorem SW.setBy (h : SW w0 U B w W G A c l vF fl vA adj P5 P6 P7 R n tt bys q vq) (u : Int) (h0 : 0 ≤ u) (h1 : u < n) (r : Int) :
    SW w0 U B w (W.setCell ⟨R, u.toNat, none⟩ (.int .i64 r)) G A c l vF fl vA adj P5 P6 P7 R n tt (bys.set u.toNat r) q vq := by
  have far : ∀ k, k ≠ R → (W.setCell ⟨R, u.toNat, none⟩ (.int .i64 r)).heap[k]? = W.heap[k]? := fun k hk => Below.heap_setCell W ⟨R, u.toNat, none⟩ _ k hk
  have t6 : P6 ≠ R := fun e => by have := h.h6; rw [e, h.hR] at this; simp at this
  have t7 : P7 ≠ R := fun e => by have := h.h7; rw [e, h.hR] at this; simp at this
  have hb : Below B W (W.setCell ⟨R, u.toNat, none⟩ (.int .i64 r)) := (Below.refl B W).setCell (p := ⟨R, u.toNat, none⟩) h.bR _
  exact { h with
    net := h.net.below (hb.mono h.hUB)
    h5 := (far _ h.ne.symm).trans h.h5
    h6 := (far _ t6).trans h.h6
    h7 := (far _ t7).trans h.h7
    hR := by
      have hlt := lt_of_block h.hR
      show (W.heap.modify R _)[R]? = _
      have h' : W.heap[R] = .cells (bys.map (Value.int .i64)).toArray 3 (0, 0) := by simpa [Array.getElem?_eq_getElem hlt] using h.hR
      rw [Array.getElem?_eq_getElem (by simpa using hlt), Array.getElem_modify_self, h']
      show some (Obj.cells (((bys.map (Value.int .i64)).toArray).setIfInBounds u.toNat (.int .i64 r)) 3 (0, 0)) = _
      simp [List.map_set]
    hn := by simp [h.hn]
    hq := Kd.Q_far (p := ⟨R, u.toNat, none⟩) h.hq (fun k hk => hk.1) _
    hB := h.hB.trans hb }
/-- the queue is written anew -/
theorem SW.setQ (h : SW w0 U B w W G A c l vF fl vA adj P5 P6 P7 R n tt bys q vq) {q' : List Int} {v' : Value} (hg : W.grownBy W' vq.ownBlock) (hQ : Kd.Q (Kd.int .i64) 3 W' B (fun k => k ≠ R ∧ k ≠ P5) v' q') :
    SW w0 U B w (W'.setCell ⟨P7, 0, none⟩ v') G A c l vF fl vA adj P5 P6 P7 R n tt bys q' v' := by
  have nk : ∀ (k : Nat) (cs : Array Value) (t : TypeId), W.heap[k]? = some (Obj.cells cs t (0, 0)) → (t ≠ 3 ∨ k = R ∨ k = P5) → W'.heap[k]? = some (Obj.cells cs t (0, 0)) := fun k cs t hk ht => by
    refine (hg.block k (lt_of_block hk) (fun e => ?_)).trans hk
    obtain ⟨cells, hc⟩ := Kd.Q_typed h.hq k e.symm
    rw [hc] at hk
    rcases ht with ht | ht | ht
    · simp at hk; exact ht hk.2.symm
    · exact (h.hq.1 k e.symm).1 ht
    · exact (h.hq.1 k e.symm).2 ht
  have hb : Below B W W' := (Below.refl _ _).grown hg h.size (fun k hk => Kd.Q_base h.hq k hk)
  have far : ∀ k, k ≠ P7 → (W'.setCell ⟨P7, 0, none⟩ v').heap[k]? = W'.heap[k]? := fun k hk => Below.heap_setCell W' ⟨P7, 0, none⟩ _ k hk
  have hb2 : Below B W' (W'.setCell ⟨P7, 0, none⟩ v') := (Below.refl B W').setCell (p := ⟨P7, 0, none⟩) h.b7 _
  have e7 := nk _ _ _ h.h7 (.inl (by decide))
  have t5 : P5 ≠ P7 := fun e => by have := h.h5; rw [e, h.h7] at this; simp at this
  have tR : R ≠ P7 := fun e => by have := h.hR; rw [e, h.h7] at this; simp at this
  exact { h with
    net := h.net.below ((hb.trans hb2).mono h.hUB)
    h5 := (far _ t5).trans (nk _ _ _ h.h5 (.inr (.inr rfl)))
    h6 := (far _ h.ne2).trans (nk _ _ _ h.h6 (.inl (by decide)))
    h7 := one_setCell e7
    hR := (far _ tR).trans (nk _ _ _ h.hR (.inr (.inl rfl)))
    hq := Kd.Q_set hQ e7 (by intro q hq; rcases List.mem_cons.1 hq with rfl | hq; exact (by decide); exact absurd hq (by simp [Kd.int, Kd.scalar])) 0 v'
    hB := (h.hB.trans hb).trans hb2 }
/-- the cells that a round reads -/
theorem SW.cells (h : SW w0 U B w W G A c l vF fl vA adj P5 P6 P7 R n tt bys q vq) (u : Int) (h0 : 0 ≤ u) (h1 : u < n) :
    W.cell? ⟨P6, 0, none⟩ = some (.slice (some ⟨R, 0, none⟩) n n) ∧ W.cell? ⟨R, u.toNat, none⟩ = some (.int .i64 (rd bys u)) ∧ W.frozen? ⟨R, u.toNat, none⟩ = false ∧
    W.cell? ⟨P5, 0, none⟩ = some (.int .i64 tt) ∧ W.cell? ⟨P7, 0, none⟩ = some vq ∧ W.frozen? ⟨P7, 0, none⟩ = false := by
  have hu : u.toNat < bys.length := by have := h.hn; omega
  refine ⟨(blk_cell h.h6 0).trans rfl, ?_, blk_frozen h.hR _, (blk_cell h.h5 0).trans rfl, (blk_cell h.h7 0).trans rfl, blk_frozen h.h7 0⟩
  rw [blk_cell h.hR]
  simp [hu, rd, List.getD]
end
end Go.Proofs.Ytadeidhefjifaaa.Px
end
section
namespace Go.Proofs.Ytadeidhefjifaaa.Px
open Go
section
variable {P : Program} {F : Fence} {n : Nat} {b : Frame} {a : Act} {k : List Item} {cs : List Frame} {w : World} {Q : Exit → Act → World → Prop}
theorem stepR_scope {c : Code} : step P (lone (b.atR a (.code (.scope c) :: k)) cs w) = .next (lone (b.atR a (.code c :: .inScope c :: k)) cs w) :=
  step_lone_go (by simp [stepG, stepG.exec, Frame.atR])
theorem stepR_inScope {c : Code} : step P (lone (b.atR a (.inScope c :: k)) cs w) = .next (lone (b.atR a k) cs w) :=
  step_lone_go (by simp [stepG, stepG.exec, Frame.atR])
theorem wpIn_scope_straight {c : Code} (h : c.wpIn F n P (Exit.noGoto Q) a w) : (Code.scope c).wpIn F n P Q a w := by
  intro b k cs hro hb hr
  have h0 : (lone (b.atR a (.code (.scope c) :: k)) cs w).fenced P F := fenced_calm hb hr rfl
  obtain ⟨e, a₁, w₁, hq, harr⟩ := h b (.inScope c :: k) cs hro hb hr
  cases e with
  | normal => exact ⟨.normal, a₁, w₁, hq, .head h0 stepR_scope (StepsIn.trans harr (.one (fenced_calm hb hr rfl) stepR_inScope))⟩
  | exit id =>
    have hx : exitTo id (.inScope c :: k) = exitTo id k := by simp [exitTo]
    exact ⟨.exit id, a₁, w₁, hq, fun k' hk => .head h0 stepR_scope (harr.1 k' (by rw [hx]; exact hk)),
      fun hr' hk => let ⟨k₁, h1, h2⟩ := harr.2 hr' (by rw [hx]; exact hk); ⟨k₁, h1, .head h0 stepR_scope h2⟩⟩
  | goto l => exact hq.elim
  | ret => exact ⟨_, a₁, w₁, hq, .of_steps (.one h0 stepR_scope) harr⟩
  | panic ch => exact ⟨_, a₁, w₁, hq, .of_steps (.one h0 stepR_scope) harr⟩
  | outgrown => exact ⟨_, a₁, w₁, hq, .of_steps (.one h0 stepR_scope) harr⟩
end
end Go.Proofs.Ytadeidhefjifaaa.Px
end
section
set_option linter.unusedVariables false
set_option linter.unusedSimpArgs false
namespace Go.Proofs.Ytadeidhefjifaaa.Px
open Go.RowKit Go.Shelf Go.Proofs.YtadeidhefjifaaaW.PrintWords Go.Proofs.YtadeidhefjifaaaW.PrintLast Go.Proofs.YtadeidhefjifaaaW.PrintMore
attribute [local go_sem] Oper.semAt_some
section
variable {w0 : World} {U : Nat} {w : World} {G : Nat} {A : Option Addr} {c : Nat} {l : List S61} {vF : Value} {fl : List Int} {vA : Value} {adj : List (List Int)}
/-- what a search hands back -/
def SearchPost (w : World) (n : Nat) (P : List Int → Prop) (e : Ending) (w' : World) : Prop :=
  ∃ (R : Nat) (bys : List Int), e = .returned (.slice (some ⟨R, 0, none⟩) n n) ∧ w'.heap[R]? = some (.cells (bys.map (Value.int .i64)).toArray 3 (0, 0)) ∧ bys.length = n ∧ Below w.heap.size w w' ∧ w.heap.size ≤ R ∧ P bys
/-- a loop whose measure is a ghost -/
theorem wpIn_loop_g {F : Fence} {n : Nat} {P : Program} {Q : Exit → Act → World → Prop} {a : Act} {w : World} {c : Code} (I : Nat → Act → World → Prop) (g : Nat) (h0 : I g a w)
    (round : ∀ g a w, I g a w → c.wpIn F n P (Exit.then (fun a' w' => ∃ g', g' < g ∧ I g' a' w') Q) a w) : (Code.loop c).wpIn F n P Q a w := by
  refine wpIn_loop (fun a w => ∃ g, I g a w) (fun a w => leastOf fun g => I g a w) ⟨g, h0⟩ ?_
  intro a w h
  refine wpIn_mono (round _ a w (leastOf_spec h).1) ?_
  intro e a' w' he
  cases e with
  | normal =>
    obtain ⟨g', hlt, hI⟩ := he
    exact ⟨⟨g', hI⟩, Nat.lt_of_le_of_lt ((leastOf_spec (p := fun g => I g a' w') ⟨g', hI⟩).2 g' hI) hlt⟩
  | exit id => exact he
  | goto t => exact he
  | ret => exact he
  | panic ch => exact he
  | outgrown => exact he
/-- the marks of the loops over iterators that have ended -/
def mark (D : Nat) : Deferred := { target := .collected D, args := #[] }
def MarksOK (B : Nat) (Ds : List Nat) (W : World) : Prop := Ds.Nodup ∧ ∀ D ∈ Ds, B ≤ D ∧ W.heap[D]? = some (.deferred (some []))
theorem MarksOK.keep {B : Nat} {Ds : List Nat} {W W' : World} (h : MarksOK B Ds W) (hk : ∀ D, B ≤ D → W.heap[D]? = some (.deferred (some [])) → W'.heap[D]? = some (.deferred (some []))) : MarksOK B Ds W' :=
  ⟨h.1, fun D hD => ⟨(h.2 D hD).1, hk D (h.2 D hD).1 (h.2 D hD).2⟩⟩
theorem MarksOK.grown {B : Nat} {Ds : List Nat} {W W' : World} {row : Option Nat} (h : MarksOK B Ds W) (hg : W.grownBy W' row) (hr : ∀ r, row = some r → W.heap[r]? ≠ some (.deferred (some []))) : MarksOK B Ds W' :=
  h.keep (fun D _ hD => (hg.block D (lt_of_block hD) (fun e => hr D e.symm hD)).trans hD)
/-- how many entries are still open -/
def unset (b : List Int) : Nat := (b.filter fun x => decide (x < 0)).length
theorem unset_set : ∀ (b : List Int) (i : Nat) (r : Int) (hi : i < b.length), b[i] < 0 → 0 ≤ r → unset (b.set i r) + 1 = unset b
  | x :: b, 0, r, _, h, hr => by
    have h' : x < 0 := h
    have e1 : decide (r < 0) = false := decide_eq_false (by omega)
    have e2 : decide (x < 0) = true := decide_eq_true h'
    simp [unset, List.filter_cons, h', e1, e2]
  | x :: b, i + 1, r, hi, h, hr => by
    have ih := unset_set b i r (by simpa using hi) (by simpa using h) hr
    unfold unset at ih ⊢
    by_cases hx : x < 0
    · simp [List.filter_cons, hx, ← ih]
    · simp [List.filter_cons, hx, ← ih]
/-- a scan: lengths, range, measure -/
theorem scan_facts (tt : Int) {n : Nat} : ∀ (es : List (RE n)) (b q b' q' : List Int) (s : Bool), scanU tt b q es = (b', q', s) → b.length = n → (∀ x ∈ q, 0 ≤ x ∧ x < (n : Int)) → (∀ e ∈ es, 0 ≤ e.1.1) →
    b'.length = n ∧ (∀ x ∈ q', 0 ≤ x ∧ x < (n : Int)) ∧ 2 * unset b' + q'.length ≤ 2 * unset b + q.length
  | [], b, q, b', q', s, h, hb, hq, he => by simp [scanU] at h; obtain ⟨rfl, rfl, rfl⟩ := h; exact ⟨hb, hq, Nat.le_refl _⟩
  | x :: es, b, q, b', q', s, h, hb, hq, he => by
    have hx := x.2
    have h1 := he x (by simp)
    by_cases h0 : 0 ≤ rd b x.1.2
    · rw [scan_old _ _ _ _ _ h0] at h
      exact scan_facts tt es b q b' q' s h hb hq (fun e hm => he e (by simp [hm]))
    · have hlt : x.1.2.toNat < b.length := by omega
      have hrd : b[x.1.2.toNat] < 0 := by
        have : rd b x.1.2 = b[x.1.2.toNat] := by simp [rd, List.getD, hlt]
        omega
      have hu := unset_set b x.1.2.toNat x.1.1 hlt hrd h1
      by_cases h2 : x.1.2 = tt
      · rw [scan_hit _ _ _ _ _ h0 h2] at h
        simp at h; obtain ⟨rfl, rfl, rfl⟩ := h
        exact ⟨by simp [hb], hq, by omega⟩
      · rw [scan_new _ _ _ _ _ h0 h2] at h
        obtain ⟨i1, i2, i3⟩ := scan_facts tt es _ _ b' q' s h (by simp [hb]) (by
          intro y hy
          rcases List.mem_append.1 hy with hy | hy
          · exact hq y hy
          · obtain rfl := List.mem_singleton.1 hy; exact hx) (fun e hm => he e (by simp [hm]))
        refine ⟨i1, i2, ?_⟩
        simp at i3; omega
theorem useL_mem {l : List S61} {fl : List Int} {n : Nat} {rs : List Int} {x : RE n} (h : x ∈ useL l fl n rs) : x.1.1 ∈ rs ∧ capR l fl x.1.1 > 0 ∧ x.1.2 = endR l x.1.1 := by
  unfold useL at h
  obtain ⟨r, hr, hx⟩ := List.mem_filterMap.1 h
  split at hx
  · rename_i hc
    cases hx
    exact ⟨hr, hc.1, rfl⟩
  · cases hx
/-- the blocks that hold cells, and the marks -/
theorem leavesM_marks {F : Fence} {n : Nat} {P : Program} {fn : Func} {tmps : Array Value} {R : Ending → World → Prop} {B : Nat} : ∀ (Ds : List Nat) (W : World), MarksOK B Ds W → B ≤ W.heap.size →
    (∀ W', Below B W W' → (∀ (k : Nat) (cs : Array Value) (t : TypeId), W.heap[k]? = some (Obj.cells cs t (0, 0)) → W'.heap[k]? = some (Obj.cells cs t (0, 0))) → LeavesIn F n P fn tmps R [] .returning W') →
    LeavesInM F n P fn tmps R (Ds.map mark) .returning W
  | [], W, hM, hB, hfin => hfin W (Below.refl _ _) (fun _ _ _ h => h)
  | D :: Ds, W, hM, hB, hfin => by
    have hD := hM.2 D (by simp)
    have hb : Below B W (W.putObj D (.deferred none)) := (Below.refl B W).grown (grownBy_putObj' W D _) hB (fun k e => by cases e; exact hD.1)
    refine ⟨by simp, .inl ⟨D, _, rfl, run_takeDeferred hD.2, ?_⟩⟩
    refine leavesM_marks Ds (W.putObj D (.deferred none)) ⟨(List.nodup_cons.1 hM.1).2, fun E hE => ⟨(hM.2 E (by simp [hE])).1, ?_⟩⟩ (Nat.le_trans hB hb.size) ?_
    · have hne : E ≠ D := fun e => by rw [e] at hE; exact (List.nodup_cons.1 hM.1).1 hE
      exact (World.putObj_heap_other hne).trans (hM.2 E (by simp [hE])).2
    · intro W' h1 h2
      refine hfin W' (hb.trans h1) (fun k cs t hk => h2 k cs t ?_)
      have hne : k ≠ D := fun e => by rw [e, hD.2] at hk; cases hk
      exact (World.putObj_heap_other hne).trans hk
theorem search_end {P : List Int → Prop} {P7 R n : Nat} {tt : Int} {bys q : List Int} {vq : Value} {W : World} {Ds : List Nat} {tmps : Array Value}
    (hS : SW w0 U w.heap.size w W G A c l vF fl vA adj w.heap.size (w.heap.size + 1) P7 R n tt bys q vq) (hM : MarksOK w.heap.size Ds W) (ht : tmps.getD 6 undef = .pointer (some ⟨w.heap.size + 1, 0, none⟩)) (hP : P bys) :
    bodyPostM Fence.wide 3 Try.prog Try.f49 (SearchPost w n P) .ret { tmps := tmps, defers := Ds.map mark } (W.setCell ⟨w.heap.size + 1, 0, none⟩ (.slice (some ⟨R, 0, none⟩) n n)) := by
  have e6 : (W.setCell ⟨w.heap.size + 1, 0, none⟩ (.slice (some ⟨R, 0, none⟩) n n)).heap[w.heap.size + 1]? = some (.cells #[.slice (some ⟨R, 0, none⟩) n n] 23 (0, 0)) := one_setCell hS.h6
  have far : ∀ k, k ≠ w.heap.size + 1 → (W.setCell ⟨w.heap.size + 1, 0, none⟩ (.slice (some ⟨R, 0, none⟩) n n)).heap[k]? = W.heap[k]? := fun k hk => Below.heap_setCell W ⟨w.heap.size + 1, 0, none⟩ _ k hk
  have nR : R ≠ w.heap.size + 1 := fun e => by have := hS.hR; rw [e, hS.h6] at this; simp at this
  have hb : Below w.heap.size w (W.setCell ⟨w.heap.size + 1, 0, none⟩ (.slice (some ⟨R, 0, none⟩) n n)) := hS.hB.setCell (p := ⟨w.heap.size + 1, 0, none⟩) hS.b6 _
  have eR := (far R nR).trans hS.hR
  refine leavesM_marks Ds _ (hM.keep fun D hD hk => (far D (fun e => by rw [e, hS.h6] at hk; cases hk)).trans hk) hb.size ?_
  intro W' h1 h2
  refine ⟨.slice (some ⟨R, 0, none⟩) n n, ?_, R, bys, rfl, h2 _ _ _ eR, hS.hn, hb.trans h1, hS.bR, hP⟩
  have c6 : W'.cell? ⟨w.heap.size + 1, 0, none⟩ = some (.slice (some ⟨R, 0, none⟩) n n) := (blk_cell (h2 _ _ _ e6) 0).trans rfl
  have hr : Try.f49.results = #[.cell 6 23] := rfl
  have hu := Try.underlying23
  have ht' : tmps[6]?.getD undef = .pointer (some ⟨w.heap.size + 1, 0, none⟩) := by simpa using ht
  simp [results, hr, ht', go_sem, c6, hu, loadVar]
set_option maxRecDepth 100000 in
set_option maxHeartbeats 1000000 in
/-- the iterator is made: two boxes -/
theorem usable_in (W : World) (v : Int) (m : Nat) :
    CallsIn Fence.wide m Try.prog 75 #[.pointer (some ⟨G, 0, none⟩), .int .i64 v] W fun e W' => e = .returned (.func (.func 90) #[] #[.pointer (some ⟨W.heap.size, 0, none⟩), .pointer (some ⟨W.heap.size + 1, 0, none⟩)]) ∧
      W' = (W.alloc (.cells #[.pointer (some ⟨G, 0, none⟩)] 76)).alloc (.cells #[.int .i64 v] 3) := by
  refine callsIn_of_wp Try.func75 rfl trivial ?_ rfl
  simp only [Try.ntmps75, List.size_toArray, List.length_cons, List.length_nil, Nat.reduceAdd, Nat.reduceSub, Array.replicate_succ, Array.replicate_zero, List.push_toArray, List.append_toArray, List.nil_append, List.cons_append]
  gi_wp2
  go_ret
  exact ⟨rfl, rfl⟩
/-- what the loop over the iterator may ask of it -/
theorem usable_stops (m n B b1 b2 : Nat) (hm : 1 ≤ m) (hUB : U ≤ B) (W0 : World) (hN : NS w0 U W0 G A c l vF fl vA adj) (hk : Okf l fl) (v : Int) (v0 : 0 ≤ v) (v1 : v < adj.length)
    (he : ∀ r : Int, 0 ≤ r → r < 2 * l.length → 0 ≤ endR l r ∧ endR l r < n) (rs : List Int) (hrs : adj.getD v.toNat [] = rs) (hr : ∀ r ∈ rs, 0 ≤ r ∧ r < 2 * (l.length : Int)) (hUs : U ≤ W0.heap.size)
    (h1 : W0.heap[b1]? = some (.cells #[.pointer (some ⟨G, 0, none⟩)] 76 (0, 0))) (h2 : W0.heap[b2]? = some (.cells #[.int .i64 v] 3 (0, 0))) :
    SeqStopsK Fence.wide m Try.prog 90 #[.pointer (some ⟨b1, 0, none⟩), .pointer (some ⟨b2, 0, none⟩)] (encRE n) (KpS B b1) (fun ys => ys = useL l fl n rs) (fun pre => pre <+: useL l fl n rs) (useL l fl n rs).length W0 := fun l0 J Jx W hW hJ _ hY h0 =>
  usable1_in m n B l0 b1 b2 hm hUB W (hN.below (hW.mono hUs)) hk v v0 v1 he rs hrs hr ((hW.block _ (lt_of_block h1)).trans h1) ((hW.block _ (lt_of_block h2)).trans h2) J Jx hY
    (fun pre W1 k hj => hJ pre W1 _ none hj ⟨rfl, rfl, rfl, Nat.le_refl _, fun _ _ _ => rfl⟩ (fun r e => by cases e)) h0
theorem MarksOK.own {B N : Nat} {Ds : List Nat} {W W' : World} {row : Option Nat} (h : MarksOK B Ds W) (h0 : ∀ D ∈ Ds, D < N) (hg : W.grownBy W' row) (hr : ∀ r, row = some r → N ≤ r) : MarksOK B Ds W' :=
  ⟨h.1, fun D hD => ⟨(h.2 D hD).1, (hg.block D (lt_of_block (h.2 D hD).2) (fun e => by have := hr D e.symm; have := h0 D hD; omega)).trans (h.2 D hD).2⟩⟩
theorem KpS.put {B b1 : Nat} {w W : World} {l : Nat} {o o' : Obj} (hB : B ≤ w.heap.size) (hb : b1 < w.heap.size) (hl : w.heap.size ≤ l) (h : W.heap[l]? = some o) : KpS B b1 W (W.putObj l o') :=
  ⟨(Below.refl B W).grown (grownBy_putObj' W l o') (by have := (Array.getElem?_eq_some_iff.1 h).1; omega) (fun k e => by cases e; omega), fun cs t hk => (World.putObj_heap_other (by omega)).trans hk⟩
theorem scan_len (tt : Int) {n : Nat} : ∀ (es : List (RE n)) (b q b' q' : List Int) (s : Bool), scanU tt b q es = (b', q', s) → q'.length ≤ q.length + es.length
  | [], b, q, b', q', s, h => by simp [scanU] at h; obtain ⟨rfl, rfl, rfl⟩ := h; simp
  | x :: es, b, q, b', q', s, h => by
    by_cases h0 : 0 ≤ rd b x.1.2
    · rw [scan_old _ _ _ _ _ h0] at h; have := scan_len tt es _ _ _ _ _ h; simp; omega
    · by_cases h2 : x.1.2 = tt
      · rw [scan_hit _ _ _ _ _ h0 h2] at h; simp at h; obtain ⟨rfl, rfl, rfl⟩ := h; simp
      · rw [scan_new _ _ _ _ _ h0 h2] at h; have := scan_len tt es _ _ _ _ _ h; simp at this ⊢; omega
theorem useL_len (l : List S61) (fl : List Int) (n : Nat) (rs : List Int) : (useL l fl n rs).length ≤ rs.length := List.length_filterMap_le _ _
theorem info3' : (Try.prog.info? 3).map (fun i => (i.zero, i.size, i.bytes)) = some (some (.int .i64 0), 1, 8) := by kernel_rfl
/-- append to the queue, in a fence -/
theorem QIn_append {F : Fence} {n : Nat} {W : World} {ops : Array Oper} {rest : List Oper} {o : Oper} {a : Act} {Q : Exit → Act → World → Prop}
    (hgd : o.guard = none) (s x : Operand) (hop : o.op = Op.call { callee := Callee.builtin Builtin.append, args := #[s, x], argTypes := #[23, 23] })
    (B : Nat) (v : Value) (xs : List Int) (p : Int) (ok : Nat → Prop) (hs : a.eval s = v) (hx : a.eval x = .slice (some ⟨W.heap.size, 0, none⟩) 1 1) (hfresh : ∀ k, W.heap.size ≤ k → ok k)
    (HO : Kd.Q (Kd.int .i64) 3 W B ok v xs) (hbase : B ≤ W.heap.size) (hl : (xs.length + 1) * 8 ≤ 140737488355328)
    (hK : ∀ v1 w1, Kd.Q (Kd.int .i64) 3 w1 B ok v1 (xs ++ [p]) → W.grownBy w1 v.ownBlock → wpListIn F n Try.prog ops Q rest (a.put o.dst v1) w1) :
    wpListIn F n Try.prog ops Q (o :: rest) a (W.alloc (.cells #[.int .i64 p] 3)) := by
  obtain ⟨v1, w1, hrun, h1, -, h3, -⟩ := Kd.Q_run (P := Try.prog) (Kd.int .i64) (w0 := W) B 23 o.type 3 (.int .i64 0) 8 Try.underlying23 info3' rfl (by decide) (by decide) v xs p [.int .i64 p] ok (fun _ => False) rfl (fun _ h => h.elim) hfresh HO (Below.refl _ _) hbase hl
  refine wpListIn_plain hgd fun K hK' => ?_
  unfold Oper.wpIn
  refine ⟨?_, ?_⟩
  · simp [Oper.about, hop, resolve, Target.leads, Sem.run_pure]
  · rw [Oper.semAt_plain F _ _ (by rw [hop]; intro c hc'; cases hc')]
    simp [execOp, hop, resolve, invoke, builtin, hs, hx, hrun, Result.andThen]
    exact hK' _ _ (hK v1 w1 h1 h3)
end
end Go.Proofs.Ytadeidhefjifaaa.Px
end
section
set_option linter.unusedVariables false
set_option linter.unusedSimpArgs false
namespace Go.Proofs.Ytadeidhefjifaaa.Px
open Go.RowKit Go.Proofs.YtadeidhefjifaaaW.PrintWords Go.Proofs.YtadeidhefjifaaaW.PrintLast Go.Proofs.YtadeidhefjifaaaW.PrintMore
section
variable {w0 : World} {U : Nat} {w : World} {G : Nat} {A : Option Addr} {c : Nat} {l : List S61} {vF : Value} {fl : List Int} {vA : Value} {adj : List (List Int)}
set_option maxHeartbeats 1000000 in
set_option maxRecDepth 100000 in
theorem pushes_calls (hN : NS w0 U w G A c l vF fl vA adj) (r m : Int) (h0 : 0 ≤ r) (h1 : r < 2 * l.length) (f0 : 0 ≤ rd fl (r / 2)) (f1 : rd fl (r / 2) ≤ 1073741824) (m0 : 0 ≤ m) (m1 : m ≤ 1073741824) (L Bw : Nat)
    (hL : w.heap[L]? = some (.cells #[.int .i64 m] 3 (0, 0))) (hw : w.heap[Bw]? = some (.cells #[.pointer (some ⟨G, 0, none⟩)] 76 (0, 0))) :
    Calls Try.prog 54 #[.int .i64 r, .pointer (some ⟨Bw, 0, none⟩), .pointer (some ⟨L, 0, none⟩)] w fun e w' => e = .returned (.tuple #[]) ∧ NS w0 U w' G A c l vF (pushF fl r m) vA adj ∧ w.grownBy w' vF.ownBlock := by
  have c0 : w.cell? ⟨L, 0, none⟩ = some (.int .i64 m) := (blk_cell hL 0).trans rfl
  have c1 : w.cell? ⟨Bw, 0, none⟩ = some (.pointer (some ⟨G, 0, none⟩)) := (blk_cell hw 0).trans rfl
  have HN := Aside0.mk hN
  clear hL hw hN
  go_enter Try.func54, Try.ntmps54
  go_wp2_with (go_at_call 55; refine (push_calls HN.out r m h0 h1 f0 f1 m0 m1).mono ?_; rintro e w1 ⟨rfl, hn1, hg1⟩)
  go_end0
  exact ⟨rfl, hn1, hg1⟩
end
/-- where a residual edge begins -/
def begR (l : List S61) (r : Int) : Int := if r % 2 = 0 then (rd_T61 l (r / 2)).f0 else (rd_T61 l (r / 2)).f1
/-- the residual edges along which v was reached from frm, last first -/
def isPath (l : List S61) (bys : List Int) (frm : Int) : Int → List Int → Prop
  | v, [] => v = frm
  | v, r :: rs => (v ≠ frm ∧ 0 ≤ v ∧ v < bys.length ∧ r = rd bys v ∧ 0 ≤ r ∧ r < 2 * l.length) ∧ isPath l bys frm (begR l r) rs
theorem nat_xor_one (a : Nat) : a ^^^ 1 = if a % 2 = 0 then a + 1 else a - 1 := by
  have h1 : (a ^^^ 1) / 2 = a / 2 := by rw [Nat.xor_div_two]; simp
  have h2 : (a ^^^ 1) % 2 = (a + 1) % 2 := by
    have := Nat.xor_mod_two_pow (a := a) (b := 1) (n := 1)
    simp only [Nat.pow_one] at this
    rw [this]
    rcases Nat.mod_two_eq_zero_or_one a with h | h <;> rw [h] <;> simp <;> omega
  split <;> omega
theorem xor_one (r : Int) (h0 : 0 ≤ r) (h1 : r < 131072) : Go.bits .xor .i64 r 1 = if r % 2 = 0 then r + 1 else r - 1 := by
  obtain ⟨a, rfl⟩ := Int.eq_ofNat_of_zero_le h0
  have e : Go.bits .xor .i64 (a : Int) 1 = IntKind.i64.wrap ((a ^^^ 1 : Nat) : Int) := by
    have ha' : a % 2 ^ IntKind.i64.bits = a := Nat.mod_eq_of_lt (Nat.lt_of_lt_of_le (show a < 131072 by omega) (by decide))
    have hb' : 1 % 2 ^ IntKind.i64.bits = 1 := by decide
    have h1 : (1 : Int) = ((1 : Nat) : Int) := rfl
    rw [h1]
    simp only [Go.bits, BitVec.ofInt_natCast, BitVec.toNat_xor, BitVec.toNat_ofNat, ha', hb']
  rw [e, nat_xor_one, IntKind.wrap_i64]
  split <;> split <;> omega
theorem end_xor (l : List S61) (r : Int) (h0 : 0 ≤ r) : endR l (if r % 2 = 0 then r + 1 else r - 1) = begR l r := by
  unfold endR begR
  by_cases h : r % 2 = 0
  · rw [if_pos h, if_neg (by omega), if_pos h, show (r + 1) / 2 = r / 2 by omega]
  · rw [if_neg h, if_pos (by omega), if_neg h, show (r - 1) / 2 = r / 2 by omega]
set_option maxHeartbeats 2000000 in
set_option maxRecDepth 100000 in
theorem along52 (w0 : World) (U G : Nat) (A : Option Addr) (c : Nat) (l : List S61) (vF vA : Value) (adj : List (List Int)) (Bt Bf Bw Bb P1 P2 : Nat) (tt frm : Int) (Ab : Option Addr) (cb : Nat) (bys : List Int) (p : List Int)
    (J : List Int → World → Prop)
    (hJ : ∀ (pre : List Int) (W : World), J pre W → (∃ fl, NS w0 U W G A c l vF fl vA adj) ∧ W.cell? ⟨Bt, 0, none⟩ = some (.int .i64 tt) ∧ W.cell? ⟨Bf, 0, none⟩ = some (.int .i64 frm) ∧ W.cell? ⟨Bw, 0, none⟩ = some (.pointer (some ⟨G, 0, none⟩)) ∧ W.cell? ⟨Bb, 0, none⟩ = some (.slice Ab bys.length cb) ∧ Kd.C (Kd.int .i64) W Ab bys.length bys)
    (hD : ∀ (pre : List Int) (W : World) (n : Nat), J pre W → J pre (W.drewN n))
    (hdo : ∀ (pre : List Int) (r : Int) (rest : List Int) (W : World), J pre W → p = pre ++ r :: rest → 0 ≤ r → r < 2 * l.length → Calls Try.prog 52 #[.int .i64 r, .pointer (some ⟨P1, 0, none⟩), .pointer (some ⟨P2, 0, none⟩)] W fun e W' => e = .returned (.tuple #[]) ∧ J (pre ++ [r]) W')
    (hp : isPath l bys frm tt p) (w : World) (h0 : J [] w) :
    Calls Try.prog 50 #[.func (.func 52) #[] #[.pointer (some ⟨P1, 0, none⟩), .pointer (some ⟨P2, 0, none⟩)], .pointer (some ⟨Bt, 0, none⟩), .pointer (some ⟨Bf, 0, none⟩), .pointer (some ⟨Bw, 0, none⟩), .pointer (some ⟨Bb, 0, none⟩)] w fun e w' => e = .returned (.tuple #[]) ∧ J p w' := by
  obtain ⟨-, t0, -, -, -, -⟩ := hJ _ _ h0
  have HJ := Aside0.mk hJ
  have HD := Aside0.mk hD
  have HO := Aside0.mk hdo
  have HP := Aside0.mk hp
  have H0 := Aside0.mk h0
  clear hJ hD hdo hp h0
  go_enter Try.func50, Try.ntmps50
  go_wp2_with fail
  go_loopg [6] p.length (fun g v W => ∃ (x : Int) (pre rest : List Int), v = .int .i64 x ∧ Aside0 (p = pre ++ rest) ∧ Aside0 (isPath l bys frm x rest) ∧ Aside0 (g = rest.length) ∧ Aside0 (J pre W))
  case atStart => exact ⟨tt, [], p, rfl, ⟨rfl⟩, HP, ⟨rfl⟩, H0⟩
  case round =>
    obtain ⟨x, pre, rest, rfl, HE, HX, HG, H1⟩ := hrel
    obtain ⟨⟨fl, hN⟩, -, t1, t2, t3, t4⟩ := HJ.out _ _ H1.out
    cases rest with
    | nil =>
      have hx : x = frm := HX.out
      have b : (x != frm) = false := by simp [hx]
      have hpre : pre = p := by have := HE.out; simpa using this.symm
      have HX2 := Aside0.mk hpre
      clear hx hpre hN
      go_wp2_with fail
      go_end0
      exact ⟨rfl, by rw [← HX2.out]; exact H1.out⟩
    | cons r rest =>
      obtain ⟨⟨a1, a2, a3, a4, a5, a6⟩, a7⟩ := HX.out
      have b : (x != frm) = true := by simp [a1]
      obtain ⟨ab, e, y0⟩ := rd_at t4 x a2 a3
      cases e
      rw [← a4] at y0
      have p0 : decide (0 ≤ x) = true := decide_eq_true a2
      have p1 : decide (x < (bys.length : Int)) = true := decide_eq_true a3
      have HX4 := Aside0.mk a4
      clear a1 a4
      go_wp2_with fail
      refine (HO.out pre r rest _ H1.out HE.out a5 a6).mono ?_
      rintro e W1 ⟨rfl, h2⟩
      obtain ⟨⟨fl1, hN1⟩, -, u1, u2, u3, u4⟩ := HJ.out _ _ h2
      obtain ⟨ab1, e, z0⟩ := rd_at u4 x a2 a3
      cases e
      rw [show rd bys x = r from HX4.out.symm] at z0
      obtain ⟨r', hr'⟩ : ∃ r', r' = if r % 2 = 0 then r + 1 else r - 1 := ⟨_, rfl⟩
      have hxo := xor_one r a5 (by have := hN1.hm; omega)
      rw [← hr'] at hxo
      have he := end_xor l r a5
      rw [← hr'] at he
      have r0 : 0 ≤ r' := by rw [hr']; split <;> omega
      have r1 : r' < 2 * l.length := by rw [hr']; split <;> omega
      have hE : ∀ n, Calls Try.prog 51 #[.pointer (some ⟨G, 0, none⟩), .int .i64 r'] (W1.drewN n) fun e w' => e = .returned (.int .i64 (begR l r)) ∧ w' = W1.drewN n := fun n => by
        rw [← he]; exact (end_calls (hN1.below (pw_below_drewN (Below.refl _ _) n)) r' r0 r1).mono fun e w' h => ⟨h.1, h.2.symm⟩
      have HE2 := Aside0.mk hE
      have H2 := Aside0.mk h2
      clear hN1 hE he hr' h2 hN u4 t4 y0
      go_wp2_with fail
      go_quiet ((go_at_call 51; exact Calls.quiet_of_same (HE2.out _)))
      go_wp2_with fail
      go_roundg rest.length
      case measure => have := HG.out; simp at this; omega
      case rel => exact ⟨begR l r, pre ++ [r], rest, rfl, ⟨by have := HE.out; simpa using this⟩, ⟨a7⟩, ⟨rfl⟩, ⟨HD.out _ _ _ H2.out⟩⟩
set_option maxHeartbeats 2000000 in
set_option maxRecDepth 100000 in
theorem along54 (w0 : World) (U G : Nat) (A : Option Addr) (c : Nat) (l : List S61) (vF vA : Value) (adj : List (List Int)) (Bt Bf Bw Bb P1 P2 : Nat) (tt frm : Int) (Ab : Option Addr) (cb : Nat) (bys : List Int) (p : List Int)
    (J : List Int → World → Prop)
    (hJ : ∀ (pre : List Int) (W : World), J pre W → (∃ fl, NS w0 U W G A c l vF fl vA adj) ∧ W.cell? ⟨Bt, 0, none⟩ = some (.int .i64 tt) ∧ W.cell? ⟨Bf, 0, none⟩ = some (.int .i64 frm) ∧ W.cell? ⟨Bw, 0, none⟩ = some (.pointer (some ⟨G, 0, none⟩)) ∧ W.cell? ⟨Bb, 0, none⟩ = some (.slice Ab bys.length cb) ∧ Kd.C (Kd.int .i64) W Ab bys.length bys)
    (hD : ∀ (pre : List Int) (W : World) (n : Nat), J pre W → J pre (W.drewN n))
    (hdo : ∀ (pre : List Int) (r : Int) (rest : List Int) (W : World), J pre W → p = pre ++ r :: rest → 0 ≤ r → r < 2 * l.length → Calls Try.prog 54 #[.int .i64 r, .pointer (some ⟨P1, 0, none⟩), .pointer (some ⟨P2, 0, none⟩)] W fun e W' => e = .returned (.tuple #[]) ∧ J (pre ++ [r]) W')
    (hp : isPath l bys frm tt p) (w : World) (h0 : J [] w) :
    Calls Try.prog 50 #[.func (.func 54) #[] #[.pointer (some ⟨P1, 0, none⟩), .pointer (some ⟨P2, 0, none⟩)], .pointer (some ⟨Bt, 0, none⟩), .pointer (some ⟨Bf, 0, none⟩), .pointer (some ⟨Bw, 0, none⟩), .pointer (some ⟨Bb, 0, none⟩)] w fun e w' => e = .returned (.tuple #[]) ∧ J p w' := by
  obtain ⟨-, t0, -, -, -, -⟩ := hJ _ _ h0
  have HJ := Aside0.mk hJ
  have HD := Aside0.mk hD
  have HO := Aside0.mk hdo
  have HP := Aside0.mk hp
  have H0 := Aside0.mk h0
  clear hJ hD hdo hp h0
  go_enter Try.func50, Try.ntmps50
  go_wp2_with fail
  go_loopg [6] p.length (fun g v W => ∃ (x : Int) (pre rest : List Int), v = .int .i64 x ∧ Aside0 (p = pre ++ rest) ∧ Aside0 (isPath l bys frm x rest) ∧ Aside0 (g = rest.length) ∧ Aside0 (J pre W))
  case atStart => exact ⟨tt, [], p, rfl, ⟨rfl⟩, HP, ⟨rfl⟩, H0⟩
  case round =>
    obtain ⟨x, pre, rest, rfl, HE, HX, HG, H1⟩ := hrel
    obtain ⟨⟨fl, hN⟩, -, t1, t2, t3, t4⟩ := HJ.out _ _ H1.out
    cases rest with
    | nil =>
      have hx : x = frm := HX.out
      have b : (x != frm) = false := by simp [hx]
      have hpre : pre = p := by have := HE.out; simpa using this.symm
      have HX2 := Aside0.mk hpre
      clear hx hpre hN
      go_wp2_with fail
      go_end0
      exact ⟨rfl, by rw [← HX2.out]; exact H1.out⟩
    | cons r rest =>
      obtain ⟨⟨a1, a2, a3, a4, a5, a6⟩, a7⟩ := HX.out
      have b : (x != frm) = true := by simp [a1]
      obtain ⟨ab, e, y0⟩ := rd_at t4 x a2 a3
      cases e
      rw [← a4] at y0
      have p0 : decide (0 ≤ x) = true := decide_eq_true a2
      have p1 : decide (x < (bys.length : Int)) = true := decide_eq_true a3
      have HX4 := Aside0.mk a4
      clear a1 a4
      go_wp2_with fail
      refine (HO.out pre r rest _ H1.out HE.out a5 a6).mono ?_
      rintro e W1 ⟨rfl, h2⟩
      obtain ⟨⟨fl1, hN1⟩, -, u1, u2, u3, u4⟩ := HJ.out _ _ h2
      obtain ⟨ab1, e, z0⟩ := rd_at u4 x a2 a3
      cases e
      rw [show rd bys x = r from HX4.out.symm] at z0
      obtain ⟨r', hr'⟩ : ∃ r', r' = if r % 2 = 0 then r + 1 else r - 1 := ⟨_, rfl⟩
      have hxo := xor_one r a5 (by have := hN1.hm; omega)
      rw [← hr'] at hxo
      have he := end_xor l r a5
      rw [← hr'] at he
      have r0 : 0 ≤ r' := by rw [hr']; split <;> omega
      have r1 : r' < 2 * l.length := by rw [hr']; split <;> omega
      have hE : ∀ n, Calls Try.prog 51 #[.pointer (some ⟨G, 0, none⟩), .int .i64 r'] (W1.drewN n) fun e w' => e = .returned (.int .i64 (begR l r)) ∧ w' = W1.drewN n := fun n => by
        rw [← he]; exact (end_calls (hN1.below (pw_below_drewN (Below.refl _ _) n)) r' r0 r1).mono fun e w' h => ⟨h.1, h.2.symm⟩
      have HE2 := Aside0.mk hE
      have H2 := Aside0.mk h2
      clear hN1 hE he hr' h2 hN u4 t4 y0
      go_wp2_with fail
      go_quiet ((go_at_call 51; exact Calls.quiet_of_same (HE2.out _)))
      go_wp2_with fail
      go_roundg rest.length
      case measure => have := HG.out; simp at this; omega
      case rel => exact ⟨begR l r, pre ++ [r], rest, rfl, ⟨by have := HE.out; simpa using this⟩, ⟨a7⟩, ⟨rfl⟩, ⟨HD.out _ _ _ H2.out⟩⟩
end Go.Proofs.Ytadeidhefjifaaa.Px
end
section
namespace FlowM
/-- the sum of g over 0 .. n-1 -/
def sumN : Nat → (Int → Int) → Int
  | 0, _ => 0
  | n + 1, g => sumN n g + g n
theorem sumN_add (n : Nat) (g h : Int → Int) : sumN n (fun v => g v + h v) = sumN n g + sumN n h := by
  induction n with
  | zero => rfl
  | succ n ih => simp only [sumN, ih]; omega
theorem sumN_sub (n : Nat) (g h : Int → Int) : sumN n (fun v => g v - h v) = sumN n g - sumN n h := by
  induction n with
  | zero => rfl
  | succ n ih => simp only [sumN, ih]; omega
theorem sumN_zero (n : Nat) : sumN n (fun _ => 0) = 0 := by
  induction n with
  | zero => rfl
  | succ n ih => simp only [sumN, ih]; rfl
theorem sumN_congr (n : Nat) (g h : Int → Int) (e : ∀ v : Int, 0 ≤ v → v < n → g v = h v) : sumN n g = sumN n h := by
  induction n with
  | zero => rfl
  | succ n ih =>
    simp only [sumN]
    rw [ih (fun v h0 h1 => e v h0 (by omega)), e n (by omega) (by omega)]
theorem sumN_one (n : Nat) (s : Int) (f : Int) : sumN n (fun v => if s = v then f else 0) = if 0 ≤ s ∧ s < n then f else 0 := by
  induction n with
  | zero => simp only [sumN]; rw [if_neg (by omega)]
  | succ n ih =>
    simp only [sumN, ih]
    by_cases h : s = n
    · subst h; rw [if_neg (by omega), if_pos rfl, if_pos (by omega)]; omega
    · rw [if_neg h]
      by_cases h2 : 0 ≤ s ∧ s < n
      · rw [if_pos h2, if_pos (by omega)]; omega
      · rw [if_neg h2, if_neg (by omega)]; omega
theorem sumN_cut (n : Nat) (C : Int → Bool) (s : Int) (f : Int) (h0 : 0 ≤ s) (h1 : s < n) :
    sumN n (fun v => if C v = true then (if s = v then f else 0) else 0) = if C s = true then f else 0 := by
  rw [sumN_congr n _ (fun v => if s = v then (if C s = true then f else 0) else 0)]
  · rw [sumN_one, if_pos ⟨h0, h1⟩]
  · intro v _ _
    by_cases e : s = v
    · subst e; simp
    · simp [e]
section
variable {α : Type} (fr to_ cp : α → Int)
/-- what flows out of a node, minus what flows in -/
def outs : List α → List Int → Int → Int
  | x :: l, f :: fs, v => ((if fr x = v then f else 0) - (if to_ x = v then f else 0)) + outs l fs v
  | _, _, _ => 0
/-- what crosses a cut outwards, minus what crosses inwards -/
def cross (C : Int → Bool) : List α → List Int → Int
  | x :: l, f :: fs => ((if C (fr x) = true then f else 0) - (if C (to_ x) = true then f else 0)) + cross C l fs
  | _, _ => 0
/-- the capacity of a cut -/
def cap (C : Int → Bool) : List α → Int
  | x :: l => (if C (fr x) = true ∧ C (to_ x) = false then cp x else 0) + cap C l
  | [] => 0
/-- as many flows as edges, each between 0 and the capacity -/
def Bnd : List α → List Int → Prop
  | x :: l, f :: fs => (0 ≤ f ∧ f ≤ cp x) ∧ Bnd l fs
  | [], [] => True
  | _, _ => False
/-- no residual edge leaves the cut -/
def Closed (C : Int → Bool) : List α → List Int → Prop
  | x :: l, f :: fs => ((C (fr x) = true → C (to_ x) = false → f = cp x) ∧ (C (to_ x) = true → C (fr x) = false → f = 0)) ∧ Closed C l fs
  | _, _ => True
/-- each edge joins two different nodes of 0 .. n-1 -/
def Ends (n : Int) (l : List α) : Prop := ∀ x ∈ l, (0 ≤ fr x ∧ fr x < n) ∧ (0 ≤ to_ x ∧ to_ x < n) ∧ fr x ≠ to_ x ∧ 0 ≤ cp x ∧ cp x ≤ 1073741824
structure Flow (n : Int) (l : List α) (s t : Int) (fs : List Int) : Prop where
  bnd : Bnd cp l fs
  cons : ∀ v, 0 ≤ v → v < n → v ≠ s → v ≠ t → outs fr to_ l fs v = 0
/-- a flow, and the set of the nodes that the residual network reaches from s; t is not among them -/
structure Opt (n : Int) (l : List α) (s t : Int) (fs : List Int) (C : Int → Bool) : Prop where
  flow : Flow fr to_ cp n l s t fs
  hs : C s = true
  ht : C t = false
  closed : Closed fr to_ cp C l fs
  least : ∀ D : Int → Bool, D s = true → Closed fr to_ cp D l fs → ∀ v, 0 ≤ v → v < n → C v = true → D v = true
variable {fr to_ cp}
theorem Bnd.length : ∀ {l : List α} {fs : List Int}, Bnd cp l fs → fs.length = l.length
  | [], [], _ => rfl
  | _ :: l, _ :: fs, h => by simp [Bnd.length (l := l) (fs := fs) h.2]
  | [], _ :: _, h => h.elim
  | _ :: _, [], h => h.elim
theorem cross_sum (C : Int → Bool) (n : Nat) : ∀ (l : List α) (fs : List Int), (∀ x ∈ l, (0 ≤ fr x ∧ fr x < n) ∧ (0 ≤ to_ x ∧ to_ x < n)) →
    sumN n (fun v => if C v = true then outs fr to_ l fs v else 0) = cross fr to_ C l fs
  | [], fs, _ => by simp [outs, cross, sumN_zero]
  | x :: l, [], _ => by simp [outs, cross, sumN_zero]
  | x :: l, f :: fs, h => by
    have ih := cross_sum C n l fs (fun y hy => h y (by simp [hy]))
    obtain ⟨⟨a0, a1⟩, b0, b1⟩ := h x (by simp)
    simp only [cross, ← ih]
    rw [sumN_congr n _ (fun v => ((if C v = true then (if fr x = v then f else 0) else 0) - (if C v = true then (if to_ x = v then f else 0) else 0)) + (if C v = true then outs fr to_ l fs v else 0))]
    · rw [sumN_add, sumN_sub, sumN_cut n C _ f a0 a1, sumN_cut n C _ f b0 b1]
    · intro v _ _
      simp only [outs]
      by_cases e : C v = true
      · simp [e]
      · simp [e]
theorem cross_le (C : Int → Bool) : ∀ (l : List α) (fs : List Int), Bnd cp l fs → cross fr to_ C l fs ≤ cap fr to_ cp C l
  | [], [], _ => by simp [cross, cap]
  | x :: l, f :: fs, h => by
    have ih := cross_le C l fs h.2
    have ⟨h0, h1⟩ := h.1
    simp only [cross, cap]
    cases e1 : C (fr x) <;> cases e2 : C (to_ x) <;> simp <;> omega
  | [], _ :: _, h => h.elim
  | _ :: _, [], h => h.elim
theorem cross_closed (C : Int → Bool) : ∀ (l : List α) (fs : List Int), Bnd cp l fs → (cross fr to_ C l fs = cap fr to_ cp C l ↔ Closed fr to_ cp C l fs)
  | [], [], _ => by simp [cross, cap, Closed]
  | x :: l, f :: fs, h => by
    have ih := cross_closed C l fs h.2
    have hl := cross_le (fr := fr) (to_ := to_) C l fs h.2
    have ⟨h0, h1⟩ := h.1
    simp only [cross, cap, Closed]
    cases e1 : C (fr x) <;> cases e2 : C (to_ x) <;> simp <;> first | exact ih | (rw [← ih]; omega)
  | [], _ :: _, h => h.elim
  | _ :: _, [], h => h.elim
theorem value_cross {n s t : Int} {l : List α} {fs : List Int} (hn : 0 ≤ n) (hE : Ends fr to_ cp n l) (hf : Flow fr to_ cp n l s t fs) (hs0 : 0 ≤ s) (hs1 : s < n) (C : Int → Bool) (hs : C s = true) (ht : C t = false) :
    outs fr to_ l fs s = cross fr to_ C l fs := by
  obtain ⟨m, rfl⟩ := Int.eq_ofNat_of_zero_le hn
  rw [← cross_sum C m l fs (fun x hx => ⟨(hE x hx).1, (hE x hx).2.1⟩)]
  rw [sumN_congr m _ (fun v => if s = v then outs fr to_ l fs s else 0)]
  · rw [sumN_one, if_pos ⟨hs0, hs1⟩]
  · intro v h0 h1
    by_cases e : s = v
    · subst e; simp [hs]
    · rw [if_neg e]
      by_cases et : v = t
      · subst et; simp [ht]
      · rw [hf.cons v h0 h1 (fun h => e h.symm) et]; simp
theorem weak {n s t : Int} {l : List α} {fs : List Int} (hn : 0 ≤ n) (hE : Ends fr to_ cp n l) (hf : Flow fr to_ cp n l s t fs) (hs0 : 0 ≤ s) (hs1 : s < n) (C : Int → Bool) (hs : C s = true) (ht : C t = false) :
    outs fr to_ l fs s ≤ cap fr to_ cp C l := by
  rw [value_cross hn hE hf hs0 hs1 C hs ht]; exact cross_le C l fs hf.bnd
theorem tight {n s t : Int} {l : List α} {fs : List Int} (hn : 0 ≤ n) (hE : Ends fr to_ cp n l) (hf : Flow fr to_ cp n l s t fs) (hs0 : 0 ≤ s) (hs1 : s < n) (C : Int → Bool) (hs : C s = true) (ht : C t = false) :
    outs fr to_ l fs s = cap fr to_ cp C l ↔ Closed fr to_ cp C l fs := by
  rw [value_cross hn hE hf hs0 hs1 C hs ht]; exact cross_closed C l fs hf.bnd
theorem Opt.value {n s t : Int} {l : List α} {fs : List Int} {C : Int → Bool} (h : Opt fr to_ cp n l s t fs C) (hn : 0 ≤ n) (hE : Ends fr to_ cp n l) (hs0 : 0 ≤ s) (hs1 : s < n) :
    outs fr to_ l fs s = cap fr to_ cp C l := (tight hn hE h.flow hs0 hs1 C h.hs h.ht).2 h.closed
/-- no cut is lesser -/
theorem Opt.min {n s t : Int} {l : List α} {fs : List Int} {C : Int → Bool} (h : Opt fr to_ cp n l s t fs C) (hn : 0 ≤ n) (hE : Ends fr to_ cp n l) (hs0 : 0 ≤ s) (hs1 : s < n) (D : Int → Bool) (ds : D s = true) (dt : D t = false) :
    cap fr to_ cp C l ≤ cap fr to_ cp D l := by
  rw [← h.value hn hE hs0 hs1]; exact weak hn hE h.flow hs0 hs1 D ds dt
variable {β : Type}
end
end FlowM
end
section
set_option linter.unusedVariables false
set_option linter.unusedSimpArgs false
namespace Go.Proofs.Ytadeidhefjifaaa.Px
open Go.RowKit Go.Shelf Go.Proofs.YtadeidhefjifaaaW.PrintWords Go.Proofs.YtadeidhefjifaaaW.PrintLast Go.Proofs.YtadeidhefjifaaaW.PrintMore
theorem addAt_getD (a : List (List Int)) (u y v : Int) (h0 : 0 ≤ u) (h1 : u < a.length) (v0 : 0 ≤ v) : (addAt a u y).getD v.toNat [] = if u = v then a.getD v.toNat [] ++ [y] else a.getD v.toNat [] := by
  unfold addAt
  by_cases e : u = v
  · subst e; rw [if_pos rfl, getD_set_self _ _ _ _ (by omega)]
  · rw [if_neg e, getD_set_ne _ _ _ _ _ (by omega)]
theorem addAt_length (a : List (List Int)) (u y : Int) : (addAt a u y).length = a.length := by simp [addAt]
abbrev GoodL (n : Int) (l : List S61) : Prop := FlowM.Ends S61.f0 S61.f1 S61.f2 n l
theorem adjOf_length : ∀ (l : List S61) (i : Int) (a : List (List Int)), (adjOf l i a).length = a.length
  | [], _, _ => rfl
  | x :: l, i, a => by rw [adjOf, adjOf_length l, adjStep, addAt_length, addAt_length]
theorem adjOf_len : ∀ (l : List S61) (i : Int) (a : List (List Int)) (k : Nat), (∀ j, (a.getD j []).length ≤ k) → ∀ j, ((adjOf l i a).getD j []).length ≤ k + 2 * l.length
  | [], _, _, k, h, j => h j
  | x :: l, i, a, k, h, j => by
    rw [adjOf]
    have := adjOf_len l (i + 1) (adjStep a x i) (k + 1 + 1) (fun j => addAt_len _ _ _ _ (fun j => addAt_len _ _ _ _ h j) j) j
    simp only [List.length_cons]; omega
theorem adjOf_mem (n : Int) (v r : Int) (v0 : 0 ≤ v) : ∀ (l : List S61) (i : Int) (a : List (List Int)), (∀ x ∈ l, (0 ≤ x.f0 ∧ x.f0 < n) ∧ (0 ≤ x.f1 ∧ x.f1 < n)) → (a.length : Int) = n →
    (r ∈ (adjOf l i a).getD v.toNat [] ↔ r ∈ a.getD v.toNat [] ∨ ∃ (j : Nat) (x : S61), l[j]? = some x ∧ ((r = 2 * (i + j) ∧ x.f0 = v) ∨ (r = 2 * (i + j) + 1 ∧ x.f1 = v)))
  | [], i, a, hx, ha => by simp [adjOf]
  | x :: l, i, a, hx, ha => by
    obtain ⟨⟨a0, a1⟩, b0, b1⟩ := hx x (by simp)
    rw [adjOf, adjOf_mem n v r v0 l (i + 1) _ (fun y hy => hx y (by simp [hy])) (by rw [adjStep, addAt_length, addAt_length]; exact ha), adjStep,
      addAt_getD _ _ _ _ b0 (by rw [addAt_length]; omega) v0, addAt_getD _ _ _ _ a0 (by omega) v0]
    have e1 : (∃ (j : Nat) (y : S61), (x :: l)[j]? = some y ∧ ((r = 2 * (i + j) ∧ y.f0 = v) ∨ (r = 2 * (i + j) + 1 ∧ y.f1 = v))) ↔
        ((r = 2 * i ∧ x.f0 = v) ∨ (r = 2 * i + 1 ∧ x.f1 = v)) ∨ ∃ (j : Nat) (y : S61), l[j]? = some y ∧ ((r = 2 * (i + 1 + j) ∧ y.f0 = v) ∨ (r = 2 * (i + 1 + j) + 1 ∧ y.f1 = v)) := by
      constructor
      · rintro ⟨j, y, hy, h⟩
        cases j with
        | zero => simp at hy; subst hy; exact .inl (by simpa using h)
        | succ j => exact .inr ⟨j, y, by simpa using hy, by rw [show i + 1 + (j : Int) = i + ((j + 1 : Nat) : Int) by omega]; exact h⟩
      · rintro (h | ⟨j, y, hy, h⟩)
        · exact ⟨0, x, rfl, by simpa using h⟩
        · exact ⟨j + 1, y, by simpa using hy, by rw [show i + ((j + 1 : Nat) : Int) = i + 1 + (j : Int) by omega]; exact h⟩
    rw [e1]
    generalize (∃ (j : Nat) (y : S61), l[j]? = some y ∧ ((r = 2 * (i + 1 + j) ∧ y.f0 = v) ∨ (r = 2 * (i + 1 + j) + 1 ∧ y.f1 = v))) = X
    by_cases h1 : x.f1 = v <;> by_cases h0 : x.f0 = v <;> simp [h1, h0] <;> (try constructor) <;> (try (intro h; rcases h with (h | h | h) | h <;> simp_all)) <;> simp_all [or_assoc]
/-- the residual edges at a node -/
abbrev adjG (n : Nat) (l : List S61) : List (List Int) := adjOf l 0 (List.replicate n [])
theorem rdT_some (l : List S61) (j : Nat) (x : S61) (h : l[j]? = some x) : rd_T61 l j = x := by simp [rd_T61, List.getD, h]
theorem rdT_mem (l : List S61) (i : Int) (h0 : 0 ≤ i) (h1 : i < l.length) : rd_T61 l i ∈ l := by
  rw [← rd_mem l i h0 h1]; exact List.getElem_mem _
theorem adj_iff (n : Nat) (l : List S61) (hg : GoodL n l) (v r : Int) (v0 : 0 ≤ v) : r ∈ (adjG n l).getD v.toNat [] ↔ 0 ≤ r ∧ r < 2 * l.length ∧ begR l r = v := by
  rw [adjOf_mem n v r v0 l 0 _ (fun x hx => ⟨(hg x hx).1, (hg x hx).2.1⟩) (by simp), repl_nil]
  constructor
  · rintro (h | ⟨j, x, hj, h⟩)
    · cases h
    · have hlt : j < l.length := (List.getElem?_eq_some_iff.1 hj).1
      have hx := rdT_some l j x hj
      rcases h with ⟨rfl, hv⟩ | ⟨rfl, hv⟩
      · refine ⟨by omega, by omega, ?_⟩
        unfold begR; rw [if_pos (by omega), show 2 * ((0 : Int) + j) / 2 = j by omega, hx, hv]
      · refine ⟨by omega, by omega, ?_⟩
        unfold begR; rw [if_neg (by omega), show (2 * ((0 : Int) + j) + 1) / 2 = j by omega, hx, hv]
  · rintro ⟨h0, h1, hb⟩
    refine .inr ⟨(r / 2).toNat, rd_T61 l (r / 2), ?_, ?_⟩
    · have : (r / 2).toNat < l.length := by omega
      rw [List.getElem?_eq_getElem this, rd_mem l (r / 2) (by omega) (by omega)]
    · unfold begR at hb
      by_cases hp : r % 2 = 0
      · rw [if_pos hp] at hb; exact .inl ⟨by omega, hb⟩
      · rw [if_neg hp] at hb; exact .inr ⟨by omega, hb⟩
theorem adj_lens (n : Nat) (l : List S61) (v : Int) : ((adjG n l).getD v.toNat []).length ≤ 2 * l.length := by
  have := adjOf_len l 0 (List.replicate n []) 0 (fun j => by rw [repl_nil]; simp) v.toNat
  show ((adjOf l 0 (List.replicate n [])).getD v.toNat []).length ≤ _
  omega
theorem endR_in (n : Nat) (l : List S61) (hg : GoodL n l) (r : Int) (h0 : 0 ≤ r) (h1 : r < 2 * l.length) : 0 ≤ endR l r ∧ endR l r < n := by
  have := hg _ (rdT_mem l (r / 2) (by omega) (by omega))
  unfold endR; split
  · exact this.2.1
  · exact this.1
theorem begR_in (n : Nat) (l : List S61) (hg : GoodL n l) (r : Int) (h0 : 0 ≤ r) (h1 : r < 2 * l.length) : 0 ≤ begR l r ∧ begR l r < n := by
  have := hg _ (rdT_mem l (r / 2) (by omega) (by omega))
  unfold begR; split
  · exact this.1
  · exact this.2.1
/-- the usable ones at a node -/
abbrev useG (n : Nat) (l : List S61) (fl : List Int) (v : Int) : List (RE n) := useL l fl n ((adjG n l).getD v.toNat [])
theorem use_iff (n : Nat) (l : List S61) (fl : List Int) (hg : GoodL n l) (v : Int) (v0 : 0 ≤ v) (x : RE n) : x ∈ useG n l fl v ↔ 0 ≤ x.1.1 ∧ x.1.1 < 2 * l.length ∧ begR l x.1.1 = v ∧ capR l fl x.1.1 > 0 ∧ x.1.2 = endR l x.1.1 := by
  constructor
  · intro h
    obtain ⟨h1, h2, h3⟩ := useL_mem h
    obtain ⟨a, b, c⟩ := (adj_iff n l hg v _ v0).1 h1
    exact ⟨a, b, c, h2, h3⟩
  · rintro ⟨a, b, c, d, e⟩
    have := (adj_iff n l hg v _ v0).2 ⟨a, b, c⟩
    unfold useG useL
    refine List.mem_filterMap.2 ⟨x.1.1, this, ?_⟩
    have he := endR_in n l hg _ a b
    rw [dif_pos ⟨d, he⟩]
    congr 1
    apply Subtype.ext
    exact Prod.ext rfl e.symm
/-- the residual edges with room along which v was reached, last first -/
def GP (n : Nat) (l : List S61) (fl b : List Int) (frm : Int) : Int → List Int → Prop
  | v, [] => v = frm
  | v, r :: rs => (v ≠ frm ∧ (0 ≤ v ∧ v < n) ∧ r = rd b v ∧ 0 ≤ r ∧ r < 2 * l.length ∧ capR l fl r > 0 ∧ endR l r = v) ∧ GP n l fl b frm (begR l r) rs
theorem GP.path {n : Nat} {l : List S61} {fl b : List Int} {frm : Int} (hb : b.length = n) : ∀ {p : List Int} {v : Int}, GP n l fl b frm v p → isPath l b frm v p
  | [], v, h => h
  | r :: rs, v, h => ⟨⟨h.1.1, h.1.2.1.1, by rw [hb]; exact h.1.2.1.2, h.1.2.2.1, h.1.2.2.2.1, h.1.2.2.2.2.1⟩, GP.path hb h.2⟩
theorem GP.keep {n : Nat} {l : List S61} {fl b b' : List Int} {frm : Int} (hk : ∀ u : Int, 0 ≤ u → u < n → 0 ≤ rd b u → rd b' u = rd b u) : ∀ {p : List Int} {v : Int}, GP n l fl b frm v p → GP n l fl b' frm v p
  | [], v, h => h
  | r :: rs, v, h => ⟨⟨h.1.1, h.1.2.1, by rw [hk v h.1.2.1.1 h.1.2.1.2 (by have := h.1.2.2.1; have := h.1.2.2.2.1; omega)]; exact h.1.2.2.1, h.1.2.2.2⟩, GP.keep hk h.2⟩
theorem GP.det {n : Nat} {l : List S61} {fl b : List Int} {frm : Int} : ∀ {p q : List Int} {v : Int}, GP n l fl b frm v p → GP n l fl b frm v q → p = q
  | [], [], v, _, _ => rfl
  | [], _ :: _, v, h, k => absurd h k.1.1
  | _ :: _, [], v, h, k => absurd k h.1.1
  | r :: rs, s :: ss, v, h, k => by
    have : r = s := h.1.2.2.1.trans k.1.2.2.1.symm
    subst this
    rw [GP.det h.2 k.2]
theorem GP.suffix {n : Nat} {l : List S61} {fl b : List Int} {frm : Int} : ∀ {pre : List Int} {r : Int} {rs : List Int} {v : Int}, GP n l fl b frm v (pre ++ r :: rs) → GP n l fl b frm (endR l r) (r :: rs)
  | [], r, rs, v, h => by have := h.1.2.2.2.2.2.2; rw [this]; exact h
  | _ :: pre, r, rs, v, h => GP.suffix (pre := pre) h.2
theorem GP.mem {n : Nat} {l : List S61} {fl b : List Int} {frm : Int} : ∀ {p : List Int} {v : Int}, GP n l fl b frm v p → ∀ r ∈ p, 0 ≤ r ∧ r < 2 * l.length ∧ capR l fl r > 0
  | [], v, h, r, hr => by cases hr
  | s :: ss, v, h, r, hr => by
    rcases List.mem_cons.1 hr with rfl | hr
    · exact ⟨h.1.2.2.2.1, h.1.2.2.2.2.1, h.1.2.2.2.2.2.1⟩
    · exact GP.mem h.2 r hr
/-- no edge twice, nor in both directions -/
theorem GP.nodup {n : Nat} {l : List S61} {fl b : List Int} {frm : Int} : ∀ {p : List Int} {v : Int}, GP n l fl b frm v p → (p.map (· / 2)).Nodup
  | [], v, h => List.nodup_nil
  | r :: rs, v, h => by
    rw [List.map_cons, List.nodup_cons]
    refine ⟨fun hm => ?_, GP.nodup h.2⟩
    obtain ⟨s, hs, he⟩ := List.mem_map.1 hm
    obtain ⟨pre, suf, rfl⟩ := List.append_of_mem hs
    have hsuf := GP.suffix h.2
    have hr := h.1
    by_cases hrs : s = r
    · subst hrs
      rw [hr.2.2.2.2.2.2] at hsuf
      have := congrArg List.length (GP.det h hsuf)
      simp at this; omega
    · have hbe : begR l s = endR l r := by
        unfold begR endR
        have h1 := hr.2.2.2.1
        have h2 := hsuf.1.2.2.2.1
        rw [he]
        by_cases hp : r % 2 = 0
        · rw [if_pos hp, if_neg (by omega)]
        · rw [if_neg hp, if_pos (by omega)]
      have h2 := hsuf.2
      rw [hbe, hr.2.2.2.2.2.2] at h2
      have := congrArg List.length (GP.det h h2)
      simp at this; omega
theorem rd_set {b : List Int} {n : Nat} (hb : b.length = n) (u x v : Int) (u0 : 0 ≤ u) (u1 : u < n) (v0 : 0 ≤ v) : rd (b.set u.toNat x) v = if v = u then x else rd b v := by
  unfold rd
  by_cases e : v = u
  · subst e; rw [if_pos rfl]; simp [List.getD, show v.toNat < b.length by omega]
  · rw [if_neg e]; exact getD_set_ne _ _ _ _ _ (by omega)
/-- what a search keeps: every node that was met has a path -/
structure SInv (n : Nat) (l : List S61) (fl : List Int) (frm : Int) (b q : List Int) : Prop where
  len : b.length = n
  root : 0 ≤ rd b frm
  path : ∀ v : Int, 0 ≤ v → v < n → 0 ≤ rd b v → ∃ p, GP n l fl b frm v p
  que : ∀ x ∈ q, (0 ≤ x ∧ x < n) ∧ 0 ≤ rd b x
/-- a node whose usable edges all lead to nodes that were met -/
def Shut (n : Nat) (l : List S61) (fl b : List Int) (v : Int) : Prop := ∀ x ∈ useG n l fl v, 0 ≤ rd b x.1.2
theorem scan_inv (n : Nat) (l : List S61) (hg : GoodL n l) (fl : List Int) (frm tt : Int) (v : Int) (v0 : 0 ≤ v) (v1 : v < n) : ∀ (es : List (RE n)) (b q b' q' : List Int) (s : Bool), (∀ x ∈ es, x ∈ useG n l fl v) →
    SInv n l fl frm b q → 0 ≤ rd b v → scanU tt b q es = (b', q', s) →
    SInv n l fl frm b' q' ∧ (∀ u : Int, 0 ≤ u → u < n → 0 ≤ rd b u → rd b' u = rd b u) ∧ (s = true → 0 ≤ rd b' tt) ∧ (s = false → (∀ x ∈ es, 0 ≤ rd b' x.1.2) ∧ (∀ x ∈ q, x ∈ q') ∧ ∀ u : Int, 0 ≤ u → u < n → 0 ≤ rd b' u → 0 ≤ rd b u ∨ u ∈ q')
  | [], b, q, b', q', s, hes, hI, hv, h => by
    simp [scanU] at h; obtain ⟨rfl, rfl, rfl⟩ := h
    exact ⟨hI, fun _ _ _ _ => rfl, fun h => (by cases h), fun _ => ⟨fun x hx => by (cases hx), fun x hx => hx, fun u _ _ hu => .inl hu⟩⟩
  | x :: es, b, q, b', q', s, hes, hI, hv, h => by
    have hx := (use_iff n l fl hg v v0 x).1 (hes x (by simp))
    by_cases h0 : 0 ≤ rd b x.1.2
    · rw [scan_old _ _ _ _ _ h0] at h
      obtain ⟨i1, i2, i3, i4⟩ := scan_inv n l hg fl frm tt v v0 v1 es b q b' q' s (fun y hy => hes y (by simp [hy])) hI hv h
      refine ⟨i1, i2, i3, fun hs => ⟨fun y hy => ?_, (i4 hs).2⟩⟩
      rcases List.mem_cons.1 hy with rfl | hy
      · rw [i2 _ y.2.1 y.2.2 h0]; exact h0
      · exact (i4 hs).1 y hy
    · have hk : ∀ u : Int, 0 ≤ u → u < n → 0 ≤ rd b u → rd (b.set x.1.2.toNat x.1.1) u = rd b u := fun u u0 u1 hu => by
        rw [rd_set hI.len _ _ _ x.2.1 x.2.2 u0, if_neg (fun e => h0 (by rw [← e]; exact hu))]
      have hself : rd (b.set x.1.2.toNat x.1.1) x.1.2 = x.1.1 := by rw [rd_set hI.len _ _ _ x.2.1 x.2.2 x.2.1, if_pos rfl]
      have hpath : ∀ u : Int, 0 ≤ u → u < n → 0 ≤ rd (b.set x.1.2.toNat x.1.1) u → ∃ p, GP n l fl (b.set x.1.2.toNat x.1.1) frm u p := fun u u0 u1 hu => by
        by_cases e : u = x.1.2
        · subst e
          obtain ⟨p, hp⟩ := hI.path v v0 v1 hv
          refine ⟨x.1.1 :: p, ⟨fun e => h0 (by rw [e]; exact hI.root), ⟨u0, u1⟩, hself.symm, hx.1, hx.2.1, hx.2.2.2.1, hx.2.2.2.2.symm⟩, ?_⟩
          rw [hx.2.2.1]; exact hp.keep hk
        · rw [rd_set hI.len _ _ _ x.2.1 x.2.2 u0, if_neg e] at hu
          obtain ⟨p, hp⟩ := hI.path u u0 u1 hu
          exact ⟨p, hp.keep hk⟩
      have hroot : 0 ≤ rd (b.set x.1.2.toNat x.1.1) frm := by
        by_cases e : frm = x.1.2
        · exact absurd (by rw [← e]; exact hI.root) h0
        · by_cases hf : 0 ≤ frm
          · rw [rd_set hI.len _ _ _ x.2.1 x.2.2 hf, if_neg e]; exact hI.root
          · have h1 : rd (b.set x.1.2.toNat x.1.1) frm = rd (b.set x.1.2.toNat x.1.1) 0 := by unfold rd; rw [show frm.toNat = (0 : Int).toNat by omega]
            have h2 : rd b frm = rd b 0 := by unfold rd; rw [show frm.toNat = (0 : Int).toNat by omega]
            rw [h1, rd_set hI.len _ _ _ x.2.1 x.2.2 (Int.le_refl 0)]
            have := hI.root
            split
            · exact hx.1
            · rw [h2] at this; exact this
      have hself0 : 0 ≤ rd (b.set x.1.2.toNat x.1.1) x.1.2 := by rw [hself]; exact hx.1
      by_cases h2 : x.1.2 = tt
      · rw [scan_hit _ _ _ _ _ h0 h2] at h
        simp at h; obtain ⟨rfl, rfl, rfl⟩ := h
        exact ⟨⟨by simp [hI.len], hroot, hpath, fun y hy => ⟨(hI.que y hy).1, by rw [hk y (hI.que y hy).1.1 (hI.que y hy).1.2 (hI.que y hy).2]; exact (hI.que y hy).2⟩⟩, hk, fun _ => by rw [← h2]; exact hself0, fun h => by cases h⟩
      · rw [scan_new _ _ _ _ _ h0 h2] at h
        have hI2 : SInv n l fl frm (b.set x.1.2.toNat x.1.1) (q ++ [x.1.2]) := ⟨by simp [hI.len], hroot, hpath, fun y hy => by
          rcases List.mem_append.1 hy with hy | hy
          · exact ⟨(hI.que y hy).1, by rw [hk y (hI.que y hy).1.1 (hI.que y hy).1.2 (hI.que y hy).2]; exact (hI.que y hy).2⟩
          · obtain rfl := List.mem_singleton.1 hy; exact ⟨x.2, hself0⟩⟩
        obtain ⟨i1, i2, i3, i4⟩ := scan_inv n l hg fl frm tt v v0 v1 es _ _ b' q' s (fun y hy => hes y (by simp [hy])) hI2 (by rw [hk v v0 v1 hv]; exact hv) h
        refine ⟨i1, fun u u0 u1 hu => by rw [i2 u u0 u1 (by rw [hk u u0 u1 hu]; exact hu), hk u u0 u1 hu], i3, fun hs => ⟨fun y hy => ?_, fun y hy => (i4 hs).2.1 y (by simp [hy]), fun u u0 u1 hu => ?_⟩⟩
        · rcases List.mem_cons.1 hy with rfl | hy
          · rw [i2 _ y.2.1 y.2.2 hself0]; exact hself0
          · exact (i4 hs).1 y hy
        · rcases (i4 hs).2.2 u u0 u1 hu with hu2 | hu2
          · by_cases e : u = x.1.2
            · exact .inr ((i4 hs).2.1 u (by simp [e]))
            · rw [rd_set hI.len _ _ _ x.2.1 x.2.2 u0, if_neg e] at hu2; exact .inl hu2
          · exact .inr hu2
/-- what a search has found -/
theorem bfs_inv (n : Nat) (l : List S61) (hg : GoodL n l) (fl : List Int) (frm tt : Int) : ∀ (k : Nat) (b q bys : List Int), SInv n l fl frm b q → (∀ v : Int, 0 ≤ v → v < n → 0 ≤ rd b v → v ∈ q ∨ Shut n l fl b v) →
    bfs tt (useG n l fl) k b q = some bys →
    bys.length = n ∧ 0 ≤ rd bys frm ∧ (∀ v : Int, 0 ≤ v → v < n → 0 ≤ rd bys v → ∃ p, GP n l fl bys frm v p) ∧ (rd bys tt < 0 → ∀ v : Int, 0 ≤ v → v < n → 0 ≤ rd bys v → Shut n l fl bys v)
  | 0, b, q, bys, hI, hS, h => by simp [bfs] at h
  | k + 1, b, [], bys, hI, hS, h => by
    simp [bfs] at h; subst h
    exact ⟨hI.len, hI.root, hI.path, fun _ v v0 v1 hv => by rcases hS v v0 v1 hv with h | h; · cases h
                                                            · exact h⟩
  | k + 1, b, v :: q, bys, hI, hS, h => by
    obtain ⟨⟨v0, v1⟩, hv⟩ := hI.que v (by simp)
    obtain ⟨b', q', s, hs⟩ : ∃ b' q' s, scanU tt b q (useG n l fl v) = (b', q', s) := ⟨_, _, _, rfl⟩
    obtain ⟨i1, i2, i3, i4⟩ := scan_inv n l hg fl frm tt v v0 v1 _ b q b' q' s (fun x hx => hx) ⟨hI.len, hI.root, hI.path, fun x hx => hI.que x (by simp [hx])⟩ hv hs
    simp only [bfs, hs] at h
    cases s with
    | true =>
      simp at h; subst h
      exact ⟨i1.len, i1.root, i1.path, fun ht => by have := i3 rfl; omega⟩
    | false =>
      simp at h
      refine bfs_inv n l hg fl frm tt k b' q' bys i1 (fun u u0 u1 hu => ?_) h
      obtain ⟨j1, j2, j3⟩ := i4 rfl
      rcases j3 u u0 u1 hu with h1 | h1
      · rcases hS u u0 u1 h1 with h2 | h2
        · rcases List.mem_cons.1 h2 with rfl | h2
          · exact .inr j1
          · exact .inl (j2 u h2)
        · exact .inr fun x hx => by rw [i2 _ x.2.1 x.2.2 (h2 x hx)]; exact h2 x hx
      · exact .inl h1
/-- a search ends -/
theorem bfs_ends (n : Nat) (l : List S61) (hg : GoodL n l) (fl : List Int) (tt : Int) : ∀ (g : Nat) (b q : List Int), b.length = n → (∀ x ∈ q, 0 ≤ x ∧ x < (n : Int)) → 2 * unset b + q.length ≤ g → ∃ k bys, bfs tt (useG n l fl) k b q = some bys
  | g, b, [], hb, hq, hm => ⟨1, b, rfl⟩
  | 0, b, v :: q, hb, hq, hm => by simp at hm
  | g + 1, b, v :: q, hb, hq, hm => by
    obtain ⟨b', q', s, hs⟩ : ∃ b' q' s, scanU tt b q (useG n l fl v) = (b', q', s) := ⟨_, _, _, rfl⟩
    obtain ⟨f1, f2, f3⟩ := scan_facts tt _ b q b' q' s hs hb (fun x hx => hq x (by simp [hx])) (fun e he => ((use_iff n l fl hg v (hq v (by simp)).1 e).1 he).1)
    cases s with
    | true => exact ⟨1, b', by simp [bfs, hs]⟩
    | false =>
      obtain ⟨k, bys, h⟩ := bfs_ends n l hg fl tt g b' q' f1 f2 (by simp at hm; omega)
      exact ⟨k + 1, bys, by simpa [bfs, hs] using h⟩
/-- one answer -/
theorem bfs_det (tt : Int) {n : Nat} (use : Int → List (RE n)) : ∀ (k k' : Nat) (b q r r' : List Int), bfs tt use k b q = some r → bfs tt use k' b q = some r' → r = r'
  | 0, _, _, _, _, _, h, _ => by simp [bfs] at h
  | _ + 1, 0, _, _, _, _, _, h => by simp [bfs] at h
  | k + 1, k' + 1, b, [], r, r', h, h' => by simp [bfs] at h h'; exact h.symm.trans h'
  | k + 1, k' + 1, b, v :: q, r, r', h, h' => by
    simp only [bfs] at h h'
    split at h
    · rename_i hc; rw [if_pos hc] at h'; simp at h h'; exact h.symm.trans h'
    · rename_i hc; rw [if_neg hc] at h'; exact bfs_det tt use k k' _ _ r r' h h'
end Go.Proofs.Ytadeidhefjifaaa.Px
end
section
set_option linter.unusedVariables false
set_option linter.unusedSimpArgs false
namespace Go.Proofs.Ytadeidhefjifaaa.Px
open Go.RowKit Go.Shelf Go.Proofs.YtadeidhefjifaaaW.PrintWords Go.Proofs.YtadeidhefjifaaaW.PrintLast Go.Proofs.YtadeidhefjifaaaW.PrintMore
/-- flows within the capacities, by index -/
def Bd (l : List S61) (fl : List Int) : Prop := fl.length = l.length ∧ ∀ i : Int, 0 ≤ i → i < l.length → 0 ≤ rd fl i ∧ rd fl i ≤ (rd_T61 l i).f2
theorem bd_iff : ∀ (l : List S61) (fl : List Int), FlowM.Bnd S61.f2 l fl ↔ Bd l fl
  | [], [] => ⟨fun _ => ⟨rfl, fun i h0 h1 => by simp at h1; omega⟩, fun _ => True.intro⟩
  | [], _ :: _ => ⟨fun h => h.elim, fun h => by simpa using h.1⟩
  | _ :: _, [] => ⟨fun h => h.elim, fun h => by simpa using h.1⟩
  | x :: l, f :: fl => by
    have ih := bd_iff l fl
    constructor
    · rintro ⟨h1, h2⟩
      obtain ⟨e, h2⟩ := ih.1 h2
      refine ⟨by simp [e], fun i i0 i1 => ?_⟩
      by_cases hi : i = 0
      · subst hi; exact h1
      · obtain ⟨j, rfl⟩ : ∃ j : Nat, i = (j : Int) + 1 := ⟨(i - 1).toNat, by omega⟩
        have := h2 j (by omega) (by simp at i1; omega)
        have e1 : ((j : Int) + 1).toNat = j + 1 := by omega
        simpa [rd, rd_T61, List.getD, e1] using this
    · rintro ⟨e, h⟩
      refine ⟨h 0 (by omega) (by simp), ih.2 ⟨by simpa using e, fun i i0 i1 => ?_⟩⟩
      have := h (i + 1) (by omega) (by simp; omega)
      have e1 : (i + 1).toNat = i.toNat + 1 := by omega
      simpa [rd, rd_T61, List.getD, e1] using this
theorem closed_iff (C : Int → Bool) : ∀ (l : List S61) (fl : List Int), fl.length = l.length → (FlowM.Closed S61.f0 S61.f1 S61.f2 C l fl ↔ ∀ i : Int, 0 ≤ i → i < l.length →
    (C (rd_T61 l i).f0 = true → C (rd_T61 l i).f1 = false → rd fl i = (rd_T61 l i).f2) ∧ (C (rd_T61 l i).f1 = true → C (rd_T61 l i).f0 = false → rd fl i = 0))
  | [], [], _ => ⟨fun _ i h0 h1 => by simp at h1; omega, fun _ => True.intro⟩
  | [], _ :: _, h => by simp at h
  | _ :: _, [], h => by simp at h
  | x :: l, f :: fl, hl => by
    have ih := closed_iff C l fl (by simpa using hl)
    constructor
    · rintro ⟨h1, h2⟩ i i0 i1
      have h2 := ih.1 h2
      by_cases hi : i = 0
      · subst hi; exact h1
      · obtain ⟨j, rfl⟩ : ∃ j : Nat, i = (j : Int) + 1 := ⟨(i - 1).toNat, by omega⟩
        have := h2 j (by omega) (by simp at i1; omega)
        have e1 : ((j : Int) + 1).toNat = j + 1 := by omega
        simpa [rd, rd_T61, List.getD, e1] using this
    · intro h
      refine ⟨h 0 (by omega) (by simp), ih.2 fun i i0 i1 => ?_⟩
      have := h (i + 1) (by omega) (by simp; omega)
      have e1 : (i + 1).toNat = i.toNat + 1 := by omega
      simpa [rd, rd_T61, List.getD, e1] using this
abbrev outsG (l : List S61) (fl : List Int) (v : Int) : Int := FlowM.outs S61.f0 S61.f1 l fl v
theorem outs_set : ∀ (l : List S61) (fl : List Int) (i : Nat) (y v : Int), fl.length = l.length → i < l.length →
    outsG l (fl.set i y) v = outsG l fl v + ((if (rd_T61 l i).f0 = v then y - rd fl i else 0) - (if (rd_T61 l i).f1 = v then y - rd fl i else 0))
  | [], fl, i, y, v, _, h => by simp at h
  | _ :: _, [], i, y, v, h, _ => by simp at h
  | x :: l, f :: fl, 0, y, v, hl, h => by
    simp only [outsG, List.set_cons_zero, FlowM.outs, rd_T61, rd, List.getD]
    simp
    split <;> split <;> omega
  | x :: l, f :: fl, i + 1, y, v, hl, h => by
    have ih := outs_set l fl i y v (by simpa using hl) (by simpa using h)
    have e1 : rd_T61 (x :: l) ((i + 1 : Nat) : Int) = rd_T61 l i := by simp [rd_T61, List.getD]
    have e2 : rd (f :: fl) ((i + 1 : Nat) : Int) = rd fl i := by simp [rd, List.getD]
    rw [e1, e2]
    simp only [outsG, List.set_cons_succ, FlowM.outs] at ih ⊢
    rw [ih]; omega
theorem pushF_length (fl : List Int) (r m : Int) : (pushF fl r m).length = fl.length := by simp [pushF]
theorem rd_push (fl : List Int) (r m i : Int) (r0 : 0 ≤ r) (r1 : r < 2 * fl.length) (i0 : 0 ≤ i) : rd (pushF fl r m) i = if i = r / 2 then (if r % 2 = 1 then rd fl (r / 2) - m else rd fl (r / 2) + m) else rd fl i := by
  have := rd_set (b := fl) rfl (r / 2) (if r % 2 = 1 then rd fl (r / 2) - m else rd fl (r / 2) + m) i (by omega) (by omega) i0
  unfold pushF; exact this
theorem outs_push (l : List S61) (fl : List Int) (r m v : Int) (hl : fl.length = l.length) (r0 : 0 ≤ r) (r1 : r < 2 * l.length) :
    outsG l (pushF fl r m) v = outsG l fl v + ((if begR l r = v then m else 0) - (if endR l r = v then m else 0)) := by
  unfold pushF
  rw [outs_set l fl (r / 2).toNat _ v hl (by omega), Int.toNat_of_nonneg (by omega)]
  unfold begR endR
  by_cases hp : r % 2 = 0
  · have e2 : (if r % 2 = 1 then rd fl (r / 2) - m else rd fl (r / 2) + m) - rd fl (r / 2) = m := by rw [if_neg (by omega)]; omega
    rw [if_pos hp, if_pos hp, e2]
  · have e2 : (if r % 2 = 1 then rd fl (r / 2) - m else rd fl (r / 2) + m) - rd fl (r / 2) = -m := by rw [if_pos (by omega)]; omega
    rw [if_neg hp, if_neg hp, e2]; split <;> split <;> omega
/-- more flows along a path -/
def aug (fl : List Int) (p : List Int) (m : Int) : List Int := p.foldl (fun f r => pushF f r m) fl
/-- the least room along a path -/
def leastP (l : List S61) (fl : List Int) (p : List Int) : Int := p.foldl (fun m r => mn m (capR l fl r)) 1073741824
theorem mn_le (a b : Int) : mn a b ≤ a ∧ mn a b ≤ b ∧ (mn a b = a ∨ mn a b = b) := by
  unfold mn; split <;> omega
theorem fold_mn (g : Int → Int) : ∀ (p : List Int) (m0 : Int), p.foldl (fun m r => mn m (g r)) m0 ≤ m0 ∧ (∀ r ∈ p, p.foldl (fun m r => mn m (g r)) m0 ≤ g r) ∧ (1 ≤ m0 → (∀ r ∈ p, 1 ≤ g r) → 1 ≤ p.foldl (fun m r => mn m (g r)) m0)
  | [], m0 => ⟨Int.le_refl _, fun r h => (by cases h), fun h _ => h⟩
  | s :: p, m0 => by
    obtain ⟨a, b, c⟩ := mn_le m0 (g s)
    obtain ⟨i1, i2, i3⟩ := fold_mn g p (mn m0 (g s))
    simp only [List.foldl_cons]
    refine ⟨by omega, fun r hr => ?_, fun h1 h2 => i3 (by have := h2 s (by simp); omega) (fun r hr => h2 r (by simp [hr]))⟩
    rcases List.mem_cons.1 hr with rfl | hr
    · omega
    · exact i2 r hr
theorem leastP_ok {n : Nat} {l : List S61} {fl b : List Int} {frm v : Int} {p : List Int} (h : GP n l fl b frm v p) : 1 ≤ leastP l fl p ∧ leastP l fl p ≤ 1073741824 ∧ ∀ r ∈ p, leastP l fl p ≤ capR l fl r := by
  obtain ⟨a, b, c⟩ := fold_mn (capR l fl) p 1073741824
  exact ⟨c (by omega) (fun r hr => by have := (h.mem r hr).2.2; omega), a, b⟩
theorem cap_push {l : List S61} {fl : List Int} {r m s : Int} (hl : fl.length = l.length) (r0 : 0 ≤ r) (r1 : r < 2 * l.length) (s0 : 0 ≤ s) (hne : s / 2 ≠ r / 2) : capR l (pushF fl r m) s = capR l fl s := by
  unfold capR
  rw [rd_push fl r m (s / 2) r0 (by omega) (by omega), if_neg hne]
theorem bd_push {l : List S61} {fl : List Int} {r m : Int} (h : Bd l fl) (r0 : 0 ≤ r) (r1 : r < 2 * l.length) (m0 : 0 ≤ m) (hm : m ≤ capR l fl r) : Bd l (pushF fl r m) := by
  refine ⟨by rw [pushF_length]; exact h.1, fun i i0 i1 => ?_⟩
  rw [rd_push fl r m i r0 (by have := h.1; omega) i0]
  by_cases e : i = r / 2
  · subst e
    rw [if_pos rfl]
    have := h.2 (r / 2) i0 i1
    unfold capR at hm
    by_cases hp : r % 2 = 0
    · rw [if_pos hp] at hm; rw [if_neg (by omega)]; omega
    · rw [if_neg hp] at hm; rw [if_pos (by omega)]; omega
  · rw [if_neg e]; exact h.2 i i0 i1
theorem bd_aug {l : List S61} {m : Int} (m0 : 0 ≤ m) : ∀ (p : List Int) (fl : List Int), Bd l fl → (∀ r ∈ p, 0 ≤ r ∧ r < 2 * l.length ∧ m ≤ capR l fl r) → (p.map (· / 2)).Nodup → Bd l (aug fl p m)
  | [], fl, h, _, _ => h
  | r :: p, fl, h, hp, hn => by
    obtain ⟨a, b, c⟩ := hp r (by simp)
    rw [List.map_cons, List.nodup_cons] at hn
    refine bd_aug m0 p (pushF fl r m) (bd_push h a b m0 c) (fun s hs => ?_) hn.2
    obtain ⟨d, e, f⟩ := hp s (by simp [hs])
    refine ⟨d, e, ?_⟩
    rw [cap_push h.1 a b d (fun he => hn.1 (by rw [← he]; exact List.mem_map.2 ⟨s, hs, rfl⟩))]; exact f
theorem aug_append (fl p q : List Int) (m : Int) : aug fl (p ++ q) m = aug (aug fl p m) q m := by simp [aug]
theorem outs_aug {n : Nat} {l : List S61} {fl0 b : List Int} {frm : Int} (v m : Int) : ∀ (p : List Int) (x : Int) (fl : List Int), GP n l fl0 b frm x p → fl.length = l.length →
    outsG l (aug fl p m) v = outsG l fl v + ((if frm = v then m else 0) - (if x = v then m else 0))
  | [], x, fl, h, _ => by have : x = frm := h; subst this; show outsG l fl v = _; omega
  | r :: p, x, fl, h, hl => by
    show outsG l (aug (pushF fl r m) p m) v = _
    rw [outs_aug v m p (begR l r) (pushF fl r m) h.2 (by rw [pushF_length]; exact hl), outs_push l fl r m v hl h.1.2.2.2.1 h.1.2.2.2.2.1, h.1.2.2.2.2.2.2]
    omega
/-- a flow in a good network -/
abbrev FlowG (n : Nat) (l : List S61) (frm tt : Int) (fl : List Int) : Prop := FlowM.Flow S61.f0 S61.f1 S61.f2 n l frm tt fl
abbrev OptG (n : Nat) (l : List S61) (frm tt : Int) (fl : List Int) (C : Int → Bool) : Prop := FlowM.Opt S61.f0 S61.f1 S61.f2 n l frm tt fl C
theorem flow_okf {n : Nat} {l : List S61} {frm tt : Int} {fl : List Int} (hg : GoodL n l) (h : FlowG n l frm tt fl) : Okf l fl := fun i i0 i1 => by
  have := ((bd_iff l fl).1 h.bnd).2 i i0 i1
  have := (hg _ (rdT_mem l i i0 i1)).2.2.2
  omega
theorem flow_aug {n : Nat} {l : List S61} {frm tt : Int} {fl b p : List Int} (hne : frm ≠ tt) (h : FlowG n l frm tt fl) (hp : GP n l fl b frm tt p) : FlowG n l frm tt (aug fl p (leastP l fl p)) ∧ outsG l fl frm + 1 ≤ outsG l (aug fl p (leastP l fl p)) frm := by
  obtain ⟨a, _, c⟩ := leastP_ok hp
  have hb := (bd_iff l fl).1 h.bnd
  refine ⟨⟨(bd_iff l _).2 (bd_aug (by omega) p fl hb (fun r hr => ⟨(hp.mem r hr).1, (hp.mem r hr).2.1, c r hr⟩) hp.nodup), fun v v0 v1 h1 h2 => ?_⟩, ?_⟩
  · have := outs_aug v (leastP l fl p) p tt fl hp hb.1
    rw [if_neg (fun e => h1 e.symm), if_neg (fun e => h2 e.symm)] at this
    have h3 := h.cons v v0 v1 h1 h2
    simp only [outsG] at this
    omega
  · have := outs_aug frm (leastP l fl p) p tt fl hp hb.1
    rw [if_pos rfl, if_neg (fun e => hne e.symm)] at this
    omega
/-- where no path is left -/
theorem opt_of_done {n : Nat} {l : List S61} {frm tt : Int} {fl bys : List Int} (hg : GoodL n l) (h : FlowG n l frm tt fl) (f0 : 0 ≤ frm) (f1 : frm < n) (t0 : 0 ≤ tt) (t1 : tt < n)
    (hlen : bys.length = n) (hroot : 0 ≤ rd bys frm) (hpath : ∀ v : Int, 0 ≤ v → v < n → 0 ≤ rd bys v → ∃ p, GP n l fl bys frm v p) (hshut : ∀ v : Int, 0 ≤ v → v < n → 0 ≤ rd bys v → Shut n l fl bys v) (ht : rd bys tt < 0) :
    OptG n l frm tt fl (fun v => decide (0 ≤ rd bys v)) := by
  have hb := (bd_iff l fl).1 h.bnd
  have hsh : ∀ r : Int, 0 ≤ r → r < 2 * l.length → 0 ≤ rd bys (begR l r) → rd bys (endR l r) < 0 → capR l fl r ≤ 0 := fun r r0 r1 hv hu => by
    have hv2 := begR_in n l hg r r0 r1
    have he := endR_in n l hg r r0 r1
    by_cases hc : capR l fl r > 0
    · have := hshut _ hv2.1 hv2.2 hv ⟨(r, endR l r), he⟩ ((use_iff n l fl hg _ hv2.1 _).2 ⟨r0, r1, rfl, hc, rfl⟩)
      have : 0 ≤ rd bys (endR l r) := this
      omega
    · omega
  refine ⟨h, decide_eq_true hroot, decide_eq_false (by omega), (closed_iff _ l fl hb.1).2 fun i i0 i1 => ⟨fun h1 h2 => ?_, fun h1 h2 => ?_⟩, fun D hD hc v v0 v1 hv => ?_⟩
  · have h1 := of_decide_eq_true h1
    have h2 := of_decide_eq_false h2
    have := hsh (2 * i) (by omega) (by omega) (by unfold begR; rw [if_pos (by omega), show 2 * i / 2 = i by omega]; exact h1) (by unfold endR; rw [if_pos (by omega), show 2 * i / 2 = i by omega]; omega)
    unfold capR at this
    rw [if_pos (by omega), show 2 * i / 2 = i by omega] at this
    have := (hb.2 i i0 i1).2
    omega
  · have h1 := of_decide_eq_true h1
    have h2 := of_decide_eq_false h2
    have := hsh (2 * i + 1) (by omega) (by omega) (by unfold begR; rw [if_neg (by omega), show (2 * i + 1) / 2 = i by omega]; exact h1) (by unfold endR; rw [if_neg (by omega), show (2 * i + 1) / 2 = i by omega]; omega)
    unfold capR at this
    rw [if_neg (by omega), show (2 * i + 1) / 2 = i by omega] at this
    have := (hb.2 i i0 i1).1
    omega
  · obtain ⟨p, hp⟩ := hpath v v0 v1 (of_decide_eq_true hv)
    have hc := (closed_iff D l fl hb.1).1 hc
    clear hv v0 v1
    induction p generalizing v with
    | nil => have : v = frm := hp; rw [this]; exact hD
    | cons r p ih =>
      have hbd := ih _ hp.2
      obtain ⟨_, _, _, r0, r1, hcap, he⟩ := hp.1
      obtain ⟨c1, c2⟩ := hc (r / 2) (by omega) (by omega)
      cases hDv : D v with
      | true => rfl
      | false =>
        exfalso
        unfold begR at hbd
        unfold endR at he
        unfold capR at hcap
        by_cases hpar : r % 2 = 0
        · rw [if_pos hpar] at hbd he hcap
          have := c1 hbd (by rw [he]; exact hDv)
          omega
        · rw [if_neg hpar] at hbd he hcap
          have := c2 hbd (by rw [he]; exact hDv)
          omega
end Go.Proofs.Ytadeidhefjifaaa.Px
end
section
namespace Go.Proofs.Ytadeidhefjifaaa.Px
open Go.RowKit Go.Proofs.YtadeidhefjifaaaW.PrintWords Go.Proofs.YtadeidhefjifaaaW.PrintLast Go.Proofs.YtadeidhefjifaaaW.PrintMore
attribute [local go_sem] max2_int min2_int max_two min_two max_three min_three max_four min_four   -- for this text's walks alone
set_option linter.unusedVariables false
set_option linter.unusedSimpArgs false
def flow_check.j0 : Nat → Bool → Option (Int)
  | 0, _ => none
  | k + 1, x36 => if x36 = true then (some 180) else (some 0)
def flow_check.f (k : Nat) (a0 : Int) (l1 : List (S61)) (a2 : Int) (a3 : Int) : Option (Int) := (flow_Check.f a0 l1).bind fun t101 => (if t101 = 0 then (if a2 < 0 then (flow_check.j0 k true) else (if a2 ≥ a0 then (flow_check.j0 k true) else (if a3 < 0 then (flow_check.j0 k true) else (if a3 ≥ a0 then (flow_check.j0 k true) else (flow_check.j0 k (a2 == a3)))))) else (some t101))
theorem flow_check.mono_l : ∀ k, (∀ y0, LeO (flow_check.j0 k y0) (flow_check.j0 (k + 1) y0))
  | 0 => fun _ r h => by simp [flow_check.j0] at h
  | k + 1 => by
    have ih0 := flow_check.mono_l k
    · intro y0
      unfold flow_check.j0
      repeat' first
      | (with_reducible exact ih0 _)
      | (with_reducible exact LeO.refl _)
      | (with_reducible exact LeO.none _)
      | (with_reducible refine LeO.ite ?_ ?_)
      | (with_reducible refine LeO.bind ?_ (fun _ => ?_))
      | exact ih0 _
      | exact LeO.none _
      | refine LeO.ite ?_ ?_
      | refine LeO.bind ?_ (fun _ => ?_)
theorem flow_check.mono : ∀ a0 a1 a2 a3 k, LeO (flow_check.f k a0 a1 a2 a3) (flow_check.f (k + 1) a0 a1 a2 a3) := by
  intro a0 a1 a2 a3 k
  have ih0 := flow_check.mono_l k
  unfold flow_check.f
  repeat' first
      | (with_reducible exact ih0 _)
      | (with_reducible exact LeO.refl _)
      | (with_reducible exact LeO.none _)
      | (with_reducible refine LeO.ite ?_ ?_)
      | (with_reducible refine LeO.bind ?_ (fun _ => ?_))
      | exact ih0 _
      | exact LeO.none _
      | refine LeO.ite ?_ ?_
      | refine LeO.bind ?_ (fun _ => ?_)
set_option maxHeartbeats 8000000 in
set_option maxRecDepth 100000 in
theorem flow_check.calls (k : Nat) (a0 : Int) (A1 : Option Addr) (c1 : Nat) (l1 : List (S61)) (a2 : Int) (a3 : Int) (r : Int) (w : World) (hr1 : Kd.C k61 w A1 l1.length l1) (hc1 : l1.length ≤ c1) (h : flow_check.f k a0 l1 a2 a3 = some r) :
    Calls Try.prog 42 #[.int .i64 a0, .slice A1 l1.length c1, .int .i64 a2, .int .i64 a3] w fun e w' => e = .returned (.int .i64 r) ∧ Below w.heap.size w w' := by
  have HR1 := Aside0.mk hr1
  have HC1 := Aside0.mk hc1
  clear hr1 hc1
  have HB := Aside0.mk (Below.refl w.heap.size w)
  have H : ((flow_Check.f a0 l1).bind fun t101 => (if t101 = 0 then (if a2 < 0 then (flow_check.j0 k true) else (if a2 ≥ a0 then (flow_check.j0 k true) else (if a3 < 0 then (flow_check.j0 k true) else (if a3 ≥ a0 then (flow_check.j0 k true) else (flow_check.j0 k (a2 == a3)))))) else (some t101))) = some r := h
  clear h
  replace H := Option.bind_eq_some_iff.mp H
  obtain ⟨t101, A50, H⟩ := H
  replace H : (if t101 = 0 then (if a2 < 0 then (flow_check.j0 k true) else (if a2 ≥ a0 then (flow_check.j0 k true) else (if a3 < 0 then (flow_check.j0 k true) else (if a3 ≥ a0 then (flow_check.j0 k true) else (flow_check.j0 k (a2 == a3)))))) else (some t101)) = some r := H
  have A5 := Aside0.mk A50
  clear A50
  by_cases c6 : t101 = 0
  · rw [if_pos c6] at H
    have c6b0 : (t101 == 0) = true := beq_iff_eq.mpr c6
    have c6b1 : (t101 != 0) = false := bne_eq_false_iff_eq.mpr c6
    clear c6
    have HC7 := Aside0.mk H
    clear H
    go_enter Try.func42, Try.ntmps42
    go_upto_region 4 with (first | ((with_reducible refine gate_callee (f := 25) rfl ?_); refine goesL_ (some 12) rfl rfl Try.func25 (by kernel_rfl) rfl #[.int .i64 a0, .slice A1 l1.length c1] rfl (by (try simp only [List.map_toArray, List.map_cons, List.map_nil]); first | done | rfl | (simp only [List.length_drop, List.length_take]; rfl)) ?_; (with_reducible refine (flow_Check.calls a0 _ _ l1 t101 _ ?side1 ?side2 A5.out).mono ?_); (case side1 => repeat (first | exact HR1.out | (with_reducible refine Kd.C_alloc ?_ _) | (with_reducible refine Kd.C_drewN ?_ _) | (with_reducible refine Kd.C_drew ?_))); (case side2 => exact HC1.out); rintro e w8 ⟨rfl, hb⟩; refine ⟨_, rfl, ?_⟩; have n0_ := Aside0.mk (below_step (by repeat (first | (with_reducible first | exact HB.out | apply below_alloc | apply pw_below_drewN | apply below_drew1) | exact HB.out)) hb); clear HB; have HB := n0_; clear n0_; (try clear hb); (try clear hb2); (try clear hk); (try clear hi)))
    (try simp only [Act.put, List.setIfInBounds_toArray, List.set_cons_zero, List.set_cons_succ])
    go_cut [36] (fun v36 wc => ∃ (kq : Nat) (x36_6 : Bool), v36 = .bool x36_6 ∧ Aside0 (flow_check.j0 kq x36_6 = some r) ∧ Aside0 (kq ≤ k) ∧ Aside0 (Below w.heap.size w wc))
    case first =>
      have H := HC7.out
      clear HC7
      by_cases c9 : a2 < 0
      · rw [if_pos c9] at H
        have c9b0 : decide (a2 < 0) = true := decide_eq_true c9
        clear c9
        (first | rw [c9b0] | (simp only [i64_w, i32_w]; rw [c9b0]) | skip)
        have H' := Aside0.mk H
        clear H
        go_wp2
        go_meet
        case rel => exact ⟨_, (true), (by first | rfl | (simp; done) | (simp [*]; done)), H', ⟨by first | omega | exact Nat.le_refl _⟩, ⟨by repeat (first | (with_reducible first | exact HB.out | apply below_alloc | apply pw_below_drewN | apply below_drew1) | exact HB.out)⟩⟩
      · rw [if_neg c9] at H
        have c9b0 : decide (a2 < 0) = false := decide_eq_false c9
        clear c9
        (first | rw [c9b0] | (simp only [i64_w, i32_w]; rw [c9b0]) | skip)
        by_cases c10 : a2 ≥ a0
        · rw [if_pos c10] at H
          have c10b0 : decide (a0 ≤ a2) = true := decide_eq_true c10
          clear c10
          have H' := Aside0.mk H
          clear H
          go_wp2
          go_meet
          case rel => exact ⟨_, (true), (by first | rfl | (simp; done) | (simp [*]; done)), H', ⟨by first | omega | exact Nat.le_refl _⟩, ⟨by repeat (first | (with_reducible first | exact HB.out | apply below_alloc | apply pw_below_drewN | apply below_drew1) | exact HB.out)⟩⟩
        · rw [if_neg c10] at H
          have c10b0 : decide (a0 ≤ a2) = false := decide_eq_false c10
          clear c10
          by_cases c11 : a3 < 0
          · rw [if_pos c11] at H
            have c11b0 : decide (a3 < 0) = true := decide_eq_true c11
            clear c11
            have H' := Aside0.mk H
            clear H
            go_wp2
            go_meet
            case rel => exact ⟨_, (true), (by first | rfl | (simp; done) | (simp [*]; done)), H', ⟨by first | omega | exact Nat.le_refl _⟩, ⟨by repeat (first | (with_reducible first | exact HB.out | apply below_alloc | apply pw_below_drewN | apply below_drew1) | exact HB.out)⟩⟩
          · rw [if_neg c11] at H
            have c11b0 : decide (a3 < 0) = false := decide_eq_false c11
            clear c11
            by_cases c12 : a3 ≥ a0
            · rw [if_pos c12] at H
              have c12b0 : decide (a0 ≤ a3) = true := decide_eq_true c12
              clear c12
              have H' := Aside0.mk H
              clear H
              go_wp2
              go_meet
              case rel => exact ⟨_, (true), (by first | rfl | (simp; done) | (simp [*]; done)), H', ⟨by first | omega | exact Nat.le_refl _⟩, ⟨by repeat (first | (with_reducible first | exact HB.out | apply below_alloc | apply pw_below_drewN | apply below_drew1) | exact HB.out)⟩⟩
            · rw [if_neg c12] at H
              have c12b0 : decide (a0 ≤ a3) = false := decide_eq_false c12
              clear c12
              have H' := Aside0.mk H
              clear H
              go_wp2
              go_meet
              case rel => exact ⟨_, ((a2 == a3)), (by first | rfl | (simp; done) | (simp [*]; done)), H', ⟨by first | omega | exact Nat.le_refl _⟩, ⟨by repeat (first | (with_reducible first | exact HB.out | apply below_alloc | apply pw_below_drewN | apply below_drew1) | exact HB.out)⟩⟩
    case rest =>
      clear HC7
      try clear c1
      try clear c2
      try clear p2
      try clear c4
      try clear c6
      try clear c6b0
      try clear c6b1
      try clear c9
      try clear c9b0
      try clear c10
      try clear c10b0
      try clear c11
      try clear c11b0
      try clear c12
      try clear c12b0
      obtain ⟨kq, x36_6, rfl, HA, HJ6, HB⟩ := hcut
      cases kq with
      | zero => exact absurd HA.out (by simp [flow_check.j0])
      | succ kj6 =>
        have H := HA.out
        clear HA
        simp only [flow_check.j0] at H
        by_cases c13 : x36_6 = true
        · subst c13
          have H1 : (some 180) = some r := by rw [if_pos rfl] at H; exact H
          clear H
          have H := H1
          clear H1
          obtain rfl := Option.some.inj H
          go_wp2
          go_ret
          exact ⟨by first | rfl | (simp [errW_none, errW_some] <;> rfl) | (simp [*, errW_none, errW_some] <;> rfl), by repeat (first | (with_reducible first | exact HB.out | apply below_alloc | apply pw_below_drewN | apply below_drew1) | exact HB.out)⟩
        · replace c13 := Bool.eq_false_iff.mpr c13
          subst c13
          have H1 : (some 0) = some r := by rw [if_neg (show ¬ (false = true) by decide)] at H; exact H
          clear H
          have H := H1
          clear H1
          obtain rfl := Option.some.inj H
          go_wp2
          go_ret
          exact ⟨by first | rfl | (simp [errW_none, errW_some] <;> rfl) | (simp [*, errW_none, errW_some] <;> rfl), by repeat (first | (with_reducible first | exact HB.out | apply below_alloc | apply pw_below_drewN | apply below_drew1) | exact HB.out)⟩
  · rw [if_neg c6] at H
    have c6b0 : (t101 == 0) = false := beq_eq_false_iff_ne.mpr c6
    have c6b1 : (t101 != 0) = true := bne_iff_ne.mpr c6
    obtain rfl := Option.some.inj H
    go_enter Try.func42, Try.ntmps42
    go_wp2_with (first | ((with_reducible refine gate_callee (f := 25) rfl ?_); refine goesL_ (some 12) rfl rfl Try.func25 (by kernel_rfl) rfl #[.int .i64 a0, .slice A1 l1.length c1] rfl (by (try simp only [List.map_toArray, List.map_cons, List.map_nil]); first | done | rfl | (simp only [List.length_drop, List.length_take]; rfl)) ?_; (with_reducible refine (flow_Check.calls a0 _ _ l1 t101 _ ?side1 ?side2 A5.out).mono ?_); (case side1 => repeat (first | exact HR1.out | (with_reducible refine Kd.C_alloc ?_ _) | (with_reducible refine Kd.C_drewN ?_ _) | (with_reducible refine Kd.C_drew ?_))); (case side2 => exact HC1.out); rintro e w14 ⟨rfl, hb⟩; refine ⟨_, rfl, ?_⟩; have n0_ := Aside0.mk (below_step (by repeat (first | (with_reducible first | exact HB.out | apply below_alloc | apply pw_below_drewN | apply below_drew1) | exact HB.out)) hb); clear HB; have HB := n0_; clear n0_; (try clear hb); (try clear hb2); (try clear hk); (try clear hi)))
    go_ret
    exact ⟨by first | rfl | (simp [errW_none, errW_some] <;> rfl) | (simp [*, errW_none, errW_some] <;> rfl), by repeat (first | (with_reducible first | exact HB.out | apply below_alloc | apply pw_below_drewN | apply below_drew1) | exact HB.out)⟩
end Go.Proofs.Ytadeidhefjifaaa.Px
end
section
set_option linter.unusedVariables false
set_option linter.unusedSimpArgs false
namespace Go.Proofs.Ytadeidhefjifaaa.Px
open Go.RowKit Go.Shelf Go.Proofs.YtadeidhefjifaaaW.PrintWords Go.Proofs.YtadeidhefjifaaaW.PrintLast Go.Proofs.YtadeidhefjifaaaW.PrintMore
/-- the entries that a search begins with -/
abbrev bys0 (n : Nat) (l : List S61) (frm : Int) : List Int := (List.replicate n (-1)).set frm.toNat ((l.length : Int) * 2)
/-- what a search answers -/
def Srch (n : Nat) (l : List S61) (fl : List Int) (frm tt : Int) (bys : List Int) : Prop := ∃ k, bfs tt (useG n l fl) k (bys0 n l frm) [frm] = some bys
theorem rd_neg (n : Nat) (v : Int) (v0 : 0 ≤ v) (v1 : v < n) : rd (List.replicate n (-1)) v = -1 := by simp [rd, List.getD, show v.toNat < n by omega]
theorem rd_bys0 (n : Nat) (l : List S61) (frm v : Int) (f0 : 0 ≤ frm) (f1 : frm < n) (v0 : 0 ≤ v) (v1 : v < n) : rd (bys0 n l frm) v = if v = frm then (l.length : Int) * 2 else -1 := by
  rw [rd_set (n := n) (by simp) frm _ v f0 f1 v0, rd_neg n v v0 v1]
theorem sinv0 (n : Nat) (l : List S61) (fl : List Int) (frm : Int) (f0 : 0 ≤ frm) (f1 : frm < n) : SInv n l fl frm (bys0 n l frm) [frm] where
  len := by simp
  root := by rw [rd_bys0 n l frm frm f0 f1 f0 f1, if_pos rfl]; omega
  path := fun v v0 v1 h => by
    rw [rd_bys0 n l frm v f0 f1 v0 v1] at h
    by_cases e : v = frm
    · exact ⟨[], e⟩
    · rw [if_neg e] at h; omega
  que := fun x hx => by
    obtain rfl := List.mem_singleton.1 hx
    exact ⟨⟨f0, f1⟩, by rw [rd_bys0 n l x x f0 f1 f0 f1, if_pos rfl]; omega⟩
theorem srch_facts {n : Nat} {l : List S61} {fl : List Int} {frm tt : Int} {bys : List Int} (hg : GoodL n l) (f0 : 0 ≤ frm) (f1 : frm < n) (h : Srch n l fl frm tt bys) :
    bys.length = n ∧ 0 ≤ rd bys frm ∧ (∀ v : Int, 0 ≤ v → v < n → 0 ≤ rd bys v → ∃ p, GP n l fl bys frm v p) ∧ (rd bys tt < 0 → ∀ v : Int, 0 ≤ v → v < n → 0 ≤ rd bys v → Shut n l fl bys v) := by
  obtain ⟨k, hk⟩ := h
  refine bfs_inv n l hg fl frm tt k _ _ bys (sinv0 n l fl frm f0 f1) (fun v v0 v1 hv => .inl ?_) hk
  rw [rd_bys0 n l frm v f0 f1 v0 v1] at hv
  by_cases e : v = frm
  · simp [e]
  · rw [if_neg e] at hv; omega
theorem srch_ends (n : Nat) (l : List S61) (fl : List Int) (frm tt : Int) (hg : GoodL n l) (f0 : 0 ≤ frm) (f1 : frm < n) : ∃ bys, Srch n l fl frm tt bys := by
  obtain ⟨k, bys, h⟩ := bfs_ends n l hg fl tt _ (bys0 n l frm) [frm] (by simp) (fun x hx => by obtain rfl := List.mem_singleton.1 hx; exact ⟨f0, f1⟩) (Nat.le_refl _)
  exact ⟨bys, k, h⟩
theorem srch_det {n : Nat} {l : List S61} {fl : List Int} {frm tt : Int} {b b' : List Int} (h : Srch n l fl frm tt b) (h' : Srch n l fl frm tt b') : b = b' := by
  obtain ⟨k, h⟩ := h; obtain ⟨k', h'⟩ := h'
  exact bfs_det tt _ k k' _ _ _ _ h h'
/-- which nodes were met -/
def cutB (bys : List Int) : List Bool := bys.map fun r => decide (0 ≤ r)
/-- the rounds from a flow on, and what they come to -/
inductive Run (n : Nat) (l : List S61) (frm tt : Int) : List Int → List Int → List Bool → Prop
  | done {fl bys : List Int} : Srch n l fl frm tt bys → rd bys tt < 0 → Run n l frm tt fl fl (cutB bys)
  | step {fl bys p r : List Int} {c : List Bool} : Srch n l fl frm tt bys → 0 ≤ rd bys tt → GP n l fl bys frm tt p → Run n l frm tt (aug fl p (leastP l fl p)) r c → Run n l frm tt fl r c
theorem Run.det {n : Nat} {l : List S61} {frm tt : Int} {fl r r' : List Int} {c c' : List Bool} (h : Run n l frm tt fl r c) (h' : Run n l frm tt fl r' c') : r = r' ∧ c = c' := by
  induction h with
  | done hs ht =>
    cases h' with
    | done hs' ht' => exact ⟨rfl, by rw [srch_det hs hs']⟩
    | step hs' ht' _ _ => rw [srch_det hs hs'] at ht; omega
  | step hs ht hp _ ih =>
    cases h' with
    | done hs' ht' => rw [srch_det hs hs'] at ht; omega
    | step hs' ht' hp' h' =>
      obtain rfl := srch_det hs hs'
      obtain rfl := hp.det hp'
      exact ih h'
/-- a cut as a set of nodes -/
def Cof (c : List Bool) (v : Int) : Bool := c.getD v.toNat false
theorem cof_cut {n : Nat} {bys : List Int} (hl : bys.length = n) (v : Int) (v0 : 0 ≤ v) (v1 : v < n) : Cof (cutB bys) v = decide (0 ≤ rd bys v) := by
  simp [Cof, cutB, rd, List.getD, show v.toNat < bys.length by omega]
theorem opt_congr {n : Nat} {l : List S61} {frm tt : Int} {fl : List Int} {C D : Int → Bool} (hg : GoodL n l) (f0 : 0 ≤ frm) (f1 : frm < n) (t0 : 0 ≤ tt) (t1 : tt < n) (h : OptG n l frm tt fl C) (e : ∀ v : Int, 0 ≤ v → v < n → C v = D v) : OptG n l frm tt fl D := by
  have hb := (bd_iff l fl).1 h.flow.bnd
  refine ⟨h.flow, by rw [← e _ f0 f1]; exact h.hs, by rw [← e _ t0 t1]; exact h.ht, (closed_iff D l fl hb.1).2 fun i i0 i1 => ?_, fun X hX hc v v0 v1 hv => h.least X hX hc v v0 v1 (by rw [e v v0 v1]; exact hv)⟩
  have := (closed_iff C l fl hb.1).1 h.closed i i0 i1
  have hx := hg _ (rdT_mem l i i0 i1)
  rw [e _ hx.1.1 hx.1.2, e _ hx.2.1.1 hx.2.1.2] at this
  exact this
theorem Run.opt {n : Nat} {l : List S61} {frm tt : Int} {fl r : List Int} {c : List Bool} (hg : GoodL n l) (f0 : 0 ≤ frm) (f1 : frm < n) (t0 : 0 ≤ tt) (t1 : tt < n) (hne : frm ≠ tt) (h : Run n l frm tt fl r c) (hf : FlowG n l frm tt fl) : OptG n l frm tt r (Cof c) ∧ c.length = n := by
  induction h with
  | done hs ht =>
    obtain ⟨a, b, d, e⟩ := srch_facts hg f0 f1 hs
    exact ⟨opt_congr hg f0 f1 t0 t1 (opt_of_done hg hf f0 f1 t0 t1 a b d (e ht) ht) (fun v v0 v1 => (cof_cut a v v0 v1).symm), by simp [cutB, a]⟩
  | step hs ht hp _ ih => exact ih (flow_aug hne hf hp).1
theorem Run.ends (n : Nat) (l : List S61) (frm tt : Int) (hg : GoodL n l) (f0 : 0 ≤ frm) (f1 : frm < n) (t0 : 0 ≤ tt) (t1 : tt < n) (hne : frm ≠ tt) : ∀ (g : Nat) (fl : List Int), FlowG n l frm tt fl →
    (FlowM.cap S61.f0 S61.f1 S61.f2 (fun v => decide (v = frm)) l - outsG l fl frm).toNat ≤ g → ∃ r c, Run n l frm tt fl r c := by
  intro g
  induction g with
  | zero =>
    intro fl hf hg0
    obtain ⟨bys, hs⟩ := srch_ends n l fl frm tt hg f0 f1
    obtain ⟨a, b, d, e⟩ := srch_facts hg f0 f1 hs
    by_cases ht : rd bys tt < 0
    · exact ⟨_, _, .done hs ht⟩
    · obtain ⟨p, hp⟩ := d tt t0 t1 (by omega)
      obtain ⟨h1, h2⟩ := flow_aug hne hf hp
      have := FlowM.weak (C := fun v => decide (v = frm)) (by omega) hg h1 f0 f1 (by simp) (by simp; exact fun e => hne e.symm)
      simp only [outsG] at h2 hg0
      omega
  | succ g ih =>
    intro fl hf hg0
    obtain ⟨bys, hs⟩ := srch_ends n l fl frm tt hg f0 f1
    obtain ⟨a, b, d, e⟩ := srch_facts hg f0 f1 hs
    by_cases ht : rd bys tt < 0
    · exact ⟨_, _, .done hs ht⟩
    · obtain ⟨p, hp⟩ := d tt t0 t1 (by omega)
      obtain ⟨h1, h2⟩ := flow_aug hne hf hp
      obtain ⟨r, c, h⟩ := ih _ h1 (by simp only [outsG] at h2 hg0 ⊢; omega)
      exact ⟨r, c, .step hs (by omega) hp h⟩
theorem outs_zero : ∀ (l : List S61) (v : Int), outsG l (List.replicate l.length 0) v = 0
  | [], v => rfl
  | x :: l, v => by
    have := outs_zero l v
    simp only [outsG, List.length_cons, List.replicate_succ, FlowM.outs] at this ⊢
    rw [this]; simp
theorem flow_zero (n : Nat) (l : List S61) (frm tt : Int) (hg : GoodL n l) : FlowG n l frm tt (List.replicate l.length 0) where
  bnd := (bd_iff l _).2 ⟨by simp, fun i i0 i1 => by
    have := (hg _ (rdT_mem l i i0 i1)).2.2.2.1
    have e : rd (List.replicate l.length 0) i = 0 := by simp [rd, List.getD, show i.toNat < l.length by omega]
    rw [e]; omega⟩
  cons := fun v _ _ _ _ => outs_zero l v
open Classical in
/-- what the rounds come to -/
noncomputable def runOut (n : Nat) (l : List S61) (frm tt : Int) : List Int × List Bool := if h : ∃ x : List Int × List Bool, Run n l frm tt (List.replicate l.length 0) x.1 x.2 then Classical.choose h else ([], [])
theorem runOut_eq {n : Nat} {l : List S61} {frm tt : Int} {r : List Int} {c : List Bool} (h : Run n l frm tt (List.replicate l.length 0) r c) : runOut n l frm tt = (r, c) := by
  have hex : ∃ x : List Int × List Bool, Run n l frm tt (List.replicate l.length 0) x.1 x.2 := ⟨(r, c), h⟩
  unfold runOut
  rw [dif_pos hex]
  obtain ⟨a, b⟩ := Run.det (Classical.choose_spec hex) h
  exact Prod.ext a b
/-- a good network, and two different nodes of it -/
structure Good (a0 : Int) (l : List S61) (a2 a3 : Int) : Prop where
  n2 : 2 ≤ a0
  n4 : a0 ≤ 4096
  m : l.length ≤ 65536
  ends : GoodL a0 l
  f0 : 0 ≤ a2
  f1 : a2 < a0
  t0 : 0 ≤ a3
  t1 : a3 < a0
  ne : a2 ≠ a3
theorem badE_iff (n : Int) (x : S61) : badE n x = false ↔ ((0 ≤ x.f0 ∧ x.f0 < n) ∧ (0 ≤ x.f1 ∧ x.f1 < n) ∧ x.f0 ≠ x.f1 ∧ 0 ≤ x.f2 ∧ x.f2 ≤ 1073741824) := by
  simp only [badE, nodeB, Bool.or_eq_false_iff, Bool.not_eq_false', Bool.and_eq_true, decide_eq_true_eq, decide_eq_false_iff_not, beq_eq_false_iff_ne, ne_eq, Int.not_lt]
  constructor
  · rintro ⟨⟨⟨⟨h1, h2⟩, h3⟩, h4⟩, h5⟩; exact ⟨h1, h2, h3, h4, h5⟩
  · rintro ⟨h1, h2, h3, h4, h5⟩; exact ⟨⟨⟨⟨h1, h2⟩, h3⟩, h4⟩, h5⟩
theorem chkV_zero (n : Int) (l : List S61) : chkV n l = 0 ↔ 2 ≤ n ∧ n ≤ 4096 ∧ l.length ≤ 65536 ∧ GoodL n l := by
  unfold chkV
  by_cases h : n < 2 ∨ 4096 < n ∨ 65536 < (l.length : Int)
  · rw [if_pos h]; constructor
    · intro h; cases h
    · intro h2; omega
  · rw [if_neg h]
    by_cases h2 : l.any (badE n) = true
    · rw [if_pos h2]; constructor
      · intro h; cases h
      · rintro ⟨_, _, _, hg⟩
        obtain ⟨x, hx, hb⟩ := List.any_eq_true.1 h2
        have := (badE_iff n x).2 (hg x hx)
        rw [this] at hb; cases hb
    · rw [if_neg h2]
      refine ⟨fun _ => ⟨by omega, by omega, by omega, fun x hx => (badE_iff n x).1 ?_⟩, fun _ => rfl⟩
      cases hb : badE n x with
      | false => rfl
      | true => exact absurd (List.any_eq_true.2 ⟨x, hx, hb⟩) h2
theorem chkV_two (n : Int) (l : List S61) : chkV n l = 0 ∨ chkV n l = 180 := by unfold chkV; split; · exact .inr rfl
                                                                                split; · exact .inr rfl
                                                                                exact .inl rfl
/-- what check answers -/
theorem check_eq (k : Nat) (a0 : Int) (l : List S61) (a2 a3 : Int) : flow_check.f (k + 1) a0 l a2 a3 = some (if chkV a0 l = 0 ∧ 0 ≤ a2 ∧ a2 < a0 ∧ 0 ≤ a3 ∧ a3 < a0 ∧ a2 ≠ a3 then 0 else 180) := by
  have := chkV_two a0 l
  simp only [flow_check.f, flow_Check.f, flow_check.j0, Option.bind_some]
  by_cases h0 : chkV a0 l = 0
  · rw [if_pos h0]
    by_cases h1 : a2 < 0
    · rw [if_pos h1, if_pos trivial, if_neg (by omega)]
    · rw [if_neg h1]
      by_cases h2 : a2 ≥ a0
      · rw [if_pos h2, if_pos trivial, if_neg (by omega)]
      · rw [if_neg h2]
        by_cases h3 : a3 < 0
        · rw [if_pos h3, if_pos trivial, if_neg (by omega)]
        · rw [if_neg h3]
          by_cases h4 : a3 ≥ a0
          · rw [if_pos h4, if_pos trivial, if_neg (by omega)]
          · rw [if_neg h4]
            by_cases h5 : a2 = a3
            · rw [if_pos (beq_iff_eq.2 h5), if_neg (by omega)]
            · rw [if_neg (by simp [h5]), if_pos ⟨h0, by omega, by omega, by omega, by omega, h5⟩]
  · rw [if_neg h0, if_neg (fun h => h0 h.1)]
    have h1 : chkV a0 l = 180 := by omega
    rw [h1]
theorem good_iff (a0 : Int) (l : List S61) (a2 a3 : Int) : (chkV a0 l = 0 ∧ 0 ≤ a2 ∧ a2 < a0 ∧ 0 ≤ a3 ∧ a3 < a0 ∧ a2 ≠ a3) ↔ Good a0 l a2 a3 := by
  rw [chkV_zero]
  exact ⟨fun ⟨⟨a, b, c, d⟩, e, f, g, h, i⟩ => ⟨a, b, c, d, e, f, g, h, i⟩, fun h => ⟨⟨h.n2, h.n4, h.m, h.ends⟩, h.f0, h.f1, h.t0, h.t1, h.ne⟩⟩
open Classical in
theorem check_good (k : Nat) (a0 : Int) (l : List S61) (a2 a3 : Int) : flow_check.f (k + 1) a0 l a2 a3 = some (if Good a0 l a2 a3 then 0 else 180) := by
  rw [check_eq]
  congr 1
  by_cases h : Good a0 l a2 a3
  · rw [if_pos h, if_pos ((good_iff a0 l a2 a3).2 h)]
  · rw [if_neg h, if_neg (fun e => h ((good_iff a0 l a2 a3).1 e))]
noncomputable def flow_Max.f (k : Nat) (a0 : Int) (l1 : List S61) (a2 : Int) (a3 : Int) : Option (List Int × List Bool × Int) :=
  (flow_check.f k a0 l1 a2 a3).bind fun e => if e = 0 then some ((runOut a0.toNat l1 a2 a3).1, (runOut a0.toNat l1 a2 a3).2, 0) else some ([], [], e)
/-- what Max answers: a flow and the least minimum cut -/
theorem max_good (k : Nat) (a0 : Int) (l : List S61) (a2 a3 : Int) (h : Good a0 l a2 a3) : ∃ fl c, flow_Max.f (k + 1) a0 l a2 a3 = some (fl, c, 0) ∧ FlowM.Opt S61.f0 S61.f1 S61.f2 a0 l a2 a3 fl (Cof c) ∧ (c.length : Int) = a0 := by
  obtain ⟨n, rfl⟩ := Int.eq_ofNat_of_zero_le (show 0 ≤ a0 by have := h.n2; omega)
  obtain ⟨r, c, hr⟩ := Run.ends n l a2 a3 h.ends h.f0 h.f1 h.t0 h.t1 h.ne _ _ (flow_zero n l a2 a3 h.ends) (Nat.le_refl _)
  obtain ⟨ho, hc⟩ := Run.opt h.ends h.f0 h.f1 h.t0 h.t1 h.ne hr (flow_zero n l a2 a3 h.ends)
  refine ⟨r, c, ?_, ho, by omega⟩
  unfold flow_Max.f
  rw [check_good, if_pos h]
  show some ((runOut (n : Int).toNat l a2 a3).1, (runOut (n : Int).toNat l a2 a3).2, (0 : Int)) = _
  rw [Int.toNat_natCast, runOut_eq hr]
end Go.Proofs.Ytadeidhefjifaaa.Px
end
