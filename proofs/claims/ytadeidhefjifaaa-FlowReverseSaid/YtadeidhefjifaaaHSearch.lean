/- Contract of the search. -/
import Derived.Test.YtadeidhefjifaaaHEnd
set_option linter.unusedVariables false
set_option linter.unusedSimpArgs false
namespace Go.Proofs.Ytadeidhefjifaaa.Px
open Go.RowKit Go.Shelf Go.Proofs.YtadeidhefjifaaaW.PrintWords Go.Proofs.YtadeidhefjifaaaW.PrintLast Go.Proofs.YtadeidhefjifaaaW.PrintMore
attribute [local go_sem] Oper.semAt_some
section
variable {w0 : World} {U : Nat} {w : World} {G : Nat} {A : Option Addr} {c : Nat} {l : List S61} {vF : Value} {fl : List Int} {vA : Value} {adj : List (List Int)}
/-- the head of the search's loop -/
def SI (w0 : World) (U : Nat) (w : World) (G : Nat) (A : Option Addr) (c : Nat) (l : List S61) (vF : Value) (fl : List Int) (vA : Value) (adj : List (List Int)) (P7 R n : Nat) (tt frm : Int) (b0 : List Int) (g : Nat) (a : Act) (W : World) : Prop :=
  ∃ u8 u9 u10 u11 u12 u13 u14 u15 u16 u17 u18 u19 u20 u21 u22 u23 u24 u25 u26 u27 u28 u29 u30 u31 u32 u33 u34 u35 u36 u37 u38 u39 u40 u41 u42 u43 u44 u45 u46 u47 u48 u49 u50 u51 u52 u53 u54 u55 u56 u57 u58 : Value, ∃ (bys q : List Int) (vq : Value) (Ds : List Nat), SW w0 U w.heap.size w W G A c l vF fl vA adj w.heap.size (w.heap.size + 1) P7 R n tt bys q vq ∧ MarksOK w.heap.size Ds W ∧
    (∀ k r, bfs tt (fun v => useL l fl n (adj.getD v.toNat [])) k bys q = some r → ∃ k', bfs tt (fun v => useL l fl n (adj.getD v.toNat [])) k' b0 [frm] = some r) ∧ (∀ x ∈ q, 0 ≤ x ∧ x < n) ∧ (g = 2 * unset bys + q.length ∧ g ≤ 2 * n + 1) ∧
    a = { tmps := #[.pointer (some ⟨G, 0, none⟩), .int .i64 frm, .int .i64 tt, undef, undef, .pointer (some ⟨w.heap.size, 0, none⟩), .pointer (some ⟨w.heap.size + 1, 0, none⟩), .pointer (some ⟨P7, 0, none⟩), u8, u9, u10, u11, u12, u13, u14, u15, u16, u17, u18, u19, u20, u21, u22, u23, u24, u25, u26, u27, u28, u29, u30, u31, u32, u33, u34, u35, u36, u37, u38, u39, u40, u41, u42, u43, u44, u45, u46, u47, u48, u49, u50, u51, u52, u53, u54, u55, u56, u57, u58], defers := Ds.map mark }
theorem SW.init {W5 : World} {R n : Nat} {tt frm : Int} (hN : NS w0 U w G A c l vF fl vA adj) (hU : U ≤ w.heap.size) (f0 : 0 ≤ frm) (f1 : frm < n)
    (h5 : W5.heap[w.heap.size]? = some (.cells #[.int .i64 tt] 3 (0, 0))) (h6 : W5.heap[w.heap.size + 1]? = some (.cells #[.slice (some ⟨R, 0, none⟩) n n] 23 (0, 0))) (hR : W5.heap[R]? = some (.cells (Array.replicate n (.int .i64 (-1))) 3 (0, 0)))
    (hRl : w.heap.size + 3 ≤ R) (hB : Below w.heap.size w W5) (m : Int) :
    SW w0 U w.heap.size w (((W5.setCell ⟨R, frm.toNat, none⟩ (.int .i64 m)).alloc (Obj.cells #[.int .i64 frm] 3)).alloc (Obj.cells #[.slice (some ⟨W5.heap.size, 0, none⟩) 1 1] 23)).drew G A c l vF fl vA adj
      w.heap.size (w.heap.size + 1) (W5.heap.size + 1) R n tt ((List.replicate n (-1)).set frm.toNat m) [frm] (.slice (some ⟨W5.heap.size, 0, none⟩) 1 1) := by
  have hsz : (W5.setCell ⟨R, frm.toNat, none⟩ (.int .i64 m)).heap.size = W5.heap.size := by simp
  obtain ⟨W6, hW6⟩ : ∃ W6, W5.setCell ⟨R, frm.toNat, none⟩ (.int .i64 m) = W6 := ⟨_, rfl⟩
  have far : ∀ k, k ≠ R → W6.heap[k]? = W5.heap[k]? := fun k hk => by rw [← hW6]; exact Below.heap_setCell W5 ⟨R, frm.toNat, none⟩ _ k hk
  have hR6 : W6.heap[R]? = some (.cells (((List.replicate n (-1)).set frm.toNat m).map (Value.int .i64)).toArray 3 (0, 0)) := by
    have hlt := lt_of_block hR
    rw [← hW6]
    show (W5.heap.modify R _)[R]? = _
    have h' : W5.heap[R] = .cells (Array.replicate n (.int .i64 (-1))) 3 (0, 0) := by simpa [Array.getElem?_eq_getElem hlt] using hR
    rw [Array.getElem?_eq_getElem (by simpa using hlt), Array.getElem_modify_self, h']
    show some (Obj.cells ((Array.replicate n (Value.int .i64 (-1))).setIfInBounds frm.toNat (.int .i64 m)) 3 (0, 0)) = _
    congr 1
    rw [show (Array.replicate n (Value.int .i64 (-1))).setIfInBounds frm.toNat (.int .i64 m) = (((List.replicate n (-1)).set frm.toNat m).map (Value.int .i64)).toArray from Array.toList_inj.1 (by simp [List.map_set])]
  have hB6 : Below w.heap.size w W6 := by rw [← hW6]; exact hB.setCell (p := ⟨R, frm.toNat, none⟩) (by simp; omega) _
  rw [hW6] at hsz ⊢
  obtain ⟨W8, hW8⟩ : ∃ W8, ((W6.alloc (Obj.cells #[.int .i64 frm] 3)).alloc (Obj.cells #[.slice (some ⟨W5.heap.size, 0, none⟩) 1 1] 23)).drew = W8 := ⟨_, rfl⟩
  have hb8 : Below W6.heap.size W6 W8 := by rw [← hW8]; exact below_drew (below_alloc (below_alloc (Below.refl _ _) _) _)
  have k7 : W8.heap[W5.heap.size + 1]? = some (Obj.cells #[.slice (some ⟨W5.heap.size, 0, none⟩) 1 1] 23) := by
    rw [← hW8, ← hsz]
    have := heap_alloc_new (W6.alloc (Obj.cells #[.int .i64 frm] 3)) (Obj.cells #[.slice (some ⟨W6.heap.size, 0, none⟩) 1 1] 23)
    show ((W6.alloc (Obj.cells #[.int .i64 frm] 3)).alloc (Obj.cells #[.slice (some ⟨W6.heap.size, 0, none⟩) 1 1] 23)).heap[W6.heap.size + 1]? = _
    simpa using this
  have kq : W8.heap[W5.heap.size]? = some (Obj.cells #[.int .i64 frm] 3) := by
    rw [← hW8, ← hsz]
    show ((W6.alloc (Obj.cells #[.int .i64 frm] 3)).alloc _).heap[W6.heap.size]? = _
    rw [Below.heap_alloc _ _ _ (by simp)]
    exact heap_alloc_new W6 _
  rw [hW8]
  have lR := lt_of_block hR
  have l6 := lt_of_block h6
  exact {
    net := (hN.below (hB6.mono hU)).below (hb8.mono (by have := hB6.size; omega))
    h5 := (hb8.block _ (by omega)).trans ((far _ (by omega)).trans h5)
    h6 := (hb8.block _ (by omega)).trans ((far _ (by omega)).trans h6)
    h7 := k7
    hR := (hb8.block _ (by omega)).trans hR6
    hn := by simp
    hq := Kd.Q_of_R (Kd.R_of_own ⟨by simp [encs], .inr ⟨W5.heap.size, 1, #[.int .i64 frm], rfl, by omega, kq, Nat.le_refl _, by unfold maxLen; omega, rfl, rfl⟩⟩ (fun k hk => by simp [Value.ownBlock] at hk; omega))
    b5 := Nat.le_refl _
    b6 := by omega
    b7 := by omega
    bR := by omega
    ne := by omega
    ne2 := by omega
    hB := hB6.trans (hb8.mono (by omega))
    hUB := hU }
section
variable {P5 P6 P7 R n : Nat} {tt : Int} {bys q : List Int} {vq : Value} {W : World} {Ds : List Nat} {b1 B : Nat} {x1 : Value}
theorem body_store (hS : SW w0 U B w W G A c l vF fl vA adj P5 P6 P7 R n tt bys q vq) (hM : MarksOK B Ds W) (hc : W.heap[b1]? = some (.cells #[x1] 76 (0, 0))) (u : Int) (h0 : 0 ≤ u) (h1 : u < n) (r : Int) :
    SW w0 U B w (W.setCell ⟨R, u.toNat, none⟩ (.int .i64 r)) G A c l vF fl vA adj P5 P6 P7 R n tt (bys.set u.toNat r) q vq ∧ MarksOK B Ds (W.setCell ⟨R, u.toNat, none⟩ (.int .i64 r)) ∧ (W.setCell ⟨R, u.toNat, none⟩ (.int .i64 r)).heap[b1]? = some (.cells #[x1] 76 (0, 0)) ∧
    (∀ N, KeepsFrom N W (W.setCell ⟨R, u.toNat, none⟩ (.int .i64 r))) ∧ KpS B b1 W (W.setCell ⟨R, u.toNat, none⟩ (.int .i64 r)) := by
  have far : ∀ k, k ≠ R → (W.setCell ⟨R, u.toNat, none⟩ (.int .i64 r)).heap[k]? = W.heap[k]? := fun k hk => Below.heap_setCell W ⟨R, u.toNat, none⟩ _ k hk
  have nb : b1 ≠ R := fun e => by have := hS.hR; rw [← e, hc] at this; simp at this
  refine ⟨hS.setBy u h0 h1 r, hM.keep fun D _ hk => (far D (fun e => by rw [e, hS.hR] at hk; cases hk)).trans hk, (far _ nb).trans hc, fun N => ⟨by simp, fun k o _ hk ho => (far k (fun e => by rw [e, hS.hR] at hk; cases hk; simp [Obj.isCells] at ho)).trans hk⟩, (Below.refl B W).setCell (p := ⟨R, u.toNat, none⟩) hS.bR _, fun cs t hk => (far _ nb).trans hk⟩
theorem body_append {W' : World} {v' : Value} {q' : List Int} (hS : SW w0 U B w W G A c l vF fl vA adj P5 P6 P7 R n tt bys q vq) (hM : MarksOK B Ds W) (hc : W.heap[b1]? = some (.cells #[x1] 76 (0, 0)))
    (hg : W.grownBy W' vq.ownBlock) (hQ : Kd.Q (Kd.int .i64) 3 W' B (fun k => k ≠ R ∧ k ≠ P5) v' q') :
    SW w0 U B w (W'.setCell ⟨P7, 0, none⟩ v') G A c l vF fl vA adj P5 P6 P7 R n tt bys q' v' ∧ MarksOK B Ds (W'.setCell ⟨P7, 0, none⟩ v') ∧ (W'.setCell ⟨P7, 0, none⟩ v').heap[b1]? = some (.cells #[x1] 76 (0, 0)) ∧
    (∀ N, KeepsFrom N W (W'.setCell ⟨P7, 0, none⟩ v')) ∧ KpS B b1 W (W'.setCell ⟨P7, 0, none⟩ v') := by
  have far : ∀ k, k ≠ P7 → (W'.setCell ⟨P7, 0, none⟩ v').heap[k]? = W'.heap[k]? := fun k hk => Below.heap_setCell W' ⟨P7, 0, none⟩ _ k hk
  have nb : b1 ≠ P7 := fun e => by have := hS.h7; rw [← e, hc] at this; simp at this
  have typ : ∀ k, vq.ownBlock = some k → ∃ cells, W.heap[k]? = some (.cells cells 3 (0, 0)) := fun k hk => Kd.Q_typed hS.hq k hk
  have keep : ∀ (k : Nat) (o : Obj), W.heap[k]? = some o → (∀ cells, o ≠ .cells cells 3 (0, 0)) → k ≠ P7 → (W'.setCell ⟨P7, 0, none⟩ v').heap[k]? = some o := fun k o hk ho h7 =>
    (far k h7).trans ((hg.block k (lt_of_block hk) (fun e => by obtain ⟨cells, hcc⟩ := typ k e.symm; rw [hk] at hcc; cases hcc; exact ho _ rfl)).trans hk)
  have hb : Below B W W' := (Below.refl _ _).grown hg hS.size (fun k hk => Kd.Q_base hS.hq k hk)
  refine ⟨hS.setQ hg hQ, hM.keep fun D _ hk => keep D _ hk (fun _ e => by cases e) (fun e => by rw [e, hS.h7] at hk; cases hk), keep b1 _ hc (fun cells e => by simp at e) nb,
    fun N => ⟨by have := hg.size; simpa using this, fun k o _ hk ho => keep k o hk (fun cells e => by rw [e] at ho; simp [Obj.isCells] at ho) (fun e => by rw [e, hS.h7] at hk; cases hk; simp [Obj.isCells] at ho)⟩,
    hb.setCell (p := ⟨P7, 0, none⟩) hS.b7 _, fun cs t hk => keep b1 _ hk (fun cells e => by rw [hc] at hk; cases hk; simp at e) nb⟩
theorem fr_of (hS : SW w0 U B w W G A c l vF fl vA adj P5 P6 P7 R n tt bys q vq) : ∀ k, W.heap.size ≤ k → k ≠ R ∧ k ≠ P5 := fun k hk =>
  ⟨fun e => by have := lt_of_block hS.hR; omega, fun e => by have := lt_of_block hS.h5; omega⟩
theorem ap_block {W' : World} (hS : SW w0 U B w W G A c l vF fl vA adj P5 P6 P7 R n tt bys q vq) (hg : W.grownBy W' vq.ownBlock) : W'.heap[P7]? = some (.cells #[vq] 23 (0, 0)) :=
  (hg.block P7 (lt_of_block hS.h7) (fun e => by obtain ⟨cells, hcc⟩ := Kd.Q_typed hS.hq _ e.symm; rw [hS.h7] at hcc; simp at hcc)).trans hS.h7
theorem ap_cell {W' : World} (hS : SW w0 U B w W G A c l vF fl vA adj P5 P6 P7 R n tt bys q vq) (hg : W.grownBy W' vq.ownBlock) : W'.cell? ⟨P7, 0, none⟩ = some vq :=
  (blk_cell (ap_block hS hg) 0).trans rfl
theorem ap_frozen {W' : World} (hS : SW w0 U B w W G A c l vF fl vA adj P5 P6 P7 R n tt bys q vq) (hg : W.grownBy W' vq.ownBlock) : W'.frozen? ⟨P7, 0, none⟩ = false :=
  blk_frozen (ap_block hS hg) 0
end
set_option maxRecDepth 100000 in
set_option maxHeartbeats 4000000 in
theorem search_in (n : Nat) (tt frm : Int) (hN : NS w0 U w G A c l vF fl vA adj) (hU : U ≤ w.heap.size) (hk : Okf l fl) (hn1 : 1 ≤ n) (hn2 : n ≤ 4096) (hadj : adj.length = n) (f0 : 0 ≤ frm) (f1 : frm < n)
    (he : ∀ r : Int, 0 ≤ r → r < 2 * l.length → 0 ≤ endR l r ∧ endR l r < n) (hr : ∀ v : Int, 0 ≤ v → v < n → ∀ r ∈ adj.getD v.toNat [], 0 ≤ r ∧ r < 2 * (l.length : Int)) (hrl : ∀ v : Int, 0 ≤ v → v < n → (adj.getD v.toNat []).length ≤ 2 * l.length) :
    CallsIn Fence.wide 3 Try.prog 49 #[.pointer (some ⟨G, 0, none⟩), .int .i64 frm, .int .i64 tt] w (SearchPost w n fun bys => ∃ k, bfs tt (fun v => useL l fl n (adj.getD v.toNat [])) k ((List.replicate n (-1)).set frm.toNat ((l.length : Int) * 2)) [frm] = some bys) := by
  have hu81 := Try.underlying81
  have hm : (l.length : Int) ≤ 65536 := by have := hN.hm; omega
  have g0 := (blk_cell hN.hG 0).trans (show _ = some _ from rfl)
  have g2 := (blk_cell hN.hG 2).trans (show _ = some _ from rfl)
  obtain ⟨Aa, ca, rfl, hca, hra⟩ := Kd.R_reads hN.hA
  rw [hadj] at g2
  have g2' := fun o1 o2 o3 => cell_lt (cell_lt (cell_lt g2 o1) o2) o3
  have HN := Aside0.mk hN
  have gl := hN.lt
  have HGL := Aside0.mk gl
  clear hra hca hN gl
  refine callsIn_of_wp_marks Try.func49 rfl trivial ?_ rfl
  simp only [Try.ntmps49, List.size_toArray, List.length_cons, List.length_nil, Nat.reduceAdd, Nat.reduceSub, Array.replicate_succ, Array.replicate_zero, List.push_toArray, List.append_toArray, List.nil_append, List.cons_append]
  gi_wp2
  refine wpIn_scope_straight ?_
  have HB3 := Aside0.mk (show ∀ o1 o2 o3, Below w.heap.size w (((w.alloc o1).alloc o2).alloc o3) from fun o1 o2 o3 => below_alloc (below_alloc (below_alloc (Below.refl _ _) o1) o2) o3)
  have HB5 := Aside0.mk (show ∀ o1 o2 o3, (((w.alloc o1).alloc o2).alloc o3).heap[w.heap.size]? = some o1 from fun o1 o2 o3 => blk3_0 w o1 o2 o3)
  have HB6 := Aside0.mk (show ∀ o1 o2 o3, (((w.alloc o1).alloc o2).alloc o3).heap[w.heap.size + 1]? = some o2 from fun o1 o2 o3 => blk3_1 w o1 o2 o3)
  have HB7 := Aside0.mk (show ∀ o1 o2 o3, (((w.alloc o1).alloc o2).alloc o3).heap[w.heap.size + 1 + 1]? = some o3 from fun o1 o2 o3 => blk3_2 w o1 o2 o3)
  gi_wp2_with fail
  obtain ⟨W3, hW3⟩ : ∃ W3, ((w.alloc (Obj.cells #[Value.int IntKind.i64 tt] 3)).alloc (Obj.cells #[Value.slice none 0 0] 23)).alloc (Obj.cells #[Value.int IntKind.i64 (-1)] 3) = W3 := ⟨_, rfl⟩
  rw [hW3]
  have q5 := HB5.out (Obj.cells #[Value.int IntKind.i64 tt] 3) (Obj.cells #[Value.slice none 0 0] 23) (Obj.cells #[Value.int IntKind.i64 (-1)] 3)
  have q6 := HB6.out (Obj.cells #[Value.int IntKind.i64 tt] 3) (Obj.cells #[Value.slice none 0 0] 23) (Obj.cells #[Value.int IntKind.i64 (-1)] 3)
  have q7 := HB7.out (Obj.cells #[Value.int IntKind.i64 tt] 3) (Obj.cells #[Value.slice none 0 0] 23) (Obj.cells #[Value.int IntKind.i64 (-1)] 3)
  have qb := HB3.out (Obj.cells #[Value.int IntKind.i64 tt] 3) (Obj.cells #[Value.slice none 0 0] 23) (Obj.cells #[Value.int IntKind.i64 (-1)] 3)
  rw [hW3] at q5 q6 q7 qb
  have qs : W3.heap.size = w.heap.size + 3 := by rw [← hW3]; simp
  have Q5 := Aside0.mk q5
  have Q6 := Aside0.mk q6
  have Q7 := Aside0.mk ((blk_cell q7 0).trans (show _ = some (Value.int .i64 (-1)) from rfl))
  have QB := Aside0.mk qb
  have QS := Aside0.mk qs
  clear hW3 q5 q6 q7 qb qs HB3 HB5 HB6 HB7 g2' g2
  refine ⟨trivial, (callsIn_wide.2 (repeat_calls W3 n (w.heap.size + 1 + 1) hn1 hn2 Q7.out)).mono ?_⟩
  rintro e w4 ⟨rfl, hr4, hb4⟩
  have R5 := Aside0.mk ((hb4.block _ (by rw [QS.out]; omega)).trans Q5.out)
  have r6 : w4.heap[w.heap.size + 1]? = _ := (hb4.block _ (by rw [QS.out]; omega)).trans Q6.out
  have s6 : w4.cell? ⟨w.heap.size + 1, 0, none⟩ = some (.slice none 0 0) := (blk_cell r6 0).trans rfl
  have z6 := blk_frozen r6 0
  have R6 := Aside0.mk r6
  have HR4 := Aside0.mk hr4
  have hw4 := QB.out.trans (hb4.mono (by rw [QS.out]; omega))
  have HB4 := Aside0.mk hw4
  clear hr4 hb4 r6 hw4
  obtain ⟨R, hR⟩ : ∃ R, W3.heap.size = R := ⟨_, rfl⟩
  have HRR := Aside0.mk hR
  rw [hR] at HR4
  rw [hR]
  gi_wp2_with fail
  obtain ⟨W5, hW5⟩ : ∃ W5, w4.setCell ⟨w.heap.size + 1, 0, none⟩ (.slice (some ⟨R, 0, none⟩) n n) = W5 := ⟨_, rfl⟩
  rw [hW5]
  have nR : R ≠ w.heap.size + 1 := by have := HRR.out; have := QS.out; omega
  have far : ∀ k, k ≠ w.heap.size + 1 → W5.heap[k]? = w4.heap[k]? := fun k hk => by rw [← hW5]; exact Below.heap_setCell w4 ⟨w.heap.size + 1, 0, none⟩ _ k hk
  have S6 : W5.heap[w.heap.size + 1]? = some (.cells #[.slice (some ⟨R, 0, none⟩) n n] 23 (0, 0)) := by rw [← hW5]; exact one_setCell R6.out
  have S5 := (far w.heap.size (by omega)).trans R5.out
  have SR := (far R nR).trans HR4.out
  have SG := (far G (by have := HGL.out; omega)).trans ((HB4.out.block G HGL.out).trans HN.out.hG)
  have SB : Below w.heap.size w W5 := by rw [← hW5]; exact HB4.out.setCell (p := ⟨w.heap.size + 1, 0, none⟩) (by simp) _
  have t0 : W5.cell? ⟨G, 0, none⟩ = some (.slice A l.length c) := (blk_cell SG 0).trans rfl
  have t6 : W5.cell? ⟨w.heap.size + 1, 0, none⟩ = some (.slice (some ⟨R, 0, none⟩) n n) := (blk_cell S6 0).trans rfl
  have tR : W5.cell? ⟨R, frm.toNat, none⟩ = some (.int .i64 (-1)) := by
    rw [blk_cell SR, Array.getElem?_replicate, if_pos (by omega)]
  have zR := blk_frozen SR frm.toNat
  have T5 := Aside0.mk S5
  have T6 := Aside0.mk S6
  have TR := Aside0.mk SR
  have TB := Aside0.mk SB
  have p0 : decide (0 ≤ frm) = true := decide_eq_true f0
  have p1 : decide (frm < (n : Int)) = true := decide_eq_true f1
  clear hW5 far S5 S6 SR SG SB s6 z6 hR
  gi_region
  gi_wp2_with fail
  have hSW := SW.init HN.out hU f0 f1 T5.out T6.out TR.out (show w.heap.size + 3 ≤ R by have := HRR.out; have := QS.out; omega) TB.out ((l.length : Int) * 2)
  obtain ⟨W8, hW8⟩ : ∃ W8, (((W5.setCell ⟨R, frm.toNat, none⟩ (.int .i64 ((l.length : Int) * 2))).alloc (Obj.cells #[.int .i64 frm] 3)).alloc (Obj.cells #[.slice (some ⟨W5.heap.size, 0, none⟩) 1 1] 23)).drew = W8 := ⟨_, rfl⟩
  rw [hW8] at hSW ⊢
  obtain ⟨P7, hP7⟩ : ∃ P7, W5.heap.size + 1 = P7 := ⟨_, rfl⟩
  rw [hP7] at hSW ⊢
  have HSW := Aside0.mk hSW
  clear hW8 hP7 hSW t0 t6 tR zR T5 T6 TR TB R5 R6 HR4 HB4 Q5 Q6 Q7 QB
  refine wpIn_label ?_
  gi_wp2_with fail
  refine wpIn_loop_g (SI w0 U w G A c l vF fl (.slice Aa adj.length ca) adj P7 R n tt frm ((List.replicate n (-1)).set frm.toNat ((l.length : Int) * 2))) (2 * unset ((List.replicate n (-1)).set frm.toNat ((l.length : Int) * 2)) + 1) ?start ?round
  case start =>
    refine ⟨_, _, _, _, _, _, _, _, _, _, _, _, _, _, _, _, _, _, _, _, _, _, _, _, _, _, _, _, _, _, _, _, _, _, _, _, _, _, _, _, _, _, _, _, _, _, _, _, _, _, _, _, _, _, [], HSW.out, ⟨List.nodup_nil, fun D hD => by cases hD⟩, ?_, ?_, ⟨rfl, ?_⟩, rfl⟩
    · intro k r hb; exact ⟨k, hb⟩
    · intro x hx; obtain rfl := List.mem_singleton.1 hx; exact ⟨f0, f1⟩
    · have : unset ((List.replicate n (-1)).set frm.toNat ((l.length : Int) * 2)) ≤ n := Nat.le_trans (List.length_filter_le _ _) (by simp)
      omega
  case round =>
    clear HSW
    intro g a W hI
    obtain ⟨u8, hI⟩ := hI
    obtain ⟨u9, hI⟩ := hI
    obtain ⟨u10, hI⟩ := hI
    obtain ⟨u11, hI⟩ := hI
    obtain ⟨u12, hI⟩ := hI
    obtain ⟨u13, hI⟩ := hI
    obtain ⟨u14, hI⟩ := hI
    obtain ⟨u15, hI⟩ := hI
    obtain ⟨u16, hI⟩ := hI
    obtain ⟨u17, hI⟩ := hI
    obtain ⟨u18, hI⟩ := hI
    obtain ⟨u19, hI⟩ := hI
    obtain ⟨u20, hI⟩ := hI
    obtain ⟨u21, hI⟩ := hI
    obtain ⟨u22, hI⟩ := hI
    obtain ⟨u23, hI⟩ := hI
    obtain ⟨u24, hI⟩ := hI
    obtain ⟨u25, hI⟩ := hI
    obtain ⟨u26, hI⟩ := hI
    obtain ⟨u27, hI⟩ := hI
    obtain ⟨u28, hI⟩ := hI
    obtain ⟨u29, hI⟩ := hI
    obtain ⟨u30, hI⟩ := hI
    obtain ⟨u31, hI⟩ := hI
    obtain ⟨u32, hI⟩ := hI
    obtain ⟨u33, hI⟩ := hI
    obtain ⟨u34, hI⟩ := hI
    obtain ⟨u35, hI⟩ := hI
    obtain ⟨u36, hI⟩ := hI
    obtain ⟨u37, hI⟩ := hI
    obtain ⟨u38, hI⟩ := hI
    obtain ⟨u39, hI⟩ := hI
    obtain ⟨u40, hI⟩ := hI
    obtain ⟨u41, hI⟩ := hI
    obtain ⟨u42, hI⟩ := hI
    obtain ⟨u43, hI⟩ := hI
    obtain ⟨u44, hI⟩ := hI
    obtain ⟨u45, hI⟩ := hI
    obtain ⟨u46, hI⟩ := hI
    obtain ⟨u47, hI⟩ := hI
    obtain ⟨u48, hI⟩ := hI
    obtain ⟨u49, hI⟩ := hI
    obtain ⟨u50, hI⟩ := hI
    obtain ⟨u51, hI⟩ := hI
    obtain ⟨u52, hI⟩ := hI
    obtain ⟨u53, hI⟩ := hI
    obtain ⟨u54, hI⟩ := hI
    obtain ⟨u55, hI⟩ := hI
    obtain ⟨u56, hI⟩ := hI
    obtain ⟨u57, hI⟩ := hI
    obtain ⟨u58, hI⟩ := hI
    obtain ⟨bys, q, vq, Ds, hS, hM, hb, hq, hg, rfl⟩ := hI
    have hS7 := (blk_cell hS.h7 0).trans (show _ = some vq from rfl)
    have z7 := blk_frozen hS.h7 0
    have HS := Aside0.mk hS
    have HM := Aside0.mk hM
    have HBF := Aside0.mk hb
    have HQ := Aside0.mk hq
    have HG := Aside0.mk hg
    clear hM hb hq hg
    cases q with
    | nil =>
      obtain ⟨Av, cv, rfl, hcv, hrv⟩ := Kd.Q_reads hS.hq
      have t6 : W.cell? ⟨w.heap.size + 1, 0, none⟩ = some (.slice (some ⟨R, 0, none⟩) n n) := (blk_cell hS.h6 0).trans rfl
      have z6 := blk_frozen hS.h6 0
      clear hS hrv hcv
      gi_wp2
      rw [Exit.noGoto_ret]
      refine search_end HS.out HM.out rfl ?_
      exact HBF.out 1 bys rfl
    | cons v q =>
      obtain ⟨gq, oq, cq, rfl, hq1, hq2, hq3⟩ := Kd.Q_form hS.hq (by simp)
      have hcell := (Kd.Q_cell 0 hS.hq 0 (by omega) (by simp)).1
      have hcell : W.cell? ⟨gq, oq, none⟩ = some (.int .i64 v) := by simpa [rdOf] using hcell
      have hcq := (Kd.Q_reads' hS.hq).2.1
      have HDR := Aside0.mk (Kd.Q_drop (k := 1) hS.hq (by simp))
      have hv := HQ.out v (by simp)
      clear hS
      gi_wp2_with fail
      case' inl =>
        have hdr := HDR.out
        simp only [h, if_true, Option.map_some, Addr.add, List.drop_succ_cons, List.drop_zero, List.length_cons, Nat.add_sub_cancel, Nat.sub_self] at hdr
        generalize hvq : Value.slice (some ⟨gq, oq, none⟩) q.length 0 = vq' at hdr ⊢
        generalize hvo : Value.slice (some ⟨gq, oq, none⟩) (q.length + 1) 1 = vo
        clear hvo
      case' inr =>
        have hdr := HDR.out
        simp only [h, if_false, Option.map_some, Addr.add, List.drop_succ_cons, List.drop_zero, List.length_cons, Nat.add_sub_cancel, show (1 : Nat) * (Kd.int .i64).sz = 1 from rfl, Nat.one_ne_zero] at hdr
        generalize hvq : Value.slice (some ⟨gq, oq + 1, none⟩) q.length (cq - 1) = vq' at hdr ⊢
        generalize hvo : Value.slice (some ⟨gq, oq, none⟩) (q.length + 1) cq = vo
        clear hvo
      all_goals (
        have hS1 := HS.out.setQ (W' := W) ⟨rfl, rfl, rfl, Nat.le_refl _, fun _ _ _ => rfl⟩ hdr
        have hM1 : MarksOK w.heap.size Ds (W.setCell ⟨P7, 0, none⟩ vq') := HM.out.keep fun D _ hk => (Below.heap_setCell W ⟨P7, 0, none⟩ _ D (fun e => by rw [e, HS.out.h7] at hk; cases hk)).trans hk
        obtain ⟨W1, hW1⟩ : ∃ W1, W.setCell ⟨P7, 0, none⟩ vq' = W1 := ⟨_, rfl⟩
        rw [hW1] at hS1 hM1 ⊢
        clear hW1 hdr hvq hS7 z7 hcell hcq HDR
        refine ⟨trivial, (usable_in (G := G) W1 v 2).mono ?_⟩
        rintro e W2 ⟨rfl, rfl⟩
        have hb : Below W1.heap.size W1 ((W1.alloc (.cells #[.pointer (some ⟨G, 0, none⟩)] 76)).alloc (.cells #[.int .i64 v] 3)) := below_alloc (below_alloc (Below.refl _ _) _) _
        have hS2 := hS1.below hS1.size hb
        have hM2 := hM1.keep (W' := (W1.alloc (.cells #[.pointer (some ⟨G, 0, none⟩)] 76)).alloc (.cells #[.int .i64 v] 3)) fun D _ hk => (hb.block D (lt_of_block hk)).trans hk
        have hc1 : ((W1.alloc (.cells #[.pointer (some ⟨G, 0, none⟩)] 76)).alloc (.cells #[.int .i64 v] 3)).heap[W1.heap.size]? = some (.cells #[.pointer (some ⟨G, 0, none⟩)] 76 (0, 0)) := by
          rw [Below.heap_alloc _ _ _ (by simp)]; exact heap_alloc_new _ _
        have hc2 : ((W1.alloc (.cells #[.pointer (some ⟨G, 0, none⟩)] 76)).alloc (.cells #[.int .i64 v] 3)).heap[W1.heap.size + 1]? = some (.cells #[.int .i64 v] 3 (0, 0)) := by
          have := heap_alloc_new (W1.alloc (.cells #[.pointer (some ⟨G, 0, none⟩)] 76)) (Obj.cells #[.int .i64 v] 3)
          simpa using this
        have hsz := hS1.size
        obtain ⟨W2, hW2⟩ : ∃ W2, (W1.alloc (.cells #[.pointer (some ⟨G, 0, none⟩)] 76)).alloc (.cells #[.int .i64 v] 3) = W2 := ⟨_, rfl⟩
        rw [hW2] at hS2 hM2 hc1 hc2 ⊢
        obtain ⟨b1, hb1⟩ : ∃ b1, W1.heap.size = b1 := ⟨_, rfl⟩
        rw [hb1] at hc1 hc2 hsz ⊢
        have HS2 := Aside0.mk hS2
        have HM2 := Aside0.mk hM2
        have HC1 := Aside0.mk hc1
        have HC2 := Aside0.mk hc2
        clear hS2 hM2 hS1 hM1 hc1 hc2 hb hW2 hb1 HM HS
        gi_wp2_with fail
        have hmd : ∀ D ∈ Ds, D < W2.heap.size := fun D hD => lt_of_block (HM2.out.2 D hD).2
        have hsz2 : b1 < W2.heap.size := lt_of_block HC1.out
        refine wpIn_rangeFunc_ownG (α := RE n) (encs := encRE n) (a₁ := (fun x => { tmps := #[.pointer (some ⟨G, 0, none⟩), .int .i64 frm, .int .i64 tt, undef, undef, .pointer (some ⟨w.heap.size, 0, none⟩), .pointer (some ⟨w.heap.size + 1, 0, none⟩), .pointer (some ⟨P7, 0, none⟩), .int .i64 v, .int .i64 x.1.1, .int .i64 x.1.2, u11, u12, u13, u14, u15, u16, u17, u18, u19, u20, u21, u22, u23, u24, u25, u26, u27, u28, vo, .int .i64 ((q.length : Int) + 1), .bool true, vo, .pointer (some ⟨gq, oq, none⟩), .int .i64 v, vo, vq', .pointer (some ⟨G, 0, none⟩), .int .i64 v, .func (.func 90) #[] #[.pointer (some ⟨b1, 0, none⟩), .pointer (some ⟨b1 + 1, 0, none⟩)], .int .i64 x.1.1, .int .i64 x.1.2, u42, u43, u44, u45, u46, u47, u48, u49, u50, u51, u52, u53, u54, u55, u56, u57, u58], defers := [] })) (I := fun pre W' => ∃ (bys' q' : List Int) (vq' : Value), scanU tt bys q pre = (bys', q', false) ∧ SW w0 U w.heap.size w W' G A c l vF fl (.slice Aa adj.length ca) adj w.heap.size (w.heap.size + 1) P7 R n tt bys' q' vq' ∧ MarksOK w.heap.size Ds W' ∧ W'.heap[b1]? = some (.cells #[.pointer (some ⟨G, 0, none⟩)] 76 (0, 0)))
          (Ix := fun cc pre W' => cc = .exit 0 ∧ ∃ (bys' q' : List Int) (vq' : Value), scanU tt bys q pre = (bys', q', true) ∧ SW w0 U w.heap.size w W' G A c l vF fl (.slice Aa adj.length ca) adj w.heap.size (w.heap.size + 1) P7 R n tt bys' q' vq' ∧ MarksOK w.heap.size Ds W')
          rfl (by decide) (gf := 90) rfl trivial (enters_of Try.func90 (by kernel_rfl) rfl)
          (usable_stops 2 n w.heap.size b1 (b1 + 1) (by decide) hU W2 HS2.out.net hk v hv.1 (by omega) he (adj.getD v.toNat []) rfl (hr v hv.1 hv.2) (by have := HS2.out.size; omega) HC1.out HC2.out) KpS.trans
          (fun W l o o' hl h _ _ => KpS.put (w := W2) (by omega) hsz2 hl h) (Below.refl _ _) (fun _ => rfl)
          ?hI ?hIx ⟨bys, q, vq', rfl, HS2.out, HM2.out, HC1.out⟩ ?assign ?body ?done ?stop
        case hI =>
          rintro pre X Y row ⟨bys', q', vq2, e, hS, hM, hc⟩ hg hrow
          exact ⟨bys', q', vq2, e, hS.own hg (fun r h => ⟨by have := (hrow r h).1; omega, (hrow r h).2⟩), hM.own hmd hg (fun r h => (hrow r h).1), (hg.block b1 (lt_of_block hc) (fun h => by have := (hrow b1 h.symm).1; omega)).trans hc⟩
        case hIx =>
          rintro cc pre X Y row ⟨ec, bys', q', vq2, e, hS, hM⟩ hg hrow
          exact ⟨ec, bys', q', vq2, e, hS.own hg (fun r h => ⟨by have := (hrow r h).1; omega, (hrow r h).2⟩), hM.own hmd hg (fun r h => (hrow r h).1)⟩
        case assign =>
          intro l0 x W K hK
          unfold encRE
          gi_wp2
          exact hK
        case body =>
          rintro l0 pre ⟨⟨r, u⟩, hu0, hu1⟩ W ⟨bys', q', vq2, hsc, hS, hM, hc⟩ hlen
          have hu0' : 0 ≤ u := hu0
          have hu1' : u < (n : Int) := hu1
          have p0 : decide (0 ≤ u) = true := decide_eq_true hu0'
          have p1 : decide (u < (n : Int)) = true := decide_eq_true hu1'
          obtain ⟨t1, t2, t3, t4, t5, t6⟩ := hS.cells u hu0 hu1
          have HX := Aside0.mk (show 0 ≤ u ∧ u < (n : Int) from ⟨hu0, hu1⟩)
          have HSI := Aside0.mk hS
          have HMI := Aside0.mk hM
          have HCI := Aside0.mk hc
          have HSC := Aside0.mk hsc
          have HLN := Aside0.mk hlen
          clear hS hM hc hsc hlen
          by_cases h0 : 0 ≤ rd bys' u
          · have b0 : decide (0 ≤ rd bys' u) = true := decide_eq_true h0
            have hx : scanU tt bys q (pre ++ [⟨(r, u), hu0, hu1⟩]) = (bys', q', false) := by rw [scan_append _ _ _ _ _ _ _ HSC.out]; simp [scanU, h0]
            have HXX := Aside0.mk hx
            clear h0 hx hu0' hu1'
            gi_wp2
            exact ⟨KeepsFrom.refl _ _, KpS.refl _ _ _, bys', q', vq2, HXX.out, HSI.out, HMI.out, HCI.out⟩
          · have b0 : decide (0 ≤ rd bys' u) = false := decide_eq_false h0
            obtain ⟨Av2, cv2, rfl, -, -⟩ := Kd.Q_reads HSI.out.hq
            have hbs := body_store HSI.out HMI.out HCI.out u hu0' hu1' r
            have s5 := hbs.1.cells u hu0' hu1'
            have s7 := s5.2.2.2.2.1
            have z7 := s5.2.2.2.2.2
            have s5 := s5.2.2.2.1
            have HBS := Aside0.mk hbs
            clear hbs
            by_cases ht : u = tt
            · have b1' : (u == tt) = true := beq_iff_eq.2 ht
              have hx : scanU tt bys q (pre ++ [⟨(r, u), hu0, hu1⟩]) = (bys'.set u.toNat r, q', true) := by rw [scan_append _ _ _ _ _ _ _ HSC.out]; exact scan_hit _ _ _ _ _ h0 ht
              have HXX := Aside0.mk hx
              clear h0 hx ht hu0' hu1'
              gi_wp2
              exact ⟨HBS.out.2.2.2.1 _, rfl, _, _, _, HXX.out, HBS.out.1, HBS.out.2.1⟩
            · have b1' : (u == tt) = false := beq_eq_false_iff_ne.2 ht
              have hx : scanU tt bys q (pre ++ [⟨(r, u), hu0, hu1⟩]) = (bys'.set u.toNat r, q' ++ [u], false) := by rw [scan_append _ _ _ _ _ _ _ HSC.out]; rw [scan_new _ _ _ _ _ h0 ht]; rfl
              have HXX := Aside0.mk hx
              clear h0 hx ht hu0' hu1'
              have hql : (q'.length + 1) * 8 ≤ 140737488355328 := by
                have e1 := scan_len tt _ _ _ _ _ _ HSC.out
                have e2 := useL_len l fl n (adj.getD v.toNat [])
                have e3 := hrl v hv.1 hv.2
                have e4 := HLN.out
                have e5 := HG.out.1
                have e6 := HG.out.2
                simp only [List.length_cons] at e5
                omega
              have HQL := Aside0.mk hql
              clear hql
              gi_wp2_with (gi_at_builtin; refine QIn_append rfl (.tmp 54) (.tmp 56) rfl w.heap.size (.slice Av2 q'.length cv2) q' u (fun k => k ≠ R ∧ k ≠ w.heap.size) rfl ?ad ?fr HBS.out.1.hq HBS.out.1.size HQL.out ?_; (case fr => exact fr_of HBS.out.1); (case ad => (rw [World.size_setCell]; rfl)); intro v1 w1 hQ1 hg1; obtain ⟨g1, o1, cc1, rfl, -, -, -⟩ := Kd.Q_form hQ1 (by simp); have HAP := Aside0.mk (body_append HBS.out.1 HBS.out.2.1 HBS.out.2.2.1 hg1 hQ1); have c7 := ap_cell HBS.out.1 hg1; have z8 := ap_frozen HBS.out.1 hg1; clear hQ1 hg1)
              have hap := HAP.out
              simp only [List.length_append, List.length_cons, List.length_nil, Nat.zero_add] at hap
              exact ⟨(HBS.out.2.2.2.1 _).trans (hap.2.2.2.1 _), HBS.out.2.2.2.2.trans hap.2.2.2.2, _, _, _, HXX.out, hap.1, hap.2.1, hap.2.2.1⟩
        case done =>
          rintro D xs W hD rfl ⟨bys', q', vq2, hsc, hS, hM, hc⟩ hK
          have hf := scan_facts tt _ _ _ _ _ _ hsc HS2.out.hn (fun x hx => HQ.out x (by simp [hx])) (fun e hm => (hr v hv.1 hv.2 _ (useL_mem hm).1).1)
          have e5 := HG.out.1
          have e6 := HG.out.2
          simp only [List.length_cons] at e5
          refine ⟨2 * unset bys' + q'.length, by omega, _, _, _, _, _, _, _, _, _, _, _, _, _, _, _, _, _, _, _, _, _, _, _, _, _, _, _, _, _, _, _, _, _, _, _, _, _, _, _, _, _, _, _, _, _, _, _, _, _, _, _, bys', q', vq2, D :: Ds, hS, ⟨List.nodup_cons.2 ⟨fun h => by have := hmd D h; omega, hM.1⟩, ?_⟩, ?_, hf.2.1, ⟨rfl, by omega⟩, rfl⟩
          · intro E hE
            rcases List.mem_cons.1 hE with rfl | hE
            · exact ⟨by omega, hK⟩
            · exact hM.2 E hE
          · intro k r hb
            exact HBF.out (k + 1) r (by rw [bfs, hsc]; simpa using hb)
        case stop =>
          rintro D cc pre W hD ⟨suf, hsuf⟩ ⟨rfl, bys', q', vq2, hsc, hS, hM⟩ hK
          have hx := scan_stop tt pre suf _ _ _ _ hsc
          rw [hsuf] at hx
          have hM' : MarksOK w.heap.size (D :: Ds) W := by
            refine ⟨List.nodup_cons.2 ⟨fun h => by have := hmd D h; omega, hM.1⟩, ?_⟩
            intro E hE
            rcases List.mem_cons.1 hE with rfl | hE
            · exact ⟨by omega, hK⟩
            · exact hM.2 E hE
          have hP : ∃ k, bfs tt (fun v => useL l fl n (adj.getD v.toNat [])) k ((List.replicate n (-1)).set frm.toNat ((l.length : Int) * 2)) [frm] = some bys' := HBF.out 1 bys' (by rw [bfs, hx]; rfl)
          have t6 : W.cell? ⟨w.heap.size + 1, 0, none⟩ = some (.slice (some ⟨R, 0, none⟩) n n) := (blk_cell hS.h6 0).trans rfl
          have z6 := blk_frozen hS.h6 0
          have HE := Aside0.mk hS
          have HME := Aside0.mk hM'
          have HP := Aside0.mk hP
          clear hS hM hM' hP hx hsc hK
          gi_wp2
          rw [Exit.noGoto_ret]
          exact search_end HE.out (Ds := D :: Ds) HME.out rfl HP.out)
theorem search_calls (n : Nat) (tt frm : Int) (hN : NS w0 U w G A c l vF fl vA adj) (hU : U ≤ w.heap.size) (hk : Okf l fl) (hn1 : 1 ≤ n) (hn2 : n ≤ 4096) (hadj : adj.length = n) (f0 : 0 ≤ frm) (f1 : frm < n)
    (he : ∀ r : Int, 0 ≤ r → r < 2 * l.length → 0 ≤ endR l r ∧ endR l r < n) (hr : ∀ v : Int, 0 ≤ v → v < n → ∀ r ∈ adj.getD v.toNat [], 0 ≤ r ∧ r < 2 * (l.length : Int)) (hrl : ∀ v : Int, 0 ≤ v → v < n → (adj.getD v.toNat []).length ≤ 2 * l.length) :
    Calls Try.prog 49 #[.pointer (some ⟨G, 0, none⟩), .int .i64 frm, .int .i64 tt] w (SearchPost w n fun bys => ∃ k, bfs tt (fun v => useL l fl n (adj.getD v.toNat [])) k ((List.replicate n (-1)).set frm.toNat ((l.length : Int) * 2)) [frm] = some bys) :=
  callsIn_wide.1 (search_in n tt frm hN hU hk hn1 hn2 hadj f0 f1 he hr hrl)
end
end Go.Proofs.Ytadeidhefjifaaa.Px
