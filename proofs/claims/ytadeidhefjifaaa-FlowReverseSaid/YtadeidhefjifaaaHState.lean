/- The state of a search in memory. -/
import Derived.Test.YtadeidhefjifaaaHUse
import Derived.Test.YtadeidhefjifaaaHRepeat
set_option linter.unusedVariables false
set_option linter.unusedSimpArgs false
namespace Go.Proofs.Ytadeidhefjifaaa.Px
open Go.RowKit Go.Shelf Go.Proofs.YtadeidhefjifaaaW.PrintWords Go.Proofs.YtadeidhefjifaaaW.PrintLast Go.Proofs.YtadeidhefjifaaaW.PrintMore
/-- one list of usable residual edges: the entries, the queue, and whether the node to has been met -/
def scanU (tt : Int) {n : Nat} : List Int → List Int → List (RE n) → List Int × List Int × Bool
  | bys, q, [] => (bys, q, false)
  | bys, q, x :: t => if 0 ≤ rd bys x.1.2 then scanU tt bys q t else if x.1.2 = tt then (bys.set x.1.2.toNat x.1.1, q, true) else scanU tt (bys.set x.1.2.toNat x.1.1) (q ++ [x.1.2]) t
theorem scan_old (tt : Int) {n : Nat} (b q : List Int) (x : RE n) (xs : List (RE n)) (h : 0 ≤ rd b x.1.2) : scanU tt b q (x :: xs) = scanU tt b q xs := by simp [scanU, h]
theorem scan_hit (tt : Int) {n : Nat} (b q : List Int) (x : RE n) (xs : List (RE n)) (h : ¬ 0 ≤ rd b x.1.2) (ht : x.1.2 = tt) : scanU tt b q (x :: xs) = (b.set x.1.2.toNat x.1.1, q, true) := by
  rw [scanU, if_neg h, if_pos ht]
theorem scan_new (tt : Int) {n : Nat} (b q : List Int) (x : RE n) (xs : List (RE n)) (h : ¬ 0 ≤ rd b x.1.2) (ht : ¬ x.1.2 = tt) : scanU tt b q (x :: xs) = scanU tt (b.set x.1.2.toNat x.1.1) (q ++ [x.1.2]) xs := by
  rw [scanU, if_neg h, if_neg ht]
theorem scan_append (tt : Int) {n : Nat} : ∀ (xs ys : List (RE n)) (b q b' q' : List Int), scanU tt b q xs = (b', q', false) → scanU tt b q (xs ++ ys) = scanU tt b' q' ys
  | [], ys, b, q, b', q', h => by simp [scanU] at h; obtain ⟨rfl, rfl⟩ := h; rfl
  | x :: xs, ys, b, q, b', q', h => by
    rw [List.cons_append]
    by_cases h1 : 0 ≤ rd b x.1.2
    · rw [scan_old _ _ _ _ _ h1] at h ⊢; exact scan_append tt xs ys b q b' q' h
    · by_cases h2 : x.1.2 = tt
      · rw [scan_hit _ _ _ _ _ h1 h2] at h; simp at h
      · rw [scan_new _ _ _ _ _ h1 h2] at h ⊢; exact scan_append tt xs ys _ _ b' q' h
theorem scan_stop (tt : Int) {n : Nat} : ∀ (xs ys : List (RE n)) (b q b' q' : List Int), scanU tt b q xs = (b', q', true) → scanU tt b q (xs ++ ys) = (b', q', true)
  | [], ys, b, q, b', q', h => by simp [scanU] at h
  | x :: xs, ys, b, q, b', q', h => by
    rw [List.cons_append]
    by_cases h1 : 0 ≤ rd b x.1.2
    · rw [scan_old _ _ _ _ _ h1] at h ⊢; exact scan_stop tt xs ys b q b' q' h
    · by_cases h2 : x.1.2 = tt
      · rw [scan_hit _ _ _ _ _ h1 h2] at h ⊢; exact h
      · rw [scan_new _ _ _ _ _ h1 h2] at h ⊢; exact scan_stop tt xs ys _ _ b' q' h
/-- the search: breadth first -/
def bfs (tt : Int) {n : Nat} (use : Int → List (RE n)) : Nat → List Int → List Int → Option (List Int)
  | 0, _, _ => none
  | _ + 1, b, [] => some b
  | k + 1, b, v :: q => if (scanU tt b q (use v)).2.2 = true then some (scanU tt b q (use v)).1 else bfs tt use k (scanU tt b q (use v)).1 (scanU tt b q (use v)).2.1

structure SW (w0 : World) (U B : Nat) (w W : World) (G : Nat) (A : Option Addr) (c : Nat) (l : List S61) (vF : Value) (fl : List Int) (vA : Value) (adj : List (List Int)) (P5 P6 P7 R n : Nat) (tt : Int) (bys q : List Int) (vq : Value) : Prop where
  net : NS w0 U W G A c l vF fl vA adj
  h5 : W.heap[P5]? = some (.cells #[.int .i64 tt] 3 (0, 0))
  h6 : W.heap[P6]? = some (.cells #[.slice (some ⟨R, 0, none⟩) n n] 23 (0, 0))
  h7 : W.heap[P7]? = some (.cells #[vq] 23 (0, 0))
  hR : W.heap[R]? = some (.cells (bys.map (Value.int .i64)).toArray 3 (0, 0))
  hn : bys.length = n
  hq : Kd.Q (Kd.int .i64) 3 W B (fun k => k ≠ R ∧ k ≠ P5) vq q
  b5 : B ≤ P5
  b6 : B ≤ P6
  b7 : B ≤ P7
  bR : B ≤ R
  ne : R ≠ P5
  ne2 : P6 ≠ P7
  hB : Below B w W
  hUB : U ≤ B
section
variable {w0 : World} {U B : Nat} {w W W' : World} {G : Nat} {A : Option Addr} {c : Nat} {l : List S61} {vF : Value} {fl : List Int} {vA : Value} {adj : List (List Int)} {P5 P6 P7 R n : Nat} {tt : Int} {bys q : List Int} {vq : Value}
/-- the blocks that hold cells stay -/
theorem SW.keep (h : SW w0 U B w W G A c l vF fl vA adj P5 P6 P7 R n tt bys q vq) (hb : Below B W W') (hc : ∀ (k : Nat) (cs : Array Value) (t : TypeId), W.heap[k]? = some (Obj.cells cs t (0, 0)) → W'.heap[k]? = some (Obj.cells cs t (0, 0))) :
    SW w0 U B w W' G A c l vF fl vA adj P5 P6 P7 R n tt bys q vq :=
  { h with
    net := h.net.below (hb.mono h.hUB)
    h5 := hc _ _ _ h.h5
    h6 := hc _ _ _ h.h6
    h7 := hc _ _ _ h.h7
    hR := hc _ _ _ h.hR
    hq := Kd.Q_mono (Kd.Q_move (Kd.Q_bound h.hq) (fun k hk => by obtain ⟨_, _, _, q, _, cells, hc'⟩ := hk; rw [hc', hc k cells q hc'])) (fun _ hk => hk.1)
    hB := h.hB.trans hb }
theorem SW.below (h : SW w0 U B w W G A c l vF fl vA adj P5 P6 P7 R n tt bys q vq) (hs : B ≤ W.heap.size) (hb : Below W.heap.size W W') : SW w0 U B w W' G A c l vF fl vA adj P5 P6 P7 R n tt bys q vq :=
  h.keep (hb.mono hs) (fun k cs t hk => (hb.block k (lt_of_block hk)).trans hk)
theorem SW.size (h : SW w0 U B w W G A c l vF fl vA adj P5 P6 P7 R n tt bys q vq) : B ≤ W.heap.size := Nat.le_of_lt (Nat.lt_of_le_of_lt h.b5 (lt_of_block h.h5))
/-- a turn of a block that holds no cells -/
theorem SW.own (h : SW w0 U B w W G A c l vF fl vA adj P5 P6 P7 R n tt bys q vq) {row : Option Nat} (hg : W.grownBy W' row) (hr : ∀ r, row = some r → B ≤ r ∧ ∃ o : Obj, W.heap[r]? = some o ∧ o.isCells = false) :
    SW w0 U B w W' G A c l vF fl vA adj P5 P6 P7 R n tt bys q vq :=
  h.keep ((Below.refl _ _).grown hg h.size (fun k hk => (hr k hk).1)) (fun k cs t hk => (hg.block k (lt_of_block hk) (fun e => by
    obtain ⟨_, o, ho, hoc⟩ := hr k e.symm
    rw [hk] at ho; cases ho; simp [Obj.isCells] at hoc)).trans hk)
/-- an entry is written -/
theorem SW.setBy (h : SW w0 U B w W G A c l vF fl vA adj P5 P6 P7 R n tt bys q vq) (u : Int) (h0 : 0 ≤ u) (h1 : u < n) (r : Int) :
    SW w0 U B w (W.setCell ⟨R, u.toNat, none⟩ (.int .i64 r)) G A c l vF fl vA adj P5 P6 P7 R n tt (bys.set u.toNat r) q vq := by
  have far : ∀ k, k ≠ R → (W.setCell ⟨R, u.toNat, none⟩ (.int .i64 r)).heap[k]? = W.heap[k]? := fun k hk => Below.heap_setCell W ⟨R, u.toNat, none⟩ _ k hk
  have t6 : P6 ≠ R := fun e => by have := h.h6; rw [e, h.hR] at this; simp at this
  have t7 : P7 ≠ R := fun e => by have := h.h7; rw [e, h.hR] at this; simp at this
  have hb : Below B W (W.setCell ⟨R, u.toNat, none⟩ (.int .i64 r)) := (Below.refl B W).setCell (p := ⟨R, u.toNat, none⟩) h.bR _
  exact { h with
    net := h.net.below (hb.mono h.hUB)
    h5 := (far _ h.ne.symm).trans h.h5
    h6 := (far _ t6).trans h.h6
    h7 := (far _ t7).trans h.h7
    hR := by
      have hlt := lt_of_block h.hR
      show (W.heap.modify R _)[R]? = _
      have h' : W.heap[R] = .cells (bys.map (Value.int .i64)).toArray 3 (0, 0) := by simpa [Array.getElem?_eq_getElem hlt] using h.hR
      rw [Array.getElem?_eq_getElem (by simpa using hlt), Array.getElem_modify_self, h']
      show some (Obj.cells (((bys.map (Value.int .i64)).toArray).setIfInBounds u.toNat (.int .i64 r)) 3 (0, 0)) = _
      simp [List.map_set]
    hn := by simp [h.hn]
    hq := Kd.Q_far (p := ⟨R, u.toNat, none⟩) h.hq (fun k hk => hk.1) _
    hB := h.hB.trans hb }
/-- the queue is written anew -/
theorem SW.setQ (h : SW w0 U B w W G A c l vF fl vA adj P5 P6 P7 R n tt bys q vq) {q' : List Int} {v' : Value} (hg : W.grownBy W' vq.ownBlock) (hQ : Kd.Q (Kd.int .i64) 3 W' B (fun k => k ≠ R ∧ k ≠ P5) v' q') :
    SW w0 U B w (W'.setCell ⟨P7, 0, none⟩ v') G A c l vF fl vA adj P5 P6 P7 R n tt bys q' v' := by
  have nk : ∀ (k : Nat) (cs : Array Value) (t : TypeId), W.heap[k]? = some (Obj.cells cs t (0, 0)) → (t ≠ 3 ∨ k = R ∨ k = P5) → W'.heap[k]? = some (Obj.cells cs t (0, 0)) := fun k cs t hk ht => by
    refine (hg.block k (lt_of_block hk) (fun e => ?_)).trans hk
    obtain ⟨cells, hc⟩ := Kd.Q_typed h.hq k e.symm
    rw [hc] at hk
    rcases ht with ht | ht | ht
    · simp at hk; exact ht hk.2.symm
    · exact (h.hq.1 k e.symm).1 ht
    · exact (h.hq.1 k e.symm).2 ht
  have hb : Below B W W' := (Below.refl _ _).grown hg h.size (fun k hk => Kd.Q_base h.hq k hk)
  have far : ∀ k, k ≠ P7 → (W'.setCell ⟨P7, 0, none⟩ v').heap[k]? = W'.heap[k]? := fun k hk => Below.heap_setCell W' ⟨P7, 0, none⟩ _ k hk
  have hb2 : Below B W' (W'.setCell ⟨P7, 0, none⟩ v') := (Below.refl B W').setCell (p := ⟨P7, 0, none⟩) h.b7 _
  have e7 := nk _ _ _ h.h7 (.inl (by decide))
  have t5 : P5 ≠ P7 := fun e => by have := h.h5; rw [e, h.h7] at this; simp at this
  have tR : R ≠ P7 := fun e => by have := h.hR; rw [e, h.h7] at this; simp at this
  exact { h with
    net := h.net.below ((hb.trans hb2).mono h.hUB)
    h5 := (far _ t5).trans (nk _ _ _ h.h5 (.inr (.inr rfl)))
    h6 := (far _ h.ne2).trans (nk _ _ _ h.h6 (.inl (by decide)))
    h7 := one_setCell e7
    hR := (far _ tR).trans (nk _ _ _ h.hR (.inr (.inl rfl)))
    hq := Kd.Q_set hQ e7 (by intro q hq; rcases List.mem_cons.1 hq with rfl | hq; exact (by decide); exact absurd hq (by simp [Kd.int, Kd.scalar])) 0 v'
    hB := (h.hB.trans hb).trans hb2 }
/-- the cells that a round reads -/
theorem SW.cells (h : SW w0 U B w W G A c l vF fl vA adj P5 P6 P7 R n tt bys q vq) (u : Int) (h0 : 0 ≤ u) (h1 : u < n) :
    W.cell? ⟨P6, 0, none⟩ = some (.slice (some ⟨R, 0, none⟩) n n) ∧ W.cell? ⟨R, u.toNat, none⟩ = some (.int .i64 (rd bys u)) ∧ W.frozen? ⟨R, u.toNat, none⟩ = false ∧
    W.cell? ⟨P5, 0, none⟩ = some (.int .i64 tt) ∧ W.cell? ⟨P7, 0, none⟩ = some vq ∧ W.frozen? ⟨P7, 0, none⟩ = false := by
  have hu : u.toNat < bys.length := by have := h.hn; omega
  refine ⟨(blk_cell h.h6 0).trans rfl, ?_, blk_frozen h.hR _, (blk_cell h.h5 0).trans rfl, (blk_cell h.h7 0).trans rfl, blk_frozen h.h7 0⟩
  rw [blk_cell h.hR]
  simp [hu, rd, List.getD]
end
end Go.Proofs.Ytadeidhefjifaaa.Px
