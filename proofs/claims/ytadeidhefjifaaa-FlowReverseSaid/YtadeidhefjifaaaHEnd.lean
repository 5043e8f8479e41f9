/- The parts of the search's round: the ending, the iterator that is made, the scan. -/
import Derived.Test.YtadeidhefjifaaaHState
import Derived.Test.YtadeidhefjifaaaHScope
import Derived.RangeFuncWrites
import Derived.Deep.LoopGhost
set_option linter.unusedVariables false
set_option linter.unusedSimpArgs false
namespace Go.Proofs.Ytadeidhefjifaaa.Px
open Go.RowKit Go.Shelf Go.Proofs.YtadeidhefjifaaaW.PrintWords Go.Proofs.YtadeidhefjifaaaW.PrintLast Go.Proofs.YtadeidhefjifaaaW.PrintMore
attribute [local go_sem] Oper.semAt_some
section
variable {w0 : World} {U : Nat} {w : World} {G : Nat} {A : Option Addr} {c : Nat} {l : List S61} {vF : Value} {fl : List Int} {vA : Value} {adj : List (List Int)}
/-- what a search hands back -/
def SearchPost (w : World) (n : Nat) (P : List Int → Prop) (e : Ending) (w' : World) : Prop :=
  ∃ (R : Nat) (bys : List Int), e = .returned (.slice (some ⟨R, 0, none⟩) n n) ∧ w'.heap[R]? = some (.cells (bys.map (Value.int .i64)).toArray 3 (0, 0)) ∧ bys.length = n ∧ Below w.heap.size w w' ∧ w.heap.size ≤ R ∧ P bys
/-- a loop whose measure is a ghost -/
theorem wpIn_loop_g {F : Fence} {n : Nat} {P : Program} {Q : Exit → Act → World → Prop} {a : Act} {w : World} {c : Code} (I : Nat → Act → World → Prop) (g : Nat) (h0 : I g a w)
    (round : ∀ g a w, I g a w → c.wpIn F n P (Exit.then (fun a' w' => ∃ g', g' < g ∧ I g' a' w') Q) a w) : (Code.loop c).wpIn F n P Q a w := by
  refine wpIn_loop (fun a w => ∃ g, I g a w) (fun a w => leastOf fun g => I g a w) ⟨g, h0⟩ ?_
  intro a w h
  refine wpIn_mono (round _ a w (leastOf_spec h).1) ?_
  intro e a' w' he
  cases e with
  | normal =>
    obtain ⟨g', hlt, hI⟩ := he
    exact ⟨⟨g', hI⟩, Nat.lt_of_le_of_lt ((leastOf_spec (p := fun g => I g a' w') ⟨g', hI⟩).2 g' hI) hlt⟩
  | exit id => exact he
  | goto t => exact he
  | ret => exact he
  | panic ch => exact he
  | outgrown => exact he
/-- the marks of the loops over iterators that have ended -/
def mark (D : Nat) : Deferred := { target := .collected D, args := #[] }
def MarksOK (B : Nat) (Ds : List Nat) (W : World) : Prop := Ds.Nodup ∧ ∀ D ∈ Ds, B ≤ D ∧ W.heap[D]? = some (.deferred (some []))
theorem MarksOK.keep {B : Nat} {Ds : List Nat} {W W' : World} (h : MarksOK B Ds W) (hk : ∀ D, B ≤ D → W.heap[D]? = some (.deferred (some [])) → W'.heap[D]? = some (.deferred (some []))) : MarksOK B Ds W' :=
  ⟨h.1, fun D hD => ⟨(h.2 D hD).1, hk D (h.2 D hD).1 (h.2 D hD).2⟩⟩
theorem MarksOK.grown {B : Nat} {Ds : List Nat} {W W' : World} {row : Option Nat} (h : MarksOK B Ds W) (hg : W.grownBy W' row) (hr : ∀ r, row = some r → W.heap[r]? ≠ some (.deferred (some []))) : MarksOK B Ds W' :=
  h.keep (fun D _ hD => (hg.block D (lt_of_block hD) (fun e => hr D e.symm hD)).trans hD)
/-- how many entries are still open -/
def unset (b : List Int) : Nat := (b.filter fun x => decide (x < 0)).length
theorem unset_set : ∀ (b : List Int) (i : Nat) (r : Int) (hi : i < b.length), b[i] < 0 → 0 ≤ r → unset (b.set i r) + 1 = unset b
  | x :: b, 0, r, _, h, hr => by
    have h' : x < 0 := h
    have e1 : decide (r < 0) = false := decide_eq_false (by omega)
    have e2 : decide (x < 0) = true := decide_eq_true h'
    simp [unset, List.filter_cons, h', e1, e2]
  | x :: b, i + 1, r, hi, h, hr => by
    have ih := unset_set b i r (by simpa using hi) (by simpa using h) hr
    unfold unset at ih ⊢
    by_cases hx : x < 0
    · simp [List.filter_cons, hx, ← ih]
    · simp [List.filter_cons, hx, ← ih]
/-- a scan: lengths, range, measure -/
theorem scan_facts (tt : Int) {n : Nat} : ∀ (es : List (RE n)) (b q b' q' : List Int) (s : Bool), scanU tt b q es = (b', q', s) → b.length = n → (∀ x ∈ q, 0 ≤ x ∧ x < (n : Int)) → (∀ e ∈ es, 0 ≤ e.1.1) →
    b'.length = n ∧ (∀ x ∈ q', 0 ≤ x ∧ x < (n : Int)) ∧ 2 * unset b' + q'.length ≤ 2 * unset b + q.length
  | [], b, q, b', q', s, h, hb, hq, he => by simp [scanU] at h; obtain ⟨rfl, rfl, rfl⟩ := h; exact ⟨hb, hq, Nat.le_refl _⟩
  | x :: es, b, q, b', q', s, h, hb, hq, he => by
    have hx := x.2
    have h1 := he x (by simp)
    by_cases h0 : 0 ≤ rd b x.1.2
    · rw [scan_old _ _ _ _ _ h0] at h
      exact scan_facts tt es b q b' q' s h hb hq (fun e hm => he e (by simp [hm]))
    · have hlt : x.1.2.toNat < b.length := by omega
      have hrd : b[x.1.2.toNat] < 0 := by
        have : rd b x.1.2 = b[x.1.2.toNat] := by simp [rd, List.getD, hlt]
        omega
      have hu := unset_set b x.1.2.toNat x.1.1 hlt hrd h1
      by_cases h2 : x.1.2 = tt
      · rw [scan_hit _ _ _ _ _ h0 h2] at h
        simp at h; obtain ⟨rfl, rfl, rfl⟩ := h
        exact ⟨by simp [hb], hq, by omega⟩
      · rw [scan_new _ _ _ _ _ h0 h2] at h
        obtain ⟨i1, i2, i3⟩ := scan_facts tt es _ _ b' q' s h (by simp [hb]) (by
          intro y hy
          rcases List.mem_append.1 hy with hy | hy
          · exact hq y hy
          · obtain rfl := List.mem_singleton.1 hy; exact hx) (fun e hm => he e (by simp [hm]))
        refine ⟨i1, i2, ?_⟩
        simp at i3; omega
theorem useL_mem {l : List S61} {fl : List Int} {n : Nat} {rs : List Int} {x : RE n} (h : x ∈ useL l fl n rs) : x.1.1 ∈ rs ∧ capR l fl x.1.1 > 0 ∧ x.1.2 = endR l x.1.1 := by
  unfold useL at h
  obtain ⟨r, hr, hx⟩ := List.mem_filterMap.1 h
  split at hx
  · rename_i hc
    cases hx
    exact ⟨hr, hc.1, rfl⟩
  · cases hx
/-- the blocks that hold cells, and the marks -/
theorem leavesM_marks {F : Fence} {n : Nat} {P : Program} {fn : Func} {tmps : Array Value} {R : Ending → World → Prop} {B : Nat} : ∀ (Ds : List Nat) (W : World), MarksOK B Ds W → B ≤ W.heap.size →
    (∀ W', Below B W W' → (∀ (k : Nat) (cs : Array Value) (t : TypeId), W.heap[k]? = some (Obj.cells cs t (0, 0)) → W'.heap[k]? = some (Obj.cells cs t (0, 0))) → LeavesIn F n P fn tmps R [] .returning W') →
    LeavesInM F n P fn tmps R (Ds.map mark) .returning W
  | [], W, hM, hB, hfin => hfin W (Below.refl _ _) (fun _ _ _ h => h)
  | D :: Ds, W, hM, hB, hfin => by
    have hD := hM.2 D (by simp)
    have hb : Below B W (W.putObj D (.deferred none)) := (Below.refl B W).grown (grownBy_putObj' W D _) hB (fun k e => by cases e; exact hD.1)
    refine ⟨by simp, .inl ⟨D, _, rfl, run_takeDeferred hD.2, ?_⟩⟩
    refine leavesM_marks Ds (W.putObj D (.deferred none)) ⟨(List.nodup_cons.1 hM.1).2, fun E hE => ⟨(hM.2 E (by simp [hE])).1, ?_⟩⟩ (Nat.le_trans hB hb.size) ?_
    · have hne : E ≠ D := fun e => by rw [e] at hE; exact (List.nodup_cons.1 hM.1).1 hE
      exact (World.putObj_heap_other hne).trans (hM.2 E (by simp [hE])).2
    · intro W' h1 h2
      refine hfin W' (hb.trans h1) (fun k cs t hk => h2 k cs t ?_)
      have hne : k ≠ D := fun e => by rw [e, hD.2] at hk; cases hk
      exact (World.putObj_heap_other hne).trans hk
theorem search_end {P : List Int → Prop} {P7 R n : Nat} {tt : Int} {bys q : List Int} {vq : Value} {W : World} {Ds : List Nat} {tmps : Array Value}
    (hS : SW w0 U w.heap.size w W G A c l vF fl vA adj w.heap.size (w.heap.size + 1) P7 R n tt bys q vq) (hM : MarksOK w.heap.size Ds W) (ht : tmps.getD 6 undef = .pointer (some ⟨w.heap.size + 1, 0, none⟩)) (hP : P bys) :
    bodyPostM Fence.wide 3 Try.prog Try.f49 (SearchPost w n P) .ret { tmps := tmps, defers := Ds.map mark } (W.setCell ⟨w.heap.size + 1, 0, none⟩ (.slice (some ⟨R, 0, none⟩) n n)) := by
  have e6 : (W.setCell ⟨w.heap.size + 1, 0, none⟩ (.slice (some ⟨R, 0, none⟩) n n)).heap[w.heap.size + 1]? = some (.cells #[.slice (some ⟨R, 0, none⟩) n n] 23 (0, 0)) := one_setCell hS.h6
  have far : ∀ k, k ≠ w.heap.size + 1 → (W.setCell ⟨w.heap.size + 1, 0, none⟩ (.slice (some ⟨R, 0, none⟩) n n)).heap[k]? = W.heap[k]? := fun k hk => Below.heap_setCell W ⟨w.heap.size + 1, 0, none⟩ _ k hk
  have nR : R ≠ w.heap.size + 1 := fun e => by have := hS.hR; rw [e, hS.h6] at this; simp at this
  have hb : Below w.heap.size w (W.setCell ⟨w.heap.size + 1, 0, none⟩ (.slice (some ⟨R, 0, none⟩) n n)) := hS.hB.setCell (p := ⟨w.heap.size + 1, 0, none⟩) hS.b6 _
  have eR := (far R nR).trans hS.hR
  refine leavesM_marks Ds _ (hM.keep fun D hD hk => (far D (fun e => by rw [e, hS.h6] at hk; cases hk)).trans hk) hb.size ?_
  intro W' h1 h2
  refine ⟨.slice (some ⟨R, 0, none⟩) n n, ?_, R, bys, rfl, h2 _ _ _ eR, hS.hn, hb.trans h1, hS.bR, hP⟩
  have c6 : W'.cell? ⟨w.heap.size + 1, 0, none⟩ = some (.slice (some ⟨R, 0, none⟩) n n) := (blk_cell (h2 _ _ _ e6) 0).trans rfl
  have hr : Try.f49.results = #[.cell 6 23] := rfl
  have hu := Try.underlying23
  have ht' : tmps[6]?.getD undef = .pointer (some ⟨w.heap.size + 1, 0, none⟩) := by simpa using ht
  simp [results, hr, ht', go_sem, c6, hu, loadVar]
set_option maxRecDepth 100000 in
set_option maxHeartbeats 1000000 in
/-- the iterator is made: two boxes -/
theorem usable_in (W : World) (v : Int) (m : Nat) :
    CallsIn Fence.wide m Try.prog 75 #[.pointer (some ⟨G, 0, none⟩), .int .i64 v] W fun e W' => e = .returned (.func (.func 90) #[] #[.pointer (some ⟨W.heap.size, 0, none⟩), .pointer (some ⟨W.heap.size + 1, 0, none⟩)]) ∧
      W' = (W.alloc (.cells #[.pointer (some ⟨G, 0, none⟩)] 76)).alloc (.cells #[.int .i64 v] 3) := by
  refine callsIn_of_wp Try.func75 rfl trivial ?_ rfl
  simp only [Try.ntmps75, List.size_toArray, List.length_cons, List.length_nil, Nat.reduceAdd, Nat.reduceSub, Array.replicate_succ, Array.replicate_zero, List.push_toArray, List.append_toArray, List.nil_append, List.cons_append]
  gi_wp2
  go_ret
  exact ⟨rfl, rfl⟩
/-- what the loop over the iterator may ask of it -/
theorem usable_stops (m n B b1 b2 : Nat) (hm : 1 ≤ m) (hUB : U ≤ B) (W0 : World) (hN : NS w0 U W0 G A c l vF fl vA adj) (hk : Okf l fl) (v : Int) (v0 : 0 ≤ v) (v1 : v < adj.length)
    (he : ∀ r : Int, 0 ≤ r → r < 2 * l.length → 0 ≤ endR l r ∧ endR l r < n) (rs : List Int) (hrs : adj.getD v.toNat [] = rs) (hr : ∀ r ∈ rs, 0 ≤ r ∧ r < 2 * (l.length : Int)) (hUs : U ≤ W0.heap.size)
    (h1 : W0.heap[b1]? = some (.cells #[.pointer (some ⟨G, 0, none⟩)] 76 (0, 0))) (h2 : W0.heap[b2]? = some (.cells #[.int .i64 v] 3 (0, 0))) :
    SeqStopsK Fence.wide m Try.prog 90 #[.pointer (some ⟨b1, 0, none⟩), .pointer (some ⟨b2, 0, none⟩)] (encRE n) (KpS B b1) (fun ys => ys = useL l fl n rs) (fun pre => pre <+: useL l fl n rs) (useL l fl n rs).length W0 := fun l0 J Jx W hW hJ _ hY h0 =>
  usable1_in m n B l0 b1 b2 hm hUB W (hN.below (hW.mono hUs)) hk v v0 v1 he rs hrs hr ((hW.block _ (lt_of_block h1)).trans h1) ((hW.block _ (lt_of_block h2)).trans h2) J Jx hY
    (fun pre W1 k hj => hJ pre W1 _ none hj ⟨rfl, rfl, rfl, Nat.le_refl _, fun _ _ _ => rfl⟩ (fun r e => by cases e)) h0
theorem MarksOK.own {B N : Nat} {Ds : List Nat} {W W' : World} {row : Option Nat} (h : MarksOK B Ds W) (h0 : ∀ D ∈ Ds, D < N) (hg : W.grownBy W' row) (hr : ∀ r, row = some r → N ≤ r) : MarksOK B Ds W' :=
  ⟨h.1, fun D hD => ⟨(h.2 D hD).1, (hg.block D (lt_of_block (h.2 D hD).2) (fun e => by have := hr D e.symm; have := h0 D hD; omega)).trans (h.2 D hD).2⟩⟩
theorem KpS.put {B b1 : Nat} {w W : World} {l : Nat} {o o' : Obj} (hB : B ≤ w.heap.size) (hb : b1 < w.heap.size) (hl : w.heap.size ≤ l) (h : W.heap[l]? = some o) : KpS B b1 W (W.putObj l o') :=
  ⟨(Below.refl B W).grown (grownBy_putObj' W l o') (by have := (Array.getElem?_eq_some_iff.1 h).1; omega) (fun k e => by cases e; omega), fun cs t hk => (World.putObj_heap_other (by omega)).trans hk⟩
theorem scan_len (tt : Int) {n : Nat} : ∀ (es : List (RE n)) (b q b' q' : List Int) (s : Bool), scanU tt b q es = (b', q', s) → q'.length ≤ q.length + es.length
  | [], b, q, b', q', s, h => by simp [scanU] at h; obtain ⟨rfl, rfl, rfl⟩ := h; simp
  | x :: es, b, q, b', q', s, h => by
    by_cases h0 : 0 ≤ rd b x.1.2
    · rw [scan_old _ _ _ _ _ h0] at h; have := scan_len tt es _ _ _ _ _ h; simp; omega
    · by_cases h2 : x.1.2 = tt
      · rw [scan_hit _ _ _ _ _ h0 h2] at h; simp at h; obtain ⟨rfl, rfl, rfl⟩ := h; simp
      · rw [scan_new _ _ _ _ _ h0 h2] at h; have := scan_len tt es _ _ _ _ _ h; simp at this ⊢; omega
theorem useL_len (l : List S61) (fl : List Int) (n : Nat) (rs : List Int) : (useL l fl n rs).length ≤ rs.length := List.length_filterMap_le _ _
theorem info3' : (Try.prog.info? 3).map (fun i => (i.zero, i.size, i.bytes)) = some (some (.int .i64 0), 1, 8) := by kernel_rfl
/-- append to the queue, in a fence -/
theorem QIn_append {F : Fence} {n : Nat} {W : World} {ops : Array Oper} {rest : List Oper} {o : Oper} {a : Act} {Q : Exit → Act → World → Prop}
    (hgd : o.guard = none) (s x : Operand) (hop : o.op = Op.call { callee := Callee.builtin Builtin.append, args := #[s, x], argTypes := #[23, 23] })
    (B : Nat) (v : Value) (xs : List Int) (p : Int) (ok : Nat → Prop) (hs : a.eval s = v) (hx : a.eval x = .slice (some ⟨W.heap.size, 0, none⟩) 1 1) (hfresh : ∀ k, W.heap.size ≤ k → ok k)
    (HO : Kd.Q (Kd.int .i64) 3 W B ok v xs) (hbase : B ≤ W.heap.size) (hl : (xs.length + 1) * 8 ≤ 140737488355328)
    (hK : ∀ v1 w1, Kd.Q (Kd.int .i64) 3 w1 B ok v1 (xs ++ [p]) → W.grownBy w1 v.ownBlock → wpListIn F n Try.prog ops Q rest (a.put o.dst v1) w1) :
    wpListIn F n Try.prog ops Q (o :: rest) a (W.alloc (.cells #[.int .i64 p] 3)) := by
  obtain ⟨v1, w1, hrun, h1, -, h3, -⟩ := Kd.Q_run (P := Try.prog) (Kd.int .i64) (w0 := W) B 23 o.type 3 (.int .i64 0) 8 Try.underlying23 info3' rfl (by decide) (by decide) v xs p [.int .i64 p] ok (fun _ => False) rfl (fun _ h => h.elim) hfresh HO (Below.refl _ _) hbase hl
  refine wpListIn_plain hgd fun K hK' => ?_
  unfold Oper.wpIn
  refine ⟨?_, ?_⟩
  · simp [Oper.about, hop, resolve, Target.leads, Sem.run_pure]
  · rw [Oper.semAt_plain F _ _ (by rw [hop]; intro c hc'; cases hc')]
    simp [execOp, hop, resolve, invoke, builtin, hs, hx, hrun, Result.andThen]
    exact hK' _ _ (hK v1 w1 h1 h3)
end
end Go.Proofs.Ytadeidhefjifaaa.Px
