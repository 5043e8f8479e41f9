/- A round of Max in memory: the least room along the path, and the flow along it. -/
import Derived.Test.YtadeidhefjifaaaHMaxP
set_option linter.unusedVariables false
set_option linter.unusedSimpArgs false
namespace Go.Proofs.Ytadeidhefjifaaa.Px
open Go.RowKit Go.Shelf Go.Proofs.YtadeidhefjifaaaW.PrintWords Go.Proofs.YtadeidhefjifaaaW.PrintLast Go.Proofs.YtadeidhefjifaaaW.PrintMore
/-- what a round of Max holds in memory -/
structure JB (w0 : World) (U : Nat) (W : World) (G : Nat) (A : Option Addr) (c : Nat) (l : List S61) (vF : Value) (fl : List Int) (vA : Value) (adj : List (List Int)) (b13 L R n : Nat) (bys : List Int) (m : Int) : Prop where
  net : NS w0 U W G A c l vF fl vA adj
  h12 : W.heap[U]? = some (.cells #[.pointer (some ⟨G, 0, none⟩)] 76 (0, 0))
  h13 : W.heap[b13]? = some (.cells #[.slice (some ⟨R, 0, none⟩) n n] 23 (0, 0))
  hL : W.heap[L]? = some (.cells #[.int .i64 m] 3 (0, 0))
  hR : W.heap[R]? = some (.cells (bys.map (Value.int .i64)).toArray 3 (0, 0))
  hlen : bys.length = n
  u13 : U ≤ b13
  uL : U ≤ L
  uR : U ≤ R
  ne : R ≠ L
section
variable {w0 : World} {U : Nat} {W W' : World} {G : Nat} {A : Option Addr} {c : Nat} {l : List S61} {vF : Value} {fl : List Int} {vA : Value} {adj : List (List Int)} {b13 L R n : Nat} {bys : List Int} {m : Int}
theorem blk_C {xs : List Int} (hR : W.heap[R]? = some (.cells (xs.map (Value.int .i64)).toArray 3 (0, 0))) (hn : xs.length ≤ maxLen) : Kd.C (Kd.int .i64) W (some ⟨R, 0, none⟩) xs.length xs :=
  (Kd.R_reads' (Kd.R_of_own (base := 0) (ok := fun _ => True) (v := .slice (some ⟨R, 0, none⟩) xs.length xs.length) (xs := xs) ⟨by simp [encs], .inr ⟨R, xs.length, _, rfl, by omega, hR, Nat.le_refl _, hn, by simp, by simp [encs, List.take_of_length_le]⟩⟩ (fun _ _ => True.intro))).2.2
theorem JB.draw (h : JB w0 U W G A c l vF fl vA adj b13 L R n bys m) (k : Nat) : JB w0 U (W.drewN k) G A c l vF fl vA adj b13 L R n bys m :=
  { h with net := h.net.below (pw_below_drewN (Below.refl _ _) k) }
theorem JB.size (h : JB w0 U W G A c l vF fl vA adj b13 L R n bys m) : U ≤ W.heap.size := Nat.le_of_lt (lt_of_block h.h12)
theorem JB.least (h : JB w0 U W G A c l vF fl vA adj b13 L R n bys m) (hg : W.grownBy W' (some L)) (m' : Int) (hL : W'.heap[L]? = some (.cells #[.int .i64 m'] 3 (0, 0))) : JB w0 U W' G A c l vF fl vA adj b13 L R n bys m' := by
  have n1 : U ≠ L := fun e => by have := h.h12; rw [e, h.hL] at this; simp at this
  have n2 : b13 ≠ L := fun e => by have := h.h13; rw [e, h.hL] at this; simp at this
  exact { h with
    net := h.net.below ((Below.refl _ _).grown hg h.size (fun k e => by cases e; exact h.uL))
    h12 := (hg.block _ (lt_of_block h.h12) (fun e => n1 (by simpa using e))).trans h.h12
    h13 := (hg.block _ (lt_of_block h.h13) (fun e => n2 (by simpa using e))).trans h.h13
    hL := hL
    hR := (hg.block _ (lt_of_block h.hR) (fun e => h.ne (by simpa using e))).trans h.hR }
theorem JB.push (h : JB w0 U W G A c l vF fl vA adj b13 L R n bys m) (hg : W.grownBy W' vF.ownBlock) {fl' : List Int} (hN : NS w0 U W' G A c l vF fl' vA adj) : JB w0 U W' G A c l vF fl' vA adj b13 L R n bys m := by
  have far : ∀ (k : Nat) (o : Obj), W.heap[k]? = some o → U ≤ k → W'.heap[k]? = some o := fun k o hk hu => (hg.block k (lt_of_block hk) (fun e => by have := (h.net.hF.1 k e.symm).2; omega)).trans hk
  exact { h with
    net := hN
    h12 := far _ _ h.h12 (Nat.le_refl _)
    h13 := far _ _ h.h13 h.u13
    hL := far _ _ h.hL h.uL
    hR := far _ _ h.hR h.uR }
/-- what along asks of the memory -/
theorem JB.asks (h : JB w0 U W G A c l vF fl vA adj b13 L R n bys m) (hn : n ≤ 4096) {bt bf : Nat} {tt frm : Int} (ht : w0.heap[bt]? = some (.cells #[.int .i64 tt] 3 (0, 0))) (hf : w0.heap[bf]? = some (.cells #[.int .i64 frm] 3 (0, 0))) :
    (∃ fl, NS w0 U W G A c l vF fl vA adj) ∧ W.cell? ⟨bt, 0, none⟩ = some (.int .i64 tt) ∧ W.cell? ⟨bf, 0, none⟩ = some (.int .i64 frm) ∧ W.cell? ⟨U, 0, none⟩ = some (.pointer (some ⟨G, 0, none⟩)) ∧ W.cell? ⟨b13, 0, none⟩ = some (.slice (some ⟨R, 0, none⟩) bys.length n) ∧ Kd.C (Kd.int .i64) W (some ⟨R, 0, none⟩) bys.length bys :=
  ⟨⟨fl, h.net⟩, (blk_cell ((h.net.hW.block _ (lt_of_block ht)).trans ht) 0).trans rfl, (blk_cell ((h.net.hW.block _ (lt_of_block hf)).trans hf) 0).trans rfl, (blk_cell h.h12 0).trans rfl, by rw [h.hlen]; exact (blk_cell h.h13 0).trans rfl, blk_C h.hR (by rw [h.hlen]; unfold maxLen; omega)⟩
end
section
variable {w0 : World} {U : Nat} {W : World} {G : Nat} {A : Option Addr} {c : Nat} {l : List S61} {vF : Value} {fl : List Int} {vA : Value} {adj : List (List Int)} {b13 L R n : Nat} {bys : List Int} {p : List Int} {tt frm : Int} {bt bf : Nat}
/-- the first walk along the path -/
theorem walk_least (hg : GoodL n l) (hf0 : FlowG n l frm tt fl) (hn : n ≤ 4096) (ht : w0.heap[bt]? = some (.cells #[.int .i64 tt] 3 (0, 0))) (hf : w0.heap[bf]? = some (.cells #[.int .i64 frm] 3 (0, 0))) (hp : GP n l fl bys frm tt p)
    (h : JB w0 U W G A c l vF fl vA adj b13 L R n bys 1073741824) :
    Calls Try.prog 50 #[.func (.func 52) #[] #[.pointer (some ⟨L, 0, none⟩), .pointer (some ⟨U, 0, none⟩)], .pointer (some ⟨bt, 0, none⟩), .pointer (some ⟨bf, 0, none⟩), .pointer (some ⟨U, 0, none⟩), .pointer (some ⟨b13, 0, none⟩)] W fun e w' =>
      e = .returned (.tuple #[]) ∧ JB w0 U w' G A c l vF fl vA adj b13 L R n bys (leastP l fl p) := by
  refine (along52 w0 U G A c l vF vA adj bt bf U b13 L U tt frm (some ⟨R, 0, none⟩) n bys p (fun pre w' => JB w0 U w' G A c l vF fl vA adj b13 L R n bys (leastP l fl pre))
    (fun pre w' h => h.asks hn ht hf) (fun pre w' k h => h.draw k) ?_ (hp.path h.hlen) W h).mono fun e w' h => h
  intro pre r rest w1 h1 hpe r0 r1
  refine (least_calls h1.net (flow_okf hg hf0) r r0 r1 L U (leastP l fl pre) h1.hL h1.h12).mono ?_
  rintro e w2 ⟨rfl, hL, hgr⟩
  refine ⟨rfl, h1.least hgr _ ?_⟩
  rw [hL]; simp [leastP]
/-- the second -/
theorem walk_push (hg : GoodL n l) (hf0 : FlowG n l frm tt fl) (hn : n ≤ 4096) (ht : w0.heap[bt]? = some (.cells #[.int .i64 tt] 3 (0, 0))) (hf : w0.heap[bf]? = some (.cells #[.int .i64 frm] 3 (0, 0))) (hp : GP n l fl bys frm tt p)
    (h : JB w0 U W G A c l vF fl vA adj b13 L R n bys (leastP l fl p)) :
    Calls Try.prog 50 #[.func (.func 54) #[] #[.pointer (some ⟨U, 0, none⟩), .pointer (some ⟨L, 0, none⟩)], .pointer (some ⟨bt, 0, none⟩), .pointer (some ⟨bf, 0, none⟩), .pointer (some ⟨U, 0, none⟩), .pointer (some ⟨b13, 0, none⟩)] W fun e w' =>
      e = .returned (.tuple #[]) ∧ JB w0 U w' G A c l vF (aug fl p (leastP l fl p)) vA adj b13 L R n bys (leastP l fl p) := by
  obtain ⟨m1, m2, m3⟩ := leastP_ok hp
  have hb := (bd_iff l fl).1 hf0.bnd
  refine (along54 w0 U G A c l vF vA adj bt bf U b13 U L tt frm (some ⟨R, 0, none⟩) n bys p (fun pre w' => JB w0 U w' G A c l vF (aug fl pre (leastP l fl p)) vA adj b13 L R n bys (leastP l fl p))
    (fun pre w' h => h.asks hn ht hf) (fun pre w' k h => h.draw k) ?_ (hp.path h.hlen) W h).mono fun e w' h => h
  intro pre r rest w1 h1 hpe r0 r1
  have hpre : ∀ s ∈ pre, 0 ≤ s ∧ s < 2 * l.length ∧ leastP l fl p ≤ capR l fl s := fun s hs => by
    have hs : s ∈ p := by rw [hpe]; simp [hs]
    exact ⟨(hp.mem s hs).1, (hp.mem s hs).2.1, m3 s hs⟩
  have hnd : (pre.map (· / 2)).Nodup := by
    have := hp.nodup
    rw [hpe, List.map_append] at this
    exact (List.nodup_append.1 this).1
  have hbd := (bd_aug (by omega) pre fl hb hpre hnd).2 (r / 2) (by omega) (by omega)
  have hcap := (hg _ (rdT_mem l (r / 2) (by omega) (by omega))).2.2.2.2
  refine (pushes_calls h1.net r (leastP l fl p) r0 r1 hbd.1 (by omega) (by omega) m2 L U h1.hL h1.h12).mono ?_
  rintro e w2 ⟨rfl, hN, hgr⟩
  refine ⟨rfl, h1.push hgr ?_⟩
  rw [aug_append]; exact hN
end
end Go.Proofs.Ytadeidhefjifaaa.Px
