/- The network in memory: what its methods read and write. -/
import Derived.Test.YtadeidhefjifaaaHCheck
set_option linter.unusedVariables false
set_option linter.unusedSimpArgs false
namespace Go.Proofs.Ytadeidhefjifaaa.Px
open Go.RowKit Go.Proofs.YtadeidhefjifaaaW.PrintWords Go.Proofs.YtadeidhefjifaaaW.PrintLast Go.Proofs.YtadeidhefjifaaaW.PrintMore

/-- the network in block G, all that it leads to below U: the edges l, the flows fl, the lists adj; w0: the world when Max began -/
structure NS (w0 : World) (U : Nat) (W : World) (G : Nat) (A : Option Addr) (c : Nat) (l : List S61) (vF : Value) (fl : List Int) (vA : Value) (adj : List (List Int)) : Prop where
  hG : W.heap[G]? = some (.cells #[.slice A l.length c, vF, vA] 81 (0, 0))
  hB : w0.heap.size ≤ G
  hU : G < U
  hW : Below w0.heap.size w0 W
  hE0 : Kd.C k61 w0 A l.length l
  hc : l.length ≤ c
  hF : Kd.R (Kd.int .i64) 3 W w0.heap.size (fun k => k ≠ G ∧ k < U) vF fl
  hA : Kd.R (Kd.slice 3 (Kd.int .i64)) 23 W w0.heap.size (fun k => (k ≠ G ∧ k < U) ∧ some k ≠ vF.ownBlock) vA adj
  hl : fl.length = l.length
  hm : l.length ≤ 65536

section
variable {w0 : World} {U : Nat} {W W' : World} {G : Nat} {A : Option Addr} {c : Nat} {l : List S61} {vF : Value} {fl fl' : List Int} {vA : Value} {adj : List (List Int)}
theorem NS.hE (h : NS w0 U W G A c l vF fl vA adj) : Kd.C k61 W A l.length l := Kd.C_below h.hE0 h.hW
theorem NS.lt (h : NS w0 U W G A c l vF fl vA adj) : G < W.heap.size := (Array.getElem?_eq_some_iff.1 h.hG).1
/-- whatever lies below U stays -/
theorem NS.below (h : NS w0 U W G A c l vF fl vA adj) (hb : Below U W W') : NS w0 U W' G A c l vF fl vA adj :=
  { h with
    hG := (hb.block G h.hU).trans h.hG
    hW := h.hW.trans (hb.mono (Nat.le_of_lt (Nat.lt_of_le_of_lt h.hB h.hU)))
    hF := Kd.R_step h.hF (fun k hk _ => hb.block k hk.2)
    hA := Kd.R_step h.hA (fun k hk _ => hb.block k hk.1.2) }
/-- the flows alone have been written -/
theorem NS.flows (h : NS w0 U W G A c l vF fl vA adj) (hg : W.grownBy W' vF.ownBlock) (hF : Kd.R (Kd.int .i64) 3 W' w0.heap.size (fun k => k ≠ G ∧ k < U) vF fl') (hl : fl'.length = fl.length) : NS w0 U W' G A c l vF fl' vA adj :=
  { h with
    hG := (hg.block G h.lt (fun e => (h.hF.1 G e.symm).1 rfl)).trans h.hG
    hW := pw_below_grown h.hW _ h.hW.size hg (fun k hk => Kd.R_base h.hF k hk)
    hF := hF
    hA := Kd.R_grown h.hA hg (fun k hk => hk.2)
    hl := hl.trans h.hl }
end

/-- how much more can flow along a residual edge -/
def capR (l : List S61) (fl : List Int) (r : Int) : Int := if r % 2 = 0 then (rd_T61 l (r / 2)).f2 - rd fl (r / 2) else rd fl (r / 2)
/-- where a residual edge ends -/
def endR (l : List S61) (r : Int) : Int := if r % 2 = 0 then (rd_T61 l (r / 2)).f1 else (rd_T61 l (r / 2)).f0

theorem rd_at {w : World} {A : Option Addr} {n : Nat} {xs : List Int} (h : Kd.C (Kd.int .i64) w A n xs) (i : Int) (h0 : 0 ≤ i) (h1 : i < n) : ∃ ad, A = some ad ∧ w.cell? (ad.add i.toNat) = some (.int .i64 (rd xs i)) := by
  obtain ⟨ad, c, e, _, hK, hc⟩ := Kd.C_get h 0 i h0 h1
  obtain rfl : c = [Value.int .i64 (xs.getD i.toNat 0)] := hK
  have := hc 0 _ rfl
  refine ⟨ad, e, ?_⟩
  rw [show i.toNat * (Kd.int .i64).sz + 0 = i.toNat from by show i.toNat * 1 + 0 = _; omega] at this
  exact this

set_option maxHeartbeats 1000000 in
set_option maxRecDepth 100000 in
theorem end_calls {w0 : World} {U : Nat} {w : World} {G : Nat} {A : Option Addr} {c : Nat} {l : List S61} {vF : Value} {fl : List Int} {vA : Value} {adj : List (List Int)}
    (hN : NS w0 U w G A c l vF fl vA adj) (r : Int) (h0 : 0 ≤ r) (h1 : r < 2 * l.length) :
    Calls Try.prog 51 #[.pointer (some ⟨G, 0, none⟩), .int .i64 r] w fun e w' => e = .returned (.int .i64 (endR l r)) ∧ w = w' := by
  have hu61 := Try.underlying61
  have hu81 := Try.underlying81
  have hm : (l.length : Int) ≤ 65536 := by have := hN.hm; omega
  have hr : r ≤ 131072 := by omega
  have g0 := (blk_cell hN.hG 0).trans (show _ = some _ from rfl)
  have q0 : 0 ≤ r / 2 := by omega
  have q1 : r / 2 < l.length := by omega
  obtain ⟨ad, e, x0, x1, x2⟩ := at_T61 hN.hE (r / 2) q0 q1
  cases e
  have p0 : decide (0 ≤ r / 2) = true := decide_eq_true q0
  have p1 : decide (r / 2 < (l.length : Int)) = true := decide_eq_true q1
  unfold endR
  clear hN
  by_cases hp : r % 2 = 0
  · have b : (r % 2 == 0) = true := beq_iff_eq.mpr hp
    rw [if_pos hp]
    clear hp
    go_enter Try.func51, Try.ntmps51
    go_wp2
    go_ret
    exact ⟨rfl, rfl⟩
  · have b : (r % 2 == 0) = false := beq_eq_false_iff_ne.mpr hp
    rw [if_neg hp]
    clear hp
    go_enter Try.func51, Try.ntmps51
    go_wp2
    go_ret
    exact ⟨rfl, rfl⟩
set_option maxHeartbeats 1000000 in
set_option maxRecDepth 100000 in
theorem cap_calls {w0 : World} {U : Nat} {w : World} {G : Nat} {A : Option Addr} {c : Nat} {l : List S61} {vF : Value} {fl : List Int} {vA : Value} {adj : List (List Int)}
    (hN : NS w0 U w G A c l vF fl vA adj) (r : Int) (h0 : 0 ≤ r) (h1 : r < 2 * l.length)
    (f0 : 0 ≤ rd fl (r / 2)) (f1 : rd fl (r / 2) ≤ 1073741824) (m0 : 0 ≤ (rd_T61 l (r / 2)).f2) (m1 : (rd_T61 l (r / 2)).f2 ≤ 1073741824) :
    Calls Try.prog 53 #[.pointer (some ⟨G, 0, none⟩), .int .i64 r] w fun e w' => e = .returned (.int .i64 (capR l fl r)) ∧ Drawn0 w w' := by
  have hu61 := Try.underlying61
  have hu81 := Try.underlying81
  have hm : (l.length : Int) ≤ 65536 := by have := hN.hm; omega
  have hr : r ≤ 131072 := by omega
  have g0 := (blk_cell hN.hG 0).trans (show _ = some _ from rfl)
  have g1 := (blk_cell hN.hG 1).trans (show _ = some _ from rfl)
  have q0 : 0 ≤ r / 2 := by omega
  have q1 : r / 2 < l.length := by omega
  have q2 : r / 2 < fl.length := by have := hN.hl; omega
  obtain ⟨ad, e, x0, x1, x2⟩ := at_T61 hN.hE (r / 2) q0 q1
  cases e
  obtain ⟨Af, cf, rfl, hcf, hrf⟩ := Kd.R_reads hN.hF
  obtain ⟨af, e, y0⟩ := rd_at hrf (r / 2) q0 q2
  cases e
  have p0 : decide (0 ≤ r / 2) = true := decide_eq_true q0
  have p1 : decide (r / 2 < (l.length : Int)) = true := decide_eq_true q1
  have p2 : decide (r / 2 < (fl.length : Int)) = true := decide_eq_true q2
  unfold capR
  clear hN
  by_cases hp : r % 2 = 0
  · have b : (r % 2 == 0) = true := beq_iff_eq.mpr hp
    rw [if_pos hp]
    clear hp
    go_enter Try.func53, Try.ntmps53
    go_wp2
    go_quiet (fail)
    go_wp2
    go_ret
    exact ⟨rfl, ⟨⟨_, rfl⟩⟩⟩
  · have b : (r % 2 == 0) = false := beq_eq_false_iff_ne.mpr hp
    rw [if_neg hp]
    clear hp
    go_enter Try.func53, Try.ntmps53
    go_wp2
    go_ret
    exact ⟨rfl, Drawn0.refl _⟩
/-- the flows when more flows along a residual edge -/
def pushF (fl : List Int) (r b : Int) : List Int := fl.set (r / 2).toNat (if r % 2 = 1 then rd fl (r / 2) - b else rd fl (r / 2) + b)
set_option maxHeartbeats 1000000 in
set_option maxRecDepth 100000 in
theorem push_calls {w0 : World} {U : Nat} {w : World} {G : Nat} {A : Option Addr} {c : Nat} {l : List S61} {vF : Value} {fl : List Int} {vA : Value} {adj : List (List Int)}
    (hN : NS w0 U w G A c l vF fl vA adj) (r by_ : Int) (h0 : 0 ≤ r) (h1 : r < 2 * l.length) (f0 : 0 ≤ rd fl (r / 2)) (f1 : rd fl (r / 2) ≤ 1073741824) (b0 : 0 ≤ by_) (b1 : by_ ≤ 1073741824) :
    Calls Try.prog 55 #[.pointer (some ⟨G, 0, none⟩), .int .i64 r, .int .i64 by_] w fun e w' => e = .returned (.tuple #[]) ∧ NS w0 U w' G A c l vF (pushF fl r by_) vA adj ∧ w.grownBy w' vF.ownBlock := by
  have hu81 := Try.underlying81
  have hm : (l.length : Int) ≤ 65536 := by have := hN.hm; omega
  have hr : r ≤ 131072 := by omega
  have g1 := (blk_cell hN.hG 1).trans (show _ = some _ from rfl)
  have q0 : 0 ≤ r / 2 := by omega
  have q2 : r / 2 < fl.length := by have := hN.hl; omega
  obtain ⟨F, cf, rfl, hF1, hF2, cells, hFc⟩ := Kd.R_form hN.hF (by omega)
  obtain ⟨y0, y1⟩ := Kd.R_celln 0 hN.hF (r / 2) q0 q2
  have y0' : w.cell? ⟨F, (r / 2).toNat, none⟩ = some (.int .i64 (rd fl (r / 2))) := y0
  have p0 : decide (0 ≤ r / 2) = true := decide_eq_true q0
  have p2 : decide (r / 2 < (fl.length : Int)) = true := decide_eq_true q2
  have HN := Aside0.mk hN
  clear hN y0
  unfold pushF
  by_cases hp : r % 2 = 1
  · have b : (r % 2 == 1) = true := beq_iff_eq.mpr hp
    rw [if_pos hp]
    clear hp
    go_enter Try.func55, Try.ntmps55
    go_wp2
    go_end0
    obtain ⟨z1, z2⟩ := Kd.R_putg HN.out.hF (r / 2) (rd fl (r / 2) - by_)
    rw [show rd fl (r / 2) + -by_ = rd fl (r / 2) - by_ from by omega]
    exact ⟨rfl, HN.out.flows z2 z1 (by simp), z2⟩
  · have b : (r % 2 == 1) = false := beq_eq_false_iff_ne.mpr hp
    rw [if_neg hp]
    clear hp
    go_enter Try.func55, Try.ntmps55
    go_wp2
    go_end0
    obtain ⟨z1, z2⟩ := Kd.R_putg HN.out.hF (r / 2) (rd fl (r / 2) + by_)
    exact ⟨rfl, HN.out.flows z2 z1 (by simp), z2⟩
end Go.Proofs.Ytadeidhefjifaaa.Px
