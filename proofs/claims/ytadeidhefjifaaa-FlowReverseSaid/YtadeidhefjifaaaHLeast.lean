/- The closure of flow.Max that finds the least capacity along a path. -/
import Derived.Test.YtadeidhefjifaaaHNet
set_option linter.unusedVariables false
set_option linter.unusedSimpArgs false
namespace Go.Proofs.Ytadeidhefjifaaa.Px
open Go.RowKit Go.Proofs.YtadeidhefjifaaaW.PrintWords Go.Proofs.YtadeidhefjifaaaW.PrintLast Go.Proofs.YtadeidhefjifaaaW.PrintMore
attribute [local go_sem] max2_int min2_int max_two min_two
/-- flows lie between 0 and the capacities, these at most 2^30 -/
def Okf (l : List S61) (fl : List Int) : Prop := ∀ i : Int, 0 ≤ i → i < l.length → (0 ≤ rd fl i ∧ rd fl i ≤ 1073741824) ∧ (0 ≤ (rd_T61 l i).f2 ∧ (rd_T61 l i).f2 ≤ 1073741824)
theorem Okf.cap {l : List S61} {fl : List Int} (h : Okf l fl) (r : Int) (h0 : 0 ≤ r) (h1 : r < 2 * l.length) : -1073741824 ≤ capR l fl r ∧ capR l fl r ≤ 1073741824 := by
  have := h (r / 2) (by omega) (by omega)
  unfold capR; split <;> omega
theorem grown_one (w : World) (n L : Nat) (v : Value) : w.grownBy ((w.drewN n).setCell ⟨L, 0, none⟩ v) (some L) :=
  ⟨rfl, rfl, rfl, by simp, fun k hk hne => Below.heap_setCell (w.drewN n) ⟨L, 0, none⟩ v k (fun e => hne (by rw [e]))⟩
section
variable {w0 : World} {U : Nat} {w : World} {G : Nat} {A : Option Addr} {c : Nat} {l : List S61} {vF : Value} {fl : List Int} {vA : Value} {adj : List (List Int)}
set_option maxHeartbeats 1000000 in
set_option maxRecDepth 100000 in
theorem least_calls (hN : NS w0 U w G A c l vF fl vA adj) (hk : Okf l fl) (r : Int) (h0 : 0 ≤ r) (h1 : r < 2 * l.length) (L Bw : Nat) (m : Int)
    (hL : w.heap[L]? = some (.cells #[.int .i64 m] 3 (0, 0))) (hw : w.heap[Bw]? = some (.cells #[.pointer (some ⟨G, 0, none⟩)] 76 (0, 0))) :
    Calls Try.prog 52 #[.int .i64 r, .pointer (some ⟨L, 0, none⟩), .pointer (some ⟨Bw, 0, none⟩)] w fun e w' => e = .returned (.tuple #[]) ∧ w'.heap[L]? = some (.cells #[.int .i64 (mn m (capR l fl r))] 3 (0, 0)) ∧ w.grownBy w' (some L) := by
  have k := hk (r / 2) (by omega) (by omega)
  have c0 : w.cell? ⟨L, 0, none⟩ = some (.int .i64 m) := (blk_cell hL 0).trans rfl
  have c1 : w.cell? ⟨Bw, 0, none⟩ = some (.pointer (some ⟨G, 0, none⟩)) := (blk_cell hw 0).trans rfl
  have z0 := blk_frozen hL 0
  have HL := Aside0.mk hL
  clear hL hw
  go_enter Try.func52, Try.ntmps52
  go_wp2_with fail
  go_region_with (go_at_call 53; refine (cap_calls (hN.below ?_) r h0 h1 k.1.1 k.1.2 k.2.1 k.2.2).mono ?_; rotate_left 1; rintro e w1 ⟨rfl, ⟨⟨nn, rfl⟩⟩⟩; rotate_left 1; (first | exact Below.refl _ _ | exact pw_below_drewN (Below.refl _ _) _); skip)
  all_goals go_wp2
  all_goals go_end0
  all_goals (refine ⟨rfl, ?_, grown_one _ _ _ _⟩; rw [one_setCell (w := w.drewN _) HL.out]; unfold mn; first | (rw [if_pos (by assumption)]; done) | rw [if_neg (by omega)])
end
end Go.Proofs.Ytadeidhefjifaaa.Px
