/- The network that newNetwork has made, as Max keeps it. -/
import Derived.Test.YtadeidhefjifaaaHMaxO
import Derived.Test.YtadeidhefjifaaaHSearch
set_option linter.unusedVariables false
set_option linter.unusedSimpArgs false
namespace Go.Proofs.Ytadeidhefjifaaa.Px
open Go.RowKit Go.Shelf Go.Proofs.YtadeidhefjifaaaW.PrintWords Go.Proofs.YtadeidhefjifaaaW.PrintLast Go.Proofs.YtadeidhefjifaaaW.PrintMore
theorem madeZ (n : Nat) : (madeCells #[Value.int .i64 0] n).toList = List.replicate n (.int .i64 0) := by
  simp only [madeCells, Array.toList_map, Array.toList_range]
  apply List.ext_getElem
  · simp
  · intro i h1 h2; simp [Nat.mod_one]
theorem NS_of_NN {w0 W : World} {G F Ab : Nat} {A : Option Addr} {c : Nat} {l : List S61} {n : Nat} {vals : List Value} {adj : List (List Int)} (h : NN w0 W G F Ab A c l (madeCells #[.int .i64 0] l.length) n vals adj)
    (hE : Kd.C k61 w0 A l.length l) (hc : l.length ≤ c) (hm : l.length ≤ 65536) :
    NS w0 W.heap.size W G A c l (.slice (some ⟨F, 0, none⟩) l.length l.length) (List.replicate l.length 0) (.slice (some ⟨Ab, 0, none⟩) adj.length adj.length) adj := by
  have hlen := h.hlen
  have hO := h.hO
  obtain ⟨hvl, hob⟩ := hO
  have hAb : ∃ cells, W.heap[Ab]? = some (.cells cells 23 (0, 0)) := own_typed h.hO Ab rfl
  obtain ⟨cA, hAb⟩ := hAb
  have gf : F ≠ G := fun e => by have := h.hF; rw [e, h.hG] at this; simp at this
  have ga : Ab ≠ G := fun e => by rw [e, h.hG] at hAb; simp at hAb
  have fa : Ab ≠ F := fun e => by rw [e, h.hF] at hAb; simp at hAb
  exact {
    hG := by rw [hlen]; exact h.hG
    hB := h.bG
    hU := lt_of_block h.hG
    hW := h.hW
    hE0 := hE
    hc := hc
    hF := Kd.R_of_own ⟨by simp [encs], .inr ⟨F, l.length, _, by simp, h.bF, h.hF, by simp, by unfold maxLen; omega, by simp [size_madeCells], by rw [madeZ]; simp [encs]⟩⟩ (fun k hk => by simp [Value.ownBlock] at hk; subst hk; exact ⟨gf, lt_of_block h.hF⟩)
    hA := ⟨fun k hk => by simp [Value.ownBlock] at hk; subst hk; exact ⟨⟨ga, lt_of_block hAb⟩, by simp [Value.ownBlock]; exact fa⟩, vals, by rw [hlen]; exact h.hO, by rw [hvl, hlen]; simp [Kd.slice], fun j p hj => by
      have hjl : j < n := by rw [← hlen]; exact (List.getElem?_eq_some_iff.1 hj).1
      have hr := h.hrow j hjl
      have e1 : adj.getD j [] = p := by simp [List.getD, hj]
      have e2 : (vals.drop (j * 1)).take 1 = [vals.getD j undef] := by
        have : j < vals.length := by omega
        rw [Nat.mul_one, List.drop_eq_getElem_cons this, List.take_succ_cons, List.take_zero]
        simp only [List.getD, List.getElem?_eq_getElem this, Option.getD_some]
      rw [e1] at hr
      refine ⟨vals.getD j undef, e2, Kd.R_mono (Kd.R_bound hr) fun k hk => ?_⟩
      obtain ⟨kF, _, kl, q, hq, cells, hk⟩ := hk
      have hq : q = 3 := by simpa [Kd.int, Kd.scalar] using hq
      subst hq
      refine ⟨⟨⟨fun e => by rw [e, h.hG] at hk; simp at hk, kl⟩, ?_⟩, ?_⟩
      · simp [Value.ownBlock]; exact kF
      · simp [Value.ownBlock]; exact fun e => by rw [e, hAb] at hk; simp at hk⟩
    hl := by simp
    hm := hm }
end Go.Proofs.Ytadeidhefjifaaa.Px
