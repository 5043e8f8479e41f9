/- The arguments of the laws, opened: slices of edges, of whole numbers, of bools. -/
import Derived.Test.YtadeidhefjifaaaPx0
import Derived.Deep.Slices
import Derived.Deep.Fields
import Derived.Deep.Grids
import Derived.ChangeSame
set_option linter.unusedVariables false
set_option linter.unusedSimpArgs false
namespace Go.Proofs.Ytadeidhefjifaaa.Px
open Go.RowKit Go.Deep Go.ChangeShapes Go.WideShapes Go.Proofs.YtadeidhefjifaaaW.PrintWords Go.Proofs.YtadeidhefjifaaaW.PrintLast Go.Proofs.YtadeidhefjifaaaW.PrintMore
section
variable {H : Type} {enc : TypeId × Value → H} {w : World} {base : Nat} {spare : Nat → Bool} {held : Bool}
def numAt (w : World) (a : Addr) : Int := match w.cell? a with
  | some (.int _ n) => n
  | _ => 0
theorem le64 {n : Nat} (h : n ≤ maxLen) : n ≤ 9223372036854775807 := Nat.le_trans h (by decide)
theorem numAt_eq {w : World} {a : Addr} {k : IntKind} {n : Int} (h : w.cell? a = some (.int k n)) : numAt w a = n := by unfold numAt; rw [h]
theorem len_le {fuel : Nat} {a : Option Addr} {len cap : Nat} {t e : TypeId} {x : DataW H × List MemPlace} (ht : Try.prog.underlying t = some (.slice e)) (h : DataW.trod enc Try.prog w base spare held fuel t [.slice a len cap] = some x) : len ≤ cap ∧ len ≤ maxLen := by
  rcases open_slice ht h with ⟨hc, _⟩ | ⟨ad, l, c, m, n, D, Pl, hc, hb, hl, hm, hmm, hx, hi⟩
  · cases hc; exact ⟨Nat.le_refl _, Nat.zero_le _⟩
  · cases hc; exact ⟨hl, Nat.le_trans hl hm⟩
set_option maxRecDepth 100000 in
theorem open_edges {fuel : Nat} {a : Option Addr} {len cap : Nat} {x : DataW H × List MemPlace} (h : DataW.trod enc Try.prog w base spare held fuel 22 [.slice a len cap] = some x) : ∃ l : List S61, l.length = len ∧ Kd.C k61 w a len l := by
  rcases open_slice Try.underlying22 h with ⟨hc, _⟩ | ⟨ad, l, c, m, n, D, Pl, hc, hb, hl, hm, hmm, hx, hi⟩
  · cases hc
    exact ⟨[], rfl, rfl, by omega, fun h => by omega⟩
  · cases hc
    have hlm : len ≤ m := by rw [hmm]; split <;> omega
    have hcell : ∀ i, i < len → ∃ n0 n1 n2 : Int, w.cell? (ad.add (i * 3 + 0)) = some (.int .i64 n0) ∧ w.cell? (ad.add (i * 3 + 1)) = some (.int .i64 n1) ∧ w.cell? (ad.add (i * 3 + 2)) = some (.int .i64 n2) := by
      intro i hil
      obtain ⟨cs', hcs, ht⟩ := hi i (by omega)
      have hC : Try.prog.cellsOf 61 = 3 := by kernel_rfl
      rw [hC] at hcs
      obtain ⟨_, hcl, hat⟩ := World.cells?_some hcs
      obtain ⟨ys, n', hn', hy, hlen, hyl, hf⟩ := DataW.trod_struct Try.underlying61 ht
      match cs', hcl with
      | [c0, c1, c2], _ =>
        have hc3 : Try.prog.cellsOf 3 = 1 := by kernel_rfl
        have g : ∀ (j : Nat) (f : Field) (v : Value), (match j with | 0 => c0 | 1 => c1 | _ => c2) = v → j < 3 → f.type = 3 → f.offset = j → (∃ y, ys[j]? = some y) → DataW.trod enc Try.prog w base spare held n' f.type (([c0, c1, c2].drop f.offset).take (Try.prog.cellsOf f.type)) = ys[j]? → ∃ z : Int, v = .int .i64 z := by
          intro j f v hv hj ht ho hy h
          rw [ht, ho, hc3] at h
          obtain ⟨y, hy⟩ := hy
          rw [hy] at h
          match j, hj with
          | 0, _ => obtain ⟨z, hz, _, _⟩ := DataW.trod_int Try.underlying3 h; exact ⟨z, by rw [← hv]; simpa using hz⟩
          | 1, _ => obtain ⟨z, hz, _, _⟩ := DataW.trod_int Try.underlying3 h; exact ⟨z, by rw [← hv]; simpa using hz⟩
          | 2, _ => obtain ⟨z, hz, _, _⟩ := DataW.trod_int Try.underlying3 h; exact ⟨z, by rw [← hv]; simpa using hz⟩
        have hyl' : ys.length = 3 := hyl
        have hys : ∀ j, j < 3 → ∃ y, ys[j]? = some y := fun j hj => ⟨_, List.getElem?_eq_getElem (by omega)⟩
        obtain ⟨n0, e0⟩ := g 0 _ c0 rfl (by omega) rfl rfl (hys 0 (by omega)) (hf 0 _ rfl)
        obtain ⟨n1, e1⟩ := g 1 _ c1 rfl (by omega) rfl rfl (hys 1 (by omega)) (hf 1 _ rfl)
        obtain ⟨n2, e2⟩ := g 2 _ c2 rfl (by omega) rfl rfl (hys 2 (by omega)) (hf 2 _ rfl)
        subst e0 e1 e2
        refine ⟨n0, n1, n2, ?_, ?_, ?_⟩
        · rw [← Go.Deep.add_add]; exact hat 0 (by omega)
        · rw [← Go.Deep.add_add]; exact hat 1 (by omega)
        · rw [← Go.Deep.add_add]; exact hat 2 (by omega)
    refine ⟨(List.range len).map fun i => ⟨numAt w (ad.add (i * 3 + 0)), numAt w (ad.add (i * 3 + 1)), numAt w (ad.add (i * 3 + 2))⟩, by simp, by simp, le64 (Nat.le_trans hl hm), fun _ => ⟨ad, rfl, fun j p hj => ?_⟩⟩
    obtain ⟨hjl, hp⟩ := List.getElem?_eq_some_iff.1 hj
    have hjl : j < len := by simpa using hjl
    simp only [List.getElem_map, List.getElem_range] at hp
    obtain ⟨n0, n1, n2, h0, h1, h2⟩ := hcell j hjl
    rw [numAt_eq h0, numAt_eq h1, numAt_eq h2] at hp
    subst hp
    refine ⟨_, rfl, k61_mk w _, fun i u hu => ?_⟩
    match i, hu with
    | 0, hu => simp at hu; subst hu; exact h0
    | 1, hu => simp at hu; subst hu; exact h1
    | 2, hu => simp at hu; subst hu; exact h2
theorem open_nums {fuel : Nat} {a : Option Addr} {len cap : Nat} {x : DataW H × List MemPlace} (h : DataW.trod enc Try.prog w base spare held fuel 23 [.slice a len cap] = some x) : ∃ l : List Int, l.length = len ∧ Kd.C (Kd.int .i64) w a len l := by
  rcases open_slice1 Try.underlying23 (by kernel_rfl) h with ⟨hc, _⟩ | ⟨ad, l, c, m, n, V, D, Pl, hc, hb, hl, hm, hmm, hx, hi⟩
  · cases hc
    exact ⟨[], rfl, rfl, by omega, fun h => by omega⟩
  · cases hc
    have hlm : len ≤ m := by rw [hmm]; split <;> omega
    have hcell : ∀ i, i < len → ∃ z : Int, w.cell? (ad.add i) = some (.int .i64 z) := by
      intro i hil
      obtain ⟨h1, h2⟩ := hi i (by omega)
      obtain ⟨z, hz, _, _⟩ := DataW.trod_int Try.underlying3 h2
      exact ⟨z, by rw [h1]; simpa using hz⟩
    refine ⟨(List.range len).map fun i => numAt w (ad.add i), by simp, by simp, le64 (Nat.le_trans hl hm), fun _ => ⟨ad, rfl, fun j p hj => ?_⟩⟩
    obtain ⟨hjl, hp⟩ := List.getElem?_eq_some_iff.1 hj
    have hjl : j < len := by simpa using hjl
    simp only [List.getElem_map, List.getElem_range] at hp
    obtain ⟨z, hz⟩ := hcell j hjl
    rw [numAt_eq hz] at hp
    subst hp
    refine ⟨[.int .i64 z], rfl, rfl, fun i u hu => ?_⟩
    match i, hu with
    | 0, hu => simp at hu; subst hu; show w.cell? (ad.add (j * 1 + 0)) = _; rw [Nat.mul_one, Nat.add_zero]; exact hz
theorem open_flags {fuel : Nat} {a : Option Addr} {len cap : Nat} {x : DataW H × List MemPlace} (h : DataW.trod enc Try.prog w base (fun _ => true) held fuel 24 [.slice a len cap] = some x) : ∃ l : List Bool, l.length = len ∧ Kd.C Kd.bool w a len l := by
  rcases open_bools Try.underlying24 Try.underlying4 (by kernel_rfl) h with ⟨hc, _⟩ | ⟨ad, l, c, B, hc, hb, hl, hm, hx, hi⟩
  · cases hc
    exact ⟨[], rfl, rfl, by omega, fun h => by omega⟩
  · cases hc
    refine ⟨(List.range len).map B, by simp, by simp, le64 (Nat.le_trans hl hm), fun _ => ⟨ad, rfl, fun j p hj => ?_⟩⟩
    obtain ⟨hjl, hp⟩ := List.getElem?_eq_some_iff.1 hj
    have hjl : j < len := by simpa using hjl
    simp only [List.getElem_map, List.getElem_range] at hp
    subst hp
    refine ⟨[.bool (B j)], rfl, rfl, fun i u hu => ?_⟩
    match i, hu with
    | 0, hu => simp at hu; subst hu; show w.cell? (ad.add (j * 1 + 0)) = _; rw [Nat.mul_one, Nat.add_zero]; exact hi j (by omega)
end
end Go.Proofs.Ytadeidhefjifaaa.Px
