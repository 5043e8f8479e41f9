/- What the functions of the flow package and of its specification answer: no program in sight. -/
import Derived.Test.YtadeidhefjifaaaHMaxO
import Derived.Test.YtadeidhefjifaaaPx2
import Derived.Test.YtadeidhefjifaaaPx3
import Derived.Test.YtadeidhefjifaaaPx4
import Derived.Test.YtadeidhefjifaaaPx5
import Derived.Test.YtadeidhefjifaaaPx6
set_option linter.unusedVariables false
set_option linter.unusedSimpArgs false
namespace Go.Proofs.Ytadeidhefjifaaa.Px
open Go.RowKit Go.Shelf Go.Proofs.YtadeidhefjifaaaW.PrintWords Go.Proofs.YtadeidhefjifaaaW.PrintLast Go.Proofs.YtadeidhefjifaaaW.PrintMore
/-- from some number of rounds on -/
def Ev {α : Type} (f : Nat → Option α) (r : α) : Prop := ∃ K, ∀ k, K ≤ k → f k = some r
section
variable {α β : Type} {f F A B : Nat → Option α} {r x : α} {y : β} {g : Nat → α → Option β} {c : Prop} [Decidable c]
theorem Ev.of (r : α) : Ev (fun _ => some r) r := ⟨0, fun _ _ => rfl⟩
theorem Ev.step (h : Ev F r) (e : ∀ k, f (k + 1) = F k) : Ev f r := by
  obtain ⟨K, h⟩ := h
  refine ⟨K + 1, fun k hk => ?_⟩
  obtain ⟨j, rfl⟩ : ∃ j, k = j + 1 := ⟨k - 1, by omega⟩
  rw [e]; exact h j (by omega)
theorem Ev.congr (h : Ev F r) (e : ∀ k, f k = F k) : Ev f r := by
  obtain ⟨K, h⟩ := h
  exact ⟨K, fun k hk => by rw [e]; exact h k hk⟩
theorem Ev.bind (h : Ev f x) (k : Ev (fun j => g j x) y) : Ev (fun j => (f j).bind (g j)) y := by
  obtain ⟨K, h⟩ := h
  obtain ⟨L, k⟩ := k
  exact ⟨K + L, fun j hj => by show (f j).bind (g j) = _; rw [h j (by omega)]; exact k j (by omega)⟩
theorem Ev.pos (hc : c) (h : Ev A r) : Ev (fun k => if c then A k else B k) r := h.congr fun k => if_pos hc
theorem Ev.neg (hc : ¬ c) (h : Ev B r) : Ev (fun k => if c then A k else B k) r := h.congr fun k => if_neg hc
theorem Ev.eq {r' : α} (h : Ev f r) (e : r = r') : Ev f r' := e ▸ h
theorem Ev.at (h : Ev f r) : ∃ k, f k = some r := by
  obtain ⟨K, h⟩ := h
  exact ⟨K, h K (Nat.le_refl _)⟩
end
theorem wrap_id (x : Int) (h0 : -9223372036854775808 ≤ x) (h1 : x ≤ 9223372036854775807) : wrap64 x = x := by
  unfold wrap64; omega
theorem drop_cons {l : List S61} {i : Int} (h0 : 0 ≤ i) (h : i < l.length) : l.drop i.toNat = rd_T61 l i :: l.drop (i + 1).toNat := drop_rd l i h0 h
theorem drop_consI {l : List Int} {i : Int} (h0 : 0 ≤ i) (h : i < l.length) : l.drop i.toNat = rd l i :: l.drop (i + 1).toNat := by
  rw [List.drop_eq_getElem_cons (show i.toNat < l.length by omega), show (i + 1).toNat = i.toNat + 1 by omega]
  simp [rd, List.getD, show i.toNat < l.length by omega]
/-! Check -/
theorem badE_dec (n : Int) (x : S61) : badE n x = decide (x.f0 < 0 ∨ x.f0 ≥ n ∨ x.f1 < 0 ∨ x.f1 ≥ n ∨ x.f0 = x.f1 ∨ x.f2 < 0 ∨ x.f2 > 1073741824) := by
  cases h : badE n x with
  | false => have := (badE_iff n x).1 h; symm; exact decide_eq_false (by omega)
  | true =>
    symm; refine decide_eq_true ?_
    by_cases hc : (x.f0 < 0 ∨ x.f0 ≥ n ∨ x.f1 < 0 ∨ x.f1 ≥ n ∨ x.f0 = x.f1 ∨ x.f2 < 0 ∨ x.f2 > 1073741824)
    · exact hc
    · have := (badE_iff n x).2 (by omega)
      rw [this] at h; cases h
theorem ref_check_l0 (n : Int) (l : List S61) (hm : l.length ≤ 65536) : ∀ (g : Nat) (i : Int), 0 ≤ i → i ≤ l.length → (l.length - i).toNat ≤ g → Ev (fun k => sizarref18_Check.l0 k n l i) (if (l.drop i.toNat).any (badE n) = true then 180 else 0) := by
  intro g
  induction g with
  | zero =>
    intro i i0 i1 hg
    rw [List.drop_eq_nil_of_le (by omega)]
    refine Ev.step ?_ (fun k => by rw [sizarref18_Check.l0])
    refine Ev.neg (by omega) ?_
    exact Ev.of _
  | succ g ih =>
    intro i i0 i1 hg
    by_cases hlt : i < l.length
    · rw [drop_cons i0 hlt, List.any_cons]
      refine Ev.step ?_ (fun k => by rw [sizarref18_Check.l0])
      refine Ev.pos hlt (Ev.pos i0 ?_)
      have hj : Ev (fun k => sizarref18_Check.j2 k n l i (badE n (rd_T61 l i))) (if (badE n (rd_T61 l i) || (l.drop (i + 1).toNat).any (badE n)) = true then 180 else 0) := by
        refine Ev.step ?_ (fun k => by rw [sizarref18_Check.j2])
        cases hb : badE n (rd_T61 l i) with
        | true => exact Ev.pos rfl (Ev.of _)
        | false =>
          refine Ev.neg (by decide) ?_
          rw [wrap_id (i + 1) (by omega) (by omega), Bool.false_or]
          exact ih (i + 1) (by omega) (by omega) (by omega)
      refine hj.congr fun k => ?_
      rw [badE_dec]
      by_cases h1 : (rd_T61 l i).f0 < 0
      · rw [if_pos h1, decide_eq_true (by omega)]
      · rw [if_neg h1]
        by_cases h2 : (rd_T61 l i).f0 ≥ n
        · rw [if_pos h2, decide_eq_true (by omega)]
        · rw [if_neg h2]
          by_cases h3 : (rd_T61 l i).f1 < 0
          · rw [if_pos h3, decide_eq_true (by omega)]
          · rw [if_neg h3]
            by_cases h4 : (rd_T61 l i).f1 ≥ n
            · rw [if_pos h4, decide_eq_true (by omega)]
            · rw [if_neg h4]
              by_cases h5 : (rd_T61 l i).f0 = (rd_T61 l i).f1
              · rw [if_pos h5, decide_eq_true (by omega)]
              · rw [if_neg h5]
                by_cases h6 : (rd_T61 l i).f2 < 0
                · rw [if_pos h6, decide_eq_true (by omega)]
                · rw [if_neg h6]
                  congr 1
                  exact decide_eq_decide.2 (by omega)
    · rw [List.drop_eq_nil_of_le (by omega)]
      refine Ev.step ?_ (fun k => by rw [sizarref18_Check.l0])
      exact Ev.neg hlt (Ev.of _)
theorem ref_check (n : Int) (l : List S61) : Ev (fun k => sizarref18_Check.f k n l) (chkV n l) := by
  have hj : Ev (fun k => sizarref18_Check.j0 k n l (decide (n < 2 ∨ 4096 < n ∨ 65536 < (l.length : Int)))) (chkV n l) := by
    unfold chkV
    refine Ev.step ?_ (fun k => by rw [sizarref18_Check.j0])
    by_cases h : n < 2 ∨ 4096 < n ∨ 65536 < (l.length : Int)
    · rw [if_pos h]; exact Ev.pos (decide_eq_true h) (Ev.of _)
    · rw [if_neg h]
      refine Ev.neg (by simp only [decide_eq_true_eq]; exact h) ?_
      exact ref_check_l0 n l (by omega) _ 0 (by omega) (by omega) (Nat.le_refl _)
  refine hj.congr fun k => ?_
  unfold sizarref18_Check.f
  by_cases h1 : n < 2
  · rw [if_pos h1, decide_eq_true (by omega)]
  · rw [if_neg h1]
    by_cases h2 : n > 4096
    · rw [if_pos h2, decide_eq_true (by omega)]
    · rw [if_neg h2]
      congr 1
      exact decide_eq_decide.2 (by omega)
open Classical in
theorem ref_ends (n : Int) (l : List S61) (s t : Int) : Ev (fun k => sizarref18_ends.f k n l s t) (decide (Good n l s t)) := by
  unfold sizarref18_ends.f
  refine Ev.bind (ref_check n l) ?_
  by_cases h0 : chkV n l = 0
  · refine Ev.pos h0 ?_
    by_cases h1 : s ≥ 0
    · refine Ev.pos h1 ?_
      by_cases h2 : s < n
      · refine Ev.pos h2 ?_
        by_cases h3 : t ≥ 0
        · refine Ev.pos h3 ?_
          by_cases h4 : t < n
          · refine Ev.pos h4 ((Ev.of _).eq ?_)
            by_cases h5 : s = t
            · rw [decide_eq_false (fun h => h.ne h5)]; simp [h5]
            · rw [decide_eq_true ((good_iff n l s t).1 ⟨h0, h1, h2, h3, h4, h5⟩)]; simp [h5]
          · exact Ev.neg h4 ((Ev.of _).eq (decide_eq_false (fun h => h4 h.t1)).symm)
        · exact Ev.neg h3 ((Ev.of _).eq (decide_eq_false (fun h => h3 h.t0)).symm)
      · exact Ev.neg h2 ((Ev.of _).eq (decide_eq_false (fun h => h2 h.f1)).symm)
    · exact Ev.neg h1 ((Ev.of _).eq (decide_eq_false (fun h => h1 h.f0)).symm)
  · exact Ev.neg h0 ((Ev.of _).eq (decide_eq_false (fun h => h0 ((good_iff n l s t).2 h).1)).symm)
open Classical in
theorem ev_check (n : Int) (l : List S61) (s t : Int) : Ev (fun k => flow_check.f k n l s t) (if Good n l s t then 0 else 180) := Ev.step (Ev.of _) (fun k => check_good k n l s t)
end Go.Proofs.Ytadeidhefjifaaa.Px
