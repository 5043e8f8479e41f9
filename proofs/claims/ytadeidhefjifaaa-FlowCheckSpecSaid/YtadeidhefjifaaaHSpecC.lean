/- The reference's value, and the capacity of a cut. -/
import Derived.Test.YtadeidhefjifaaaHSpecB
set_option linter.unusedVariables false
set_option linter.unusedSimpArgs false
namespace Go.Proofs.Ytadeidhefjifaaa.Px
open Go.RowKit Go.Shelf Go.Proofs.YtadeidhefjifaaaW.PrintWords Go.Proofs.YtadeidhefjifaaaW.PrintLast Go.Proofs.YtadeidhefjifaaaW.PrintMore
theorem ref_val_l1 (n s t : Int) (l : List S61) (fl : List Int) (h : Good n l s t) (hb : BndG l fl) : ∀ (g : Nat) (i : Int), 0 ≤ i → i ≤ n → (n - i).toNat ≤ g →
    Ev (fun k => sizarref18_Value.l1 k n l s t fl i) (finV n s t (outsG l fl) i) := by
  have n4 := h.n4
  have hc : ∀ x ∈ l, x.f2 ≤ 1073741824 := fun x hx => (h.ends x hx).2.2.2.2
  intro g
  induction g with
  | zero =>
    intro i i0 i1 hg
    refine Ev.step ?_ (fun k => by rw [sizarref18_Value.l1])
    refine Ev.neg (by omega) (Ev.bind (ref_out l fl s h.m hc hb) ((Ev.of _).eq ?_))
    rw [finV_end (by omega)]
  | succ g ih =>
    intro i i0 i1 hg
    refine Ev.step ?_ (fun k => by rw [sizarref18_Value.l1])
    by_cases hlt : i < n
    · refine Ev.pos hlt ?_
      have hj : ∀ b : Bool, (b = false → i = s ∨ i = t ∨ outsG l fl i = 0) → (b = true → i ≠ s ∧ i ≠ t ∧ outsG l fl i ≠ 0) → Ev (fun k => sizarref18_Value.j3 k n l s t fl i b) (finV n s t (outsG l fl) i) := by
        intro b h1 h2
        refine Ev.step ?_ (fun k => by rw [sizarref18_Value.j3])
        cases b with
        | true => exact Ev.pos rfl ((Ev.of _).eq (finV_bad hlt (h2 rfl).1 (h2 rfl).2.1 (h2 rfl).2.2).symm)
        | false =>
          refine Ev.neg (by decide) ?_
          rw [wrap_id (i + 1) (by omega) (by omega), finV_step (h1 rfl)]
          exact ih (i + 1) (by omega) (by omega) (by omega)
      by_cases hs : i = s
      · exact Ev.pos hs (hj false (fun _ => .inl hs) (fun h => by cases h))
      · refine Ev.neg hs ?_
        by_cases ht : i = t
        · exact Ev.pos ht (hj false (fun _ => .inr (.inl ht)) (fun h => by cases h))
        · exact Ev.neg ht (Ev.bind (ref_out l fl i h.m hc hb) (hj _ (fun h => .inr (.inr (by simpa using h))) (fun h => ⟨hs, ht, by simpa using h⟩)))
    · refine Ev.neg hlt (Ev.bind (ref_out l fl s h.m hc hb) ((Ev.of _).eq ?_))
      rw [finV_end (by omega)]
theorem ref_val_l0 (n s t : Int) (l : List S61) (fl : List Int) (h : Good n l s t) (hl : fl.length = l.length) : ∀ (g : Nat) (i : Int), 0 ≤ i → i ≤ l.length → (l.length - i).toNat ≤ g →
    (∀ j : Int, 0 ≤ j → j < i → 0 ≤ rd fl j ∧ rd fl j ≤ (rd_T61 l j).f2) →
    Ev (fun k => sizarref18_Value.l0 k n l s t fl i) (valV n l s t fl) := by
  have hm := h.m
  have n2 := h.n2
  have hend : ∀ (i : Int), 0 ≤ i → ¬ i < l.length → (∀ j : Int, 0 ≤ j → j < i → 0 ≤ rd fl j ∧ rd fl j ≤ (rd_T61 l j).f2) → Ev (fun k => sizarref18_Value.l0 k n l s t fl i) (valV n l s t fl) := by
    intro i i0 hlt hpre
    have hb : BndG l fl := (bd_iff l fl).2 ⟨hl, fun j j0 j1 => hpre j j0 (by omega)⟩
    refine Ev.step ?_ (fun k => by rw [sizarref18_Value.l0])
    refine Ev.neg hlt ?_
    rw [← fin_val h hb]
    exact ref_val_l1 n s t l fl h hb _ 0 (by omega) (by omega) (Nat.le_refl _)
  intro g
  induction g with
  | zero => intro i i0 i1 hg hpre; exact hend i i0 (by omega) hpre
  | succ g ih =>
    intro i i0 i1 hg hpre
    by_cases hlt : i < l.length
    · refine Ev.step ?_ (fun k => by rw [sizarref18_Value.l0])
      refine Ev.pos hlt (Ev.pos i0 (Ev.pos (by omega) ?_))
      by_cases h1 : rd fl i < 0
      · exact Ev.pos h1 ((Ev.of _).eq (val_neg (fun hf => by have := ((bd_iff l fl).1 hf.2.bnd).2 i i0 hlt; omega)).symm)
      · refine Ev.neg h1 ?_
        by_cases h2 : rd fl i > (rd_T61 l i).f2
        · exact Ev.pos h2 ((Ev.of _).eq (val_neg (fun hf => by have := ((bd_iff l fl).1 hf.2.bnd).2 i i0 hlt; omega)).symm)
        · refine Ev.neg h2 ?_
          rw [wrap_id (i + 1) (by omega) (by omega)]
          refine ih (i + 1) (by omega) (by omega) (by omega) (fun j j0 j1 => ?_)
          by_cases e : j = i
          · subst e; omega
          · exact hpre j j0 (by omega)
    · exact hend i i0 hlt hpre
open Classical in
theorem ref_val (n s t : Int) (l : List S61) (fl : List Int) : Ev (fun k => sizarref18_Value.f k n l s t fl) (valV n l s t fl) := by
  unfold sizarref18_Value.f
  refine Ev.bind (ref_ends n l s t) ?_
  by_cases h : Good n l s t
  · refine Ev.pos (decide_eq_true h) ?_
    refine Ev.step ?_ (fun k => by rw [sizarref18_Value.j0])
    by_cases hl : fl.length = l.length
    · refine Ev.neg (by simp [hl]) ?_
      exact ref_val_l0 n s t l fl h hl _ 0 (by omega) (by omega) (Nat.le_refl _) (fun j j0 j1 => by omega)
    · exact Ev.pos (by simp; omega) ((Ev.of _).eq (val_neg (fun hf => hl hf.2.bnd.length)).symm)
  · refine Ev.neg (by simp [h]) ?_
    refine Ev.step ?_ (fun k => by rw [sizarref18_Value.j0])
    exact Ev.pos rfl ((Ev.of _).eq (val_neg (fun hf => h hf.1)).symm)
/-! the capacity of a cut -/
theorem cof_rd (c : List Bool) (v : Int) : rdOf false c v = Cof c v := rfl
abbrev capG (c : List Bool) (l : List S61) : Int := FlowM.cap S61.f0 S61.f1 S61.f2 (Cof c) l
theorem flow_cap_l0 (n : Int) (l : List S61) (c : List Bool) (hg : GoodL n l) (hm : l.length ≤ 65536) (hn : (c.length : Int) = n) : ∀ (g : Nat) (i acc : Int), 0 ≤ i → i ≤ l.length → (l.length - i).toNat ≤ g → 0 ≤ acc → acc ≤ 1073741824 * i →
    Ev (fun k => flow_Capacity.l0 k c acc l (l.length : Int) i) (acc + capG c (l.drop i.toNat), 0) := by
  have hend : ∀ (i acc : Int), 0 ≤ i → ¬ i < l.length → Ev (fun k => flow_Capacity.l0 k c acc l (l.length : Int) i) (acc + capG c (l.drop i.toNat), 0) := by
    intro i acc i0 hlt
    rw [List.drop_eq_nil_of_le (by omega)]
    refine Ev.step ?_ (fun k => by rw [flow_Capacity.l0])
    exact Ev.neg hlt ((Ev.of _).eq (by simp [capG, FlowM.cap]))
  intro g
  induction g with
  | zero => intro i acc i0 i1 hg' ha hb; exact hend i acc i0 (by omega)
  | succ g ih =>
    intro i acc i0 i1 hg' ha hb
    by_cases hlt : i < l.length
    · have hx := hg _ (rdT_mem l i i0 hlt)
      rw [drop_cons i0 hlt]
      refine Ev.step ?_ (fun k => by rw [flow_Capacity.l0])
      refine Ev.pos hlt (Ev.pos i0 (Ev.pos hlt (Ev.pos hx.1.1 (Ev.pos (by omega) ?_))))
      rw [wrap_id (i + 1) (by omega) (by omega)]
      by_cases h0 : Cof c (rd_T61 l i).f0 = true
      · refine Ev.pos h0 (Ev.pos hx.2.1.1 (Ev.pos (by omega) ?_))
        by_cases h1 : Cof c (rd_T61 l i).f1 = true
        · refine Ev.pos h1 ((ih (i + 1) acc (by omega) (by omega) (by omega) ha (by omega)).eq ?_)
          simp only [capG, FlowM.cap]; rw [if_neg (by simp [h1])]; simp
        · refine Ev.neg h1 ?_
          rw [wrap_id (acc + (rd_T61 l i).f2) (by omega) (by omega)]
          refine (ih (i + 1) _ (by omega) (by omega) (by omega) (by omega) (by omega)).eq ?_
          simp only [capG, FlowM.cap]; rw [if_pos ⟨h0, by simpa using h1⟩]; congr 1; omega
      · refine Ev.neg h0 ((ih (i + 1) acc (by omega) (by omega) (by omega) ha (by omega)).eq ?_)
        simp only [capG, FlowM.cap]; rw [if_neg (fun h => h0 h.1)]; simp
    · exact hend i acc i0 hlt
theorem ref_cap_l0 (n : Int) (l : List S61) (c : List Bool) (hg : GoodL n l) (hm : l.length ≤ 65536) (hn : (c.length : Int) = n) : ∀ (g : Nat) (i acc : Int), 0 ≤ i → i ≤ l.length → (l.length - i).toNat ≤ g → 0 ≤ acc → acc ≤ 1073741824 * i →
    Ev (fun k => sizarref18_Capacity.l0 k l c acc i) (acc + capG c (l.drop i.toNat), 0) := by
  have hend : ∀ (i acc : Int), 0 ≤ i → ¬ i < l.length → Ev (fun k => sizarref18_Capacity.l0 k l c acc i) (acc + capG c (l.drop i.toNat), 0) := by
    intro i acc i0 hlt
    rw [List.drop_eq_nil_of_le (by omega)]
    refine Ev.step ?_ (fun k => by rw [sizarref18_Capacity.l0])
    exact Ev.neg hlt ((Ev.of _).eq (by simp [capG, FlowM.cap]))
  intro g
  induction g with
  | zero => intro i acc i0 i1 hg' ha hb; exact hend i acc i0 (by omega)
  | succ g ih =>
    intro i acc i0 i1 hg' ha hb
    by_cases hlt : i < l.length
    · have hx := hg _ (rdT_mem l i i0 hlt)
      rw [drop_cons i0 hlt]
      refine Ev.step ?_ (fun k => by rw [sizarref18_Capacity.l0])
      refine Ev.pos hlt (Ev.pos i0 (Ev.pos hx.1.1 (Ev.pos (by omega) ?_)))
      rw [wrap_id (i + 1) (by omega) (by omega)]
      by_cases h0 : Cof c (rd_T61 l i).f0 = true
      · refine Ev.pos h0 (Ev.pos hx.2.1.1 (Ev.pos (by omega) ?_))
        by_cases h1 : Cof c (rd_T61 l i).f1 = true
        · refine Ev.pos h1 ((ih (i + 1) acc (by omega) (by omega) (by omega) ha (by omega)).eq ?_)
          simp only [capG, FlowM.cap]; rw [if_neg (by simp [h1])]; simp
        · refine Ev.neg h1 ?_
          rw [wrap_id (acc + (rd_T61 l i).f2) (by omega) (by omega)]
          refine (ih (i + 1) _ (by omega) (by omega) (by omega) (by omega) (by omega)).eq ?_
          simp only [capG, FlowM.cap]; rw [if_pos ⟨h0, by simpa using h1⟩]; congr 1; omega
      · refine Ev.neg h0 ((ih (i + 1) acc (by omega) (by omega) (by omega) ha (by omega)).eq ?_)
        simp only [capG, FlowM.cap]; rw [if_neg (fun h => h0 h.1)]; simp
    · exact hend i acc i0 hlt
open Classical in
noncomputable def capV (n : Int) (l : List S61) (s t : Int) (c : List Bool) : Int × Int := if Good n l s t ∧ (c.length : Int) = n ∧ Cof c s = true ∧ Cof c t = false then (capG c l, 0) else (0, 180)
theorem cap_pos {n : Int} {l : List S61} {s t : Int} {c : List Bool} (h : Good n l s t) (hn : (c.length : Int) = n) (hs : Cof c s = true) (ht : Cof c t = false) : capV n l s t c = (capG c l, 0) := if_pos ⟨h, hn, hs, ht⟩
theorem cap_neg {n : Int} {l : List S61} {s t : Int} {c : List Bool} (h : ¬ (Good n l s t ∧ (c.length : Int) = n ∧ Cof c s = true ∧ Cof c t = false)) : capV n l s t c = (0, 180) := if_neg h
open Classical in
theorem flow_cap (n s t : Int) (l : List S61) (c : List Bool) : Ev (fun k => flow_Capacity.f k n l s t c) (capV n l s t c) := by
  unfold flow_Capacity.f
  refine Ev.bind (ev_check n l s t) ?_
  by_cases h : Good n l s t
  · rw [if_pos h]
    refine Ev.pos rfl ?_
    by_cases hn : (c.length : Int) = n
    · have f1 := h.f1
      have t1 := h.t1
      refine Ev.pos hn (Ev.pos h.f0 (Ev.pos (by omega) ?_))
      by_cases hs : Cof c s = true
      · refine Ev.pos hs (Ev.pos h.t0 (Ev.pos (by omega) ?_))
        refine Ev.step ?_ (fun k => by rw [flow_Capacity.j0])
        by_cases ht : Cof c t = true
        · exact Ev.pos ht ((Ev.of _).eq (cap_neg (fun hh => by rw [ht] at hh; cases hh.2.2.2)).symm)
        · refine Ev.neg ht ((flow_cap_l0 n l c h.ends h.m hn _ 0 0 (by omega) (by omega) (Nat.le_refl _) (by omega) (by omega)).eq ?_)
          rw [cap_pos h hn hs (by simpa using ht)]; simp
      · refine Ev.neg hs ?_
        refine Ev.step ?_ (fun k => by rw [flow_Capacity.j0])
        exact Ev.pos rfl ((Ev.of _).eq (cap_neg (fun hh => hs hh.2.2.1)).symm)
    · refine Ev.neg hn ?_
      refine Ev.step ?_ (fun k => by rw [flow_Capacity.j0])
      exact Ev.pos rfl ((Ev.of _).eq (cap_neg (fun hh => hn hh.2.1)).symm)
  · rw [if_neg h]
    exact Ev.neg (by decide) ((Ev.of _).eq (cap_neg (fun hf => h hf.1)).symm)
open Classical in
theorem ref_cap (n s t : Int) (l : List S61) (c : List Bool) : Ev (fun k => sizarref18_Capacity.f k n l s t c) (capV n l s t c) := by
  unfold sizarref18_Capacity.f
  refine Ev.bind (ref_ends n l s t) ?_
  by_cases h : Good n l s t
  · refine Ev.pos (decide_eq_true h) ?_
    by_cases hn : (c.length : Int) = n
    · have f1 := h.f1
      have t1 := h.t1
      refine Ev.pos hn (Ev.pos h.f0 (Ev.pos (by omega) ?_))
      by_cases hs : Cof c s = true
      · refine Ev.pos hs (Ev.pos h.t0 (Ev.pos (by omega) ?_))
        refine Ev.step ?_ (fun k => by rw [sizarref18_Capacity.j0])
        by_cases ht : Cof c t = true
        · exact Ev.pos ht ((Ev.of _).eq (cap_neg (fun hh => by rw [ht] at hh; cases hh.2.2.2)).symm)
        · refine Ev.neg ht ((ref_cap_l0 n l c h.ends h.m hn _ 0 0 (by omega) (by omega) (Nat.le_refl _) (by omega) (by omega)).eq ?_)
          rw [cap_pos h hn hs (by simpa using ht)]; simp
      · refine Ev.neg hs ?_
        refine Ev.step ?_ (fun k => by rw [sizarref18_Capacity.j0])
        exact Ev.pos rfl ((Ev.of _).eq (cap_neg (fun hh => hs hh.2.2.1)).symm)
    · refine Ev.neg hn ?_
      refine Ev.step ?_ (fun k => by rw [sizarref18_Capacity.j0])
      exact Ev.pos rfl ((Ev.of _).eq (cap_neg (fun hh => hn hh.2.1)).symm)
  · refine Ev.neg (by simp [h]) ?_
    refine Ev.step ?_ (fun k => by rw [sizarref18_Capacity.j0])
    exact Ev.pos rfl ((Ev.of _).eq (cap_neg (fun hf => h hf.1)).symm)
end Go.Proofs.Ytadeidhefjifaaa.Px
