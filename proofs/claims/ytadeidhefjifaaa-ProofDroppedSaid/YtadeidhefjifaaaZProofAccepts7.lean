/- Parts of the proof of ProofAccepts, put together from several texts (words that the printing program wrote for this claim, walks, plain facts): the declarations that this law needs. -/
import Derived.Test.YtadeidhefjifaaaZProofAccepts6
import Derived.Recover
import Derived.RecoverIn
import Derived.WalkKit
import Derived.WalkSmall
section
set_option linter.unusedVariables false
set_option linter.unusedSimpArgs false
namespace FlowM
section
variable {α : Type} {fr tu cp : α → Int}
theorem outs_app (v : Int) (l2 : List α) (g2 : List Int) : ∀ (l1 : List α) (g1 : List Int), g1.length = l1.length → outs fr tu (l1 ++ l2) (g1 ++ g2) v = outs fr tu l1 g1 v + outs fr tu l2 g2 v
  | [], [], _ => by simp [outs]
  | x :: l1, f :: g1, h => by
    have := outs_app v l2 g2 l1 g1 (by simpa using h)
    simp only [List.cons_append, outs, this]; omega
  | [], _ :: _, h => by simp at h
  | _ :: _, [], h => by simp at h
theorem cap_app (C : Int → Bool) (l2 : List α) : ∀ (l1 : List α), cap fr tu cp C (l1 ++ l2) = cap fr tu cp C l1 + cap fr tu cp C l2
  | [] => by simp [cap]
  | x :: l1 => by simp only [List.cons_append, cap, cap_app C l2 l1]; omega
theorem bnd_app (l2 : List α) : ∀ (l1 : List α) (g : List Int), Bnd cp (l1 ++ l2) g → ∃ g1 g2, g = g1 ++ g2 ∧ Bnd cp l1 g1 ∧ Bnd cp l2 g2
  | [], g, h => ⟨[], g, rfl, True.intro, h⟩
  | x :: l1, [], h => h.elim
  | x :: l1, f :: g, h => by
    obtain ⟨g1, g2, rfl, h1, h2⟩ := bnd_app l2 l1 g h.2
    exact ⟨f :: g1, g2, rfl, ⟨h.1, h1⟩, h2⟩
theorem outs_off (v : Int) : ∀ (l : List α) (g : List Int), (∀ x ∈ l, fr x ≠ v ∧ tu x ≠ v) → outs fr tu l g v = 0
  | [], _, _ => by simp [outs]
  | _ :: _, [], _ => by simp [outs]
  | x :: l, f :: g, h => by
    have h1 := h x (by simp)
    have := outs_off v l g fun y hy => h y (by simp [hy])
    simp only [outs, this, if_neg h1.1, if_neg h1.2]; omega
end
end FlowM
namespace Go.Proofs.Ytadeidhefjifaaa.Px.L20
open Go.RowKit Go.Proofs.YtadeidhefjifaaaW.PrintWords Go.Proofs.YtadeidhefjifaaaW.PrintLast Go.Proofs.YtadeidhefjifaaaW.PrintMore
theorem snoc_len {g : List Int} {k : Nat} (h : g.length = k + 1) : ∃ g' x, g = g' ++ [x] ∧ g'.length = k := by
  have hne : g ≠ [] := fun e => by subst e; simp at h
  exact ⟨g.dropLast, g.getLast hne, (List.dropLast_concat_getLast hne).symm, by simp [h]⟩
theorem rd_snoc (g : List Int) (x : Int) (i : Nat) : rd (g ++ [x]) (i : Int) = if i < g.length then rd g (i : Int) else if i = g.length then x else 0 := by
  unfold rd
  rw [Int.toNat_natCast, List.getD_eq_getElem?_getD, List.getD_eq_getElem?_getD]
  by_cases h : i < g.length
  · rw [if_pos h, List.getElem?_append_left h]
  · rw [if_neg h]
    by_cases e : i = g.length
    · subst e; rw [if_pos rfl]; simp
    · rw [if_neg e, List.getElem?_eq_none (by simp; omega)]; rfl
theorem src_out (l : List S44) (pu : Int) : ∀ (k : Nat) (g : List Int), g.length = k → (∀ i : Nat, FlowM.outs S61.f0 S61.f1 (srcE l pu k) g (1 + (i : Int)) = -(if i < k then rd g (i : Int) else 0)) ∧ FlowM.outs S61.f0 S61.f1 (srcE l pu k) g 0 = sg (fun i => rd g (i : Int)) k
  | 0, g, h => by
    have e : srcE l pu 0 = [] := rfl
    rw [e]; simp [FlowM.outs, sg]
  | k + 1, g, h => by
    obtain ⟨g', x, rfl, hg⟩ := snoc_len h
    obtain ⟨h1, h2⟩ := src_out l pu k g' hg
    have hl : g'.length = (srcE l pu k).length := by simp [srcE, hg]
    rw [srcE_succ]
    refine ⟨fun i => ?_, ?_⟩
    · rw [FlowM.outs_app _ _ _ _ _ hl, h1 i, rd_snoc, hg]
      simp only [FlowM.outs]
      rw [if_neg (show ¬ (0 : Int) = 1 + (i : Int) by omega)]
      by_cases c1 : i < k
      · rw [if_pos c1, if_neg (show ¬ (1 : Int) + (k : Int) = 1 + (i : Int) by omega), if_pos (show i < k + 1 by omega), if_pos c1]; omega
      · by_cases c2 : i = k
        · subst c2; rw [if_neg c1, if_pos rfl, if_pos (show i < i + 1 by omega), if_neg c1, if_pos rfl]; omega
        · rw [if_neg c1, if_neg (show ¬ (1 : Int) + (k : Int) = 1 + (i : Int) by omega), if_neg (show ¬ i < k + 1 by omega)]; omega
    · rw [FlowM.outs_app _ _ _ _ _ hl, h2]
      simp only [FlowM.outs, sg]
      rw [if_pos trivial, if_neg (show ¬ (1 : Int) + (k : Int) = 0 by omega), rd_snoc, hg, if_neg (Nat.lt_irrefl k), if_pos rfl]
      have : sg (fun i => rd (g' ++ [x]) (i : Int)) k = sg (fun i => rd g' (i : Int)) k := sg_congr fun i hi => by rw [rd_snoc, hg, if_pos hi]
      rw [this]; omega
theorem snk_out (q : List S92) (l : List S44) : ∀ (k : Nat) (g : List Int), k ≤ q.length → g.length = k → ∀ i : Nat, i < q.length → FlowM.outs S61.f0 S61.f1 (snkE q l k) g (1 + (l.length : Int) + (i : Int)) = if i < k then rd g (i : Int) else 0
  | 0, g, _, h, i, hi => by
    have e : snkE q l 0 = [] := rfl
    rw [e]; simp [FlowM.outs]
  | k + 1, g, hk, h, i, hi => by
    obtain ⟨g', x, rfl, hg⟩ := snoc_len h
    have h1 := snk_out q l k g' (by omega) hg i hi
    have hl : g'.length = (snkE q l k).length := by simp [snkE, hg]
    rw [snkE_succ, FlowM.outs_app _ _ _ _ _ hl, h1, rd_snoc, hg]
    simp only [FlowM.outs]
    rw [if_neg (show ¬ (1 + (l.length : Int) + (q.length : Int) = 1 + (l.length : Int) + (i : Int)) by omega)]
    by_cases c1 : i < k
    · rw [if_pos c1, if_neg (by omega), if_pos (by omega), if_pos c1]; omega
    · by_cases c2 : i = k
      · subst c2; rw [if_neg c1, if_pos rfl, if_pos (by omega), if_neg c1, if_pos rfl]; omega
      · rw [if_neg c1, if_neg (by omega), if_neg (by omega)]; omega
theorem src_bnd (l : List S44) (pu : Int) : ∀ (k : Nat) (g : List Int), FlowM.Bnd S61.f2 (srcE l pu k) g → g.length = k ∧ ∀ i : Nat, i < k → 0 ≤ rd g (i : Int) ∧ rd g (i : Int) ≤ wrap64 ((rd_T44 l i).f4 * pu)
  | 0, g, h => by
    cases g with
    | nil => exact ⟨rfl, fun i hi => by omega⟩
    | cons f g => exact h.elim
  | k + 1, g, h => by
    rw [srcE_succ] at h
    obtain ⟨g1, g2, rfl, h1, h2⟩ := FlowM.bnd_app _ _ _ h
    obtain ⟨h3, h4⟩ := src_bnd l pu k g1 h1
    have hg2 := h2.length
    obtain ⟨x, rfl⟩ := List.length_eq_one_iff.1 hg2
    refine ⟨by simp [h3], fun i hi => ?_⟩
    rw [rd_snoc, h3]
    by_cases c1 : i < k
    · rw [if_pos c1]; exact h4 i c1
    · have : i = k := by omega
      subst this
      rw [if_neg c1, if_pos rfl]
      exact h2.1
theorem snk_bnd (q : List S92) (l : List S44) : ∀ (k : Nat) (g : List Int), FlowM.Bnd S61.f2 (snkE q l k) g → g.length = k ∧ ∀ i : Nat, i < k → 0 ≤ rd g (i : Int) ∧ rd g (i : Int) ≤ (rd_T92 q i).f1
  | 0, g, h => by
    cases g with
    | nil => exact ⟨rfl, fun i hi => by omega⟩
    | cons f g => exact h.elim
  | k + 1, g, h => by
    rw [snkE_succ] at h
    obtain ⟨g1, g2, rfl, h1, h2⟩ := FlowM.bnd_app _ _ _ h
    obtain ⟨h3, h4⟩ := snk_bnd q l k g1 h1
    have hg2 := h2.length
    obtain ⟨x, rfl⟩ := List.length_eq_one_iff.1 hg2
    refine ⟨by simp [h3], fun i hi => ?_⟩
    rw [rd_snoc, h3]
    by_cases c1 : i < k
    · rw [if_pos c1]; exact h4 i c1
    · have : i = k := by omega
      subst this
      rw [if_neg c1, if_pos rfl]
      exact h2.1
/-- the pairs with what flows, zeros too -/
def uAll : List (Int × Int) → List Int → List S57
  | p :: ps, f :: fs => ⟨p.1, p.2, f⟩ :: uAll ps fs
  | _, _ => []
/-- the uses that a flow says -/
def usesOf (ps : List (Int × Int)) (fs : List Int) : List S57 := (uAll ps fs).filter fun u => decide (0 < u.f2)
theorem uAll_snoc (p : Int × Int) : ∀ (ps : List (Int × Int)) (fs : List Int), ps.length < fs.length → uAll (ps ++ [p]) fs = uAll ps fs ++ [⟨p.1, p.2, rd fs (ps.length : Int)⟩]
  | [], f :: fs, _ => by simp [uAll, rd]
  | [], [], h => by simp at h
  | _ :: _, [], h => by simp at h
  | x :: ps, f :: fs, h => by
    have := uAll_snoc p ps fs (by simpa using h)
    simp only [List.cons_append, uAll, this]
    congr 4
theorem uAll_app : ∀ (ps : List (Int × Int)) (fs gs : List Int), fs.length = ps.length → uAll ps (fs ++ gs) = uAll ps fs
  | [], [], gs, _ => by cases gs <;> rfl
  | [], _ :: _, _, h => by simp at h
  | _ :: _, [], _, h => by simp at h
  | x :: ps, f :: fs, gs, h => by simp only [List.cons_append, uAll, uAll_app ps fs gs (by simpa using h)]
theorem mid_node (l : List S44) (i : Int) (hi : i < l.length) : ∀ (ps : List (Int × Int)) (g : List Int), (∀ p ∈ ps, 0 ≤ p.2) → FlowM.outs S61.f0 S61.f1 (ps.map (midE l)) g (1 + i) = sb (atA i) (uAll ps g)
  | [], g, _ => by simp [FlowM.outs, uAll, sb]
  | _ :: _, [], _ => by simp [FlowM.outs, uAll, sb]
  | p :: ps, f :: g, h => by
    have ih := mid_node l i hi ps g fun x hx => h x (by simp [hx])
    have h0 := h p (by simp)
    simp only [List.map_cons, FlowM.outs, uAll, sb, ih, midE, atA, decide_eq_true_eq]
    rw [if_neg (show ¬ (1 + (l.length : Int) + p.2 = 1 + i) by omega)]
    by_cases e : p.1 = i
    · rw [if_pos (by omega), if_pos e]; omega
    · rw [if_neg (by omega), if_neg e]; omega
theorem mid_end (l : List S44) (k : Int) : ∀ (ps : List (Int × Int)) (g : List Int), 0 ≤ k → (∀ p ∈ ps, p.1 < l.length) → FlowM.outs S61.f0 S61.f1 (ps.map (midE l)) g (1 + (l.length : Int) + k) = - sb (atR k) (uAll ps g)
  | [], g, _, _ => by simp [FlowM.outs, uAll, sb]
  | _ :: _, [], _, _ => by simp [FlowM.outs, uAll, sb]
  | p :: ps, f :: g, hk, h => by
    have ih := mid_end l k ps g hk fun x hx => h x (by simp [hx])
    have h0 := h p (by simp)
    simp only [List.map_cons, FlowM.outs, uAll, sb, ih, midE, atR, decide_eq_true_eq]
    rw [if_neg (show ¬ (1 + p.1 = 1 + (l.length : Int) + k) by omega)]
    by_cases e : p.2 = k
    · rw [if_pos (by omega), if_pos e]; omega
    · rw [if_neg (by omega), if_neg e]; omega
theorem uAll_mem (l : List S44) : ∀ (ps : List (Int × Int)) (g : List Int), FlowM.Bnd S61.f2 (ps.map (midE l)) g → ∀ u ∈ uAll ps g, (u.f0, u.f1) ∈ ps ∧ 0 ≤ u.f2 ∧ u.f2 ≤ (rd_T44 l u.f0).f4
  | [], g, _, u, hu => by simp [uAll] at hu
  | _ :: _, [], h, _, _ => h.elim
  | p :: ps, f :: g, h, u, hu => by
    simp only [uAll, List.mem_cons] at hu
    rcases hu with rfl | hu
    · exact ⟨by simp, h.1⟩
    · obtain ⟨h1, h2⟩ := uAll_mem l ps g h.2 u hu
      exact ⟨by simp [h1], h2⟩
theorem sb_filter (p : S57 → Bool) : ∀ (us : List S57), (∀ u ∈ us, 0 ≤ u.f2) → sb p (us.filter fun u => decide (0 < u.f2)) = sb p us
  | [], _ => rfl
  | u :: us, h => by
    have ih := sb_filter p us fun x hx => h x (by simp [hx])
    have h0 := h u (by simp)
    by_cases c : 0 < u.f2
    · rw [List.filter_cons_of_pos (by simpa using c)]; simp only [sb, ih]
    · rw [List.filter_cons_of_neg (by simpa using c), ih]
      simp only [sb]
      split <;> omega
def ltP (x y : Int × Int) : Prop := x.1 < y.1 ∨ (x.1 = y.1 ∧ x.2 < y.2)
def ltU (x y : S57) : Prop := x.f0 < y.f0 ∨ (x.f0 = y.f0 ∧ x.f1 < y.f1)
theorem eligTo_mem {q : List S92} {a : S44} {k : Nat} {x : Int} (h : x ∈ eligTo q a k) : 0 ≤ x ∧ x < k := by
  unfold eligTo at h
  simp only [List.mem_flatMap, List.mem_range] at h
  obtain ⟨j, hj, h⟩ := h
  split at h
  · simp only [List.mem_singleton] at h; omega
  · cases h
theorem eligTo_up (q : List S92) (a : S44) : ∀ k, (eligTo q a k).Pairwise (· < ·)
  | 0 => by simp [eligTo]
  | k + 1 => by
    rw [eligTo_succ, List.pairwise_append]
    refine ⟨eligTo_up q a k, by split <;> simp, fun x hx y hy => ?_⟩
    have := eligTo_mem hx
    split at hy
    · simp only [List.mem_singleton] at hy; omega
    · cases hy
theorem prsTo_up (q : List S92) (l : List S44) : ∀ k, (prsTo q l k).Pairwise ltP
  | 0 => by simp [prsTo]
  | k + 1 => by
    rw [prsTo_succ, List.pairwise_append]
    refine ⟨prsTo_up q l k, ?_, fun x hx y hy => ?_⟩
    · rw [List.pairwise_map]
      exact (eligTo_up q _ _).imp fun h => .inr ⟨rfl, h⟩
    · have := prsTo_mem hx
      obtain ⟨z, hz, rfl⟩ := List.mem_map.1 hy
      exact .inl this.2.1
theorem uAll_up : ∀ (ps : List (Int × Int)) (g : List Int), ps.Pairwise ltP → (uAll ps g).Pairwise ltU
  | [], _, _ => by simp [uAll]
  | _ :: _, [], _ => by simp [uAll]
  | p :: ps, f :: g, h => by
    obtain ⟨h1, h2⟩ := List.pairwise_cons.1 h
    refine List.pairwise_cons.2 ⟨fun u hu => ?_, uAll_up ps g h2⟩
    have hm : ∀ (ps : List (Int × Int)) (g : List Int), u ∈ uAll ps g → (u.f0, u.f1) ∈ ps := by
      intro ps
      induction ps with
      | nil => intro g hu; simp [uAll] at hu
      | cons p ps ih => intro g hu; cases g with
        | nil => simp [uAll] at hu
        | cons f g =>
          simp only [uAll, List.mem_cons] at hu
          rcases hu with rfl | hu
          · simp
          · simp [ih g hu]
    exact h1 _ (hm ps g hu)
/-- what is in order is allowed -/
theorem al_mk {pu : Int} {q : List S92} {l : List S44} (G : Gd pu q l) : ∀ (us : List S57) (pr : Option S57) (m1 m2 : Int → Int), (∀ u ∈ us, Use q l u) → us.Pairwise ltU → (∀ v, pr = some v → ∀ u ∈ us, ltU v u) → (∀ a, 0 ≤ m1 a) → (∀ r, 0 ≤ m2 r) →
    (∀ a : Int, 0 ≤ a → a < l.length → m1 a + sb (atA a) us ≤ (rd_T44 l a).f4 * pu) → (∀ r : Int, 0 ≤ r → r < q.length → m2 r + sb (atR r) us ≤ (rd_T92 q r).f1) → alGo q l pu pr m1 m2 us = true
  | [], _, _, _, _, _, _, _, _, _, _ => rfl
  | u :: us, pr, m1, m2, hU, hP, hv, p1, p2, h1, h2 => by
    obtain ⟨q1, q2⟩ := List.pairwise_cons.1 hP
    obtain ⟨a0, a1, b0, b1, c0, c1, hel⟩ := hU u (by simp)
    have hc := cap_bound G a0 a1
    have hq := G.q1 _ (rd_memQ b0 b1)
    have hpos : ∀ p, 0 ≤ sb p us := fun p => sb_nonneg fun x hx => (hU x (by simp [hx])).2.2.2.2.1
    have k1 := h1 u.f0 a0 a1
    have k2 := h2 u.f1 b0 b1
    rw [sb_yes (by simp [atA])] at k1
    rw [sb_yes (by simp [atR])] at k2
    have n1 := hpos (atA u.f0)
    have n2 := hpos (atR u.f1)
    have e1 := p1 u.f0
    have e2 := p2 u.f1
    rw [alGo, wrap_id (m1 u.f0 + u.f2) (by omega) (by omega), wrap_id (m2 u.f1 + u.f2) (by omega) (by omega), wrap_id ((rd_T44 l u.f0).f4 * pu) (by omega) (by omega)]
    have hrec := al_mk G us (some u) (updM m1 u.f0 (m1 u.f0 + u.f2)) (updM m2 u.f1 (m2 u.f1 + u.f2)) (fun x hx => hU x (by simp [hx])) q2 (fun v hv x hx => by cases hv; exact q1 x hx)
      (fun a => by unfold updM; split; · omega
                   exact p1 a) (fun a => by unfold updM; split; · omega
                                            exact p2 a)
      (fun a g0 g1 => by
        have := h1 a g0 g1
        unfold updM
        by_cases e : a = u.f0
        · subst e; rw [if_pos rfl]; omega
        · rw [if_neg e]; rw [sb_no (by simp [atA]; omega)] at this; exact this)
      (fun r g0 g1 => by
        have := h2 r g0 g1
        unfold updM
        by_cases e : r = u.f1
        · subst e; rw [if_pos rfl]; omega
        · rw [if_neg e]; rw [sb_no (by simp [atR]; omega)] at this; exact this)
    simp only [Bool.and_eq_true, decide_eq_true_eq, useIn, useFit]
    refine ⟨⟨⟨⟨a0, a1⟩, b0⟩, b1⟩, ?_, ⟨⟨c0, c1⟩, hel⟩, by omega, by omega, hrec⟩
    cases pr with
    | none => rfl
    | some v =>
      have := hv v rfl u (by simp)
      unfold ltU at this
      simp [useAft]
      omega
theorem src_cap (C : Int → Bool) (l : List S44) (pu : Int) : ∀ k, FlowM.cap S61.f0 S61.f1 S61.f2 C (srcE l pu k) = sg (fun j => if C 0 = true ∧ C (1 + (j : Int)) = false then wrap64 ((rd_T44 l j).f4 * pu) else 0) k
  | 0 => rfl
  | k + 1 => by
    rw [srcE_succ, FlowM.cap_app, src_cap C l pu k]
    simp only [FlowM.cap, sg]; omega
theorem snk_cap (C : Int → Bool) (q : List S92) (l : List S44) : ∀ k, FlowM.cap S61.f0 S61.f1 S61.f2 C (snkE q l k) = sg (fun j => if C (1 + (l.length : Int) + (j : Int)) = true ∧ C (1 + (l.length : Int) + (q.length : Int)) = false then (rd_T92 q j).f1 else 0) k
  | 0 => rfl
  | k + 1 => by
    rw [snkE_succ, FlowM.cap_app, snk_cap C q l k]
    simp only [FlowM.cap, sg]; omega
theorem row_cap (C : Int → Bool) (q : List S92) (l : List S44) (j : Nat) : ∀ m, FlowM.cap S61.f0 S61.f1 S61.f2 C (((eligTo q (rd_T44 l j) m).map fun k => ((j : Int), k)).map (midE l)) = sg (fun k => if (C (1 + (j : Int)) = true ∧ C (1 + (l.length : Int) + (k : Int)) = false) ∧ eligB (rd_T92 q k) (rd_T44 l j) = true then (rd_T44 l j).f4 else 0) m
  | 0 => rfl
  | m + 1 => by
    rw [eligTo_succ, List.map_append, List.map_append, FlowM.cap_app, row_cap C q l j m]
    simp only [sg]
    congr 1
    by_cases e : eligB (rd_T92 q m) (rd_T44 l j) = true
    · rw [if_pos e]
      simp only [List.map_cons, List.map_nil, FlowM.cap, midE]
      by_cases c : C (1 + (j : Int)) = true ∧ C (1 + (l.length : Int) + (m : Int)) = false
      · rw [if_pos c, if_pos ⟨c, e⟩]; omega
      · rw [if_neg c, if_neg (fun h => c h.1)]; rfl
    · rw [if_neg e, if_neg (fun h => e h.2)]; rfl
theorem mid_cap (C : Int → Bool) (q : List S92) (l : List S44) : ∀ k, FlowM.cap S61.f0 S61.f1 S61.f2 C ((prsTo q l k).map (midE l)) = sg (fun j => sg (fun k => if (C (1 + (j : Int)) = true ∧ C (1 + (l.length : Int) + (k : Int)) = false) ∧ eligB (rd_T92 q k) (rd_T44 l j) = true then (rd_T44 l j).f4 else 0) q.length) k
  | 0 => rfl
  | k + 1 => by
    rw [prsTo_succ, List.map_append, FlowM.cap_app, mid_cap C q l k, row_cap]
    rfl
theorem cof_row (c : List Bool) (A j : Nat) (h : j < A) : rdOf false ((c.drop 1).take A) (j : Int) = Cof c (1 + (j : Int)) := by
  unfold rdOf Cof
  rw [List.getD_eq_getElem?_getD, List.getD_eq_getElem?_getD, Int.toNat_natCast, List.getElem?_take_of_lt h, List.getElem?_drop, show (1 + (j : Int)).toNat = 1 + j by omega]
theorem cof_col (c : List Bool) (A k : Nat) : rdOf false (c.drop (1 + A)) (k : Int) = Cof c (1 + (A : Int) + (k : Int)) := by
  unfold rdOf Cof
  rw [List.getD_eq_getElem?_getD, List.getD_eq_getElem?_getD, Int.toNat_natCast, List.getElem?_drop, show (1 + (A : Int) + (k : Int)).toNat = 1 + A + k by omega]
theorem net_cap {pu : Int} {q : List S92} {l : List S44} (G : Gd pu q l) (c : List Bool) (h0 : Cof c 0 = true) (ht : Cof c (1 + (l.length : Int) + (q.length : Int)) = false) :
    FlowM.cap S61.f0 S61.f1 S61.f2 (Cof c) (netE q l pu) = sg (outS q l pu ((c.drop 1).take l.length) (c.drop (1 + l.length))) l.length + sg (finS q (c.drop (1 + l.length))) q.length := by
  unfold netE
  rw [FlowM.cap_app, FlowM.cap_app, src_cap, mid_cap, snk_cap, ← sg_add]
  congr 1
  · refine sg_congr fun j hj => ?_
    have hcb := cap_bound G (a := (j : Int)) (by omega) (by omega)
    unfold outS rowS
    rw [cof_row c _ _ hj, wrap_id _ (by omega) (by omega)]
    by_cases e : Cof c (1 + (j : Int)) = false
    · rw [if_pos ⟨h0, e⟩, if_pos e]
      have : sg (fun k => if (Cof c (1 + (j : Int)) = true ∧ Cof c (1 + (l.length : Int) + (k : Int)) = false) ∧ eligB (rd_T92 q k) (rd_T44 l j) = true then (rd_T44 l j).f4 else 0) q.length = 0 := (sg_congr fun k hk => if_neg (by rw [e]; simp)).trans (sg_zero _)
      rw [this]; omega
    · rw [if_neg (fun h => e h.2), if_neg e, Int.zero_add]
      refine sg_congr fun k hk => ?_
      rw [cof_col]
      have e' : Cof c (1 + (j : Int)) = true := by simpa using e
      by_cases e2 : Cof c (1 + (l.length : Int) + (k : Int)) = false ∧ eligB (rd_T92 q k) (rd_T44 l j) = true
      · rw [if_pos ⟨⟨e', e2.1⟩, e2.2⟩, if_pos e2]
      · rw [if_neg (fun h => e2 ⟨h.1.2, h.2⟩), if_neg e2]
  · refine sg_congr fun k hk => ?_
    unfold finS
    rw [cof_col]
    by_cases e : Cof c (1 + (l.length : Int) + (k : Int)) = true
    · rw [if_pos ⟨e, ht⟩, if_pos e]
    · rw [if_neg (fun h => e h.1), if_neg e]
theorem net_len (q : List S92) (l : List S44) (pu : Int) : (netE q l pu).length = l.length + (prsTo q l l.length).length + q.length := by
  simp [netE, srcE, snkE]; omega
theorem net_good {pu : Int} {q : List S92} {l : List S44} (G : Gd pu q l) (hl : l.length ≤ 100) : Good (2 + (l.length : Int) + (q.length : Int)) (netE q l pu) 0 (1 + (l.length : Int) + (q.length : Int)) := by
  have hq := G.len
  have hp := prsTo_len q l hq l.length
  refine ⟨by omega, by omega, by rw [net_len]; omega, ?_, by omega, by omega, by omega, by omega, by omega⟩
  intro x hx
  unfold netE srcE snkE at hx
  simp only [List.mem_append, List.mem_map, List.mem_range] at hx
  rcases hx with (⟨j, hj, rfl⟩ | ⟨p, hp, rfl⟩) | ⟨k, hk, rfl⟩
  · have hcb := cap_bound G (a := (j : Int)) (by omega) (by omega)
    rw [wrap_id _ (by omega) (by omega)]
    dsimp only
    omega
  · obtain ⟨p0, p1, p2, p3, -⟩ := prsTo_mem hp
    have hcr := G.l1 _ (rd_memA p0 p1)
    unfold midE
    dsimp only
    omega
  · have := G.q1 _ (rd_memQ (a := (k : Int)) (by omega) (by omega))
    dsimp only
    omega
theorem flow_uses {pu : Int} {q : List S92} {l : List S44} (G : Gd pu q l) (hl : l.length ≤ 100) {fl : List Int} {c : List Bool}
    (H : FlowM.Opt S61.f0 S61.f1 S61.f2 (2 + (l.length : Int) + (q.length : Int)) (netE q l pu) 0 (1 + (l.length : Int) + (q.length : Int)) fl (Cof c)) :
    (∀ u ∈ usesOf (prsTo q l l.length) (fl.drop l.length), Use q l u) ∧ (usesOf (prsTo q l l.length) (fl.drop l.length)).Pairwise ltU ∧
    (∀ a : Int, 0 ≤ a → a < l.length → sb (atA a) (usesOf (prsTo q l l.length) (fl.drop l.length)) ≤ (rd_T44 l a).f4 * pu) ∧ (∀ r : Int, 0 ≤ r → r < q.length → sb (atR r) (usesOf (prsTo q l l.length) (fl.drop l.length)) ≤ (rd_T92 q r).f1) ∧
    allS (usesOf (prsTo q l l.length) (fl.drop l.length)) = FlowM.cap S61.f0 S61.f1 S61.f2 (Cof c) (netE q l pu) ∧ fl.length = l.length + (prsTo q l l.length).length + q.length := by
  have hg := net_good G hl
  have hval := H.value (by omega) hg.ends hg.f0 hg.f1
  have hfl := H.flow.bnd.length
  rw [net_len] at hfl
  have hpm : ∀ p ∈ prsTo q l l.length, 0 ≤ p.1 ∧ p.1 < l.length ∧ 0 ≤ p.2 ∧ p.2 < q.length ∧ eligB (rd_T92 q p.2) (rd_T44 l p.1) = true := fun p hp => prsTo_mem hp
  have hup := prsTo_up q l l.length
  have hb := H.flow.bnd
  have hcons := H.flow.cons
  rw [← hval]
  unfold netE at hb hcons ⊢
  obtain ⟨g12, g3, rfl, hb12, hb3⟩ := FlowM.bnd_app _ _ _ hb
  obtain ⟨g1, g2, rfl, hb1, hb2⟩ := FlowM.bnd_app _ _ _ hb12
  obtain ⟨s1, s2⟩ := src_bnd l pu _ _ hb1
  obtain ⟨s3, s4⟩ := snk_bnd q l _ _ hb3
  have s5 := hb2.length
  rw [List.length_map] at s5
  have hL1 : g1.length = (srcE l pu l.length).length := by simp [srcE, s1]
  have hL2 : (g1 ++ g2).length = (srcE l pu l.length ++ (prsTo q l l.length).map (midE l)).length := by simp [srcE, s1, s5]
  have hdrop : uAll (prsTo q l l.length) ((g1 ++ g2 ++ g3).drop l.length) = uAll (prsTo q l l.length) g2 := by
    rw [List.append_assoc, List.drop_append_of_le_length (by omega), List.drop_of_length_le (by omega), List.nil_append, uAll_app _ _ _ s5]
  have hus : usesOf (prsTo q l l.length) ((g1 ++ g2 ++ g3).drop l.length) = (uAll (prsTo q l l.length) g2).filter fun u => decide (0 < u.f2) := by unfold usesOf; rw [hdrop]
  rw [hus]
  have hmem := uAll_mem l _ g2 hb2
  have hnn : ∀ u ∈ uAll (prsTo q l l.length) g2, 0 ≤ u.f2 := fun u hu => (hmem u hu).2.1
  have hrow : ∀ i : Nat, i < l.length → sb (atA i) (uAll (prsTo q l l.length) g2) = rd g1 (i : Int) := by
    intro i hi
    have h := hcons (1 + (i : Int)) (by omega) (by omega) (by omega) (by omega)
    rw [FlowM.outs_app _ _ _ _ _ hL2, FlowM.outs_app _ _ _ _ _ hL1, (src_out l pu _ g1 s1).1 i, if_pos hi, mid_node l i (by omega) _ _ fun p hp => (hpm p hp).2.2.1, FlowM.outs_off _ (snkE q l q.length)] at h
    · omega
    · intro x hx
      unfold snkE at hx
      simp only [List.mem_map, List.mem_range] at hx
      obtain ⟨j, hj, rfl⟩ := hx
      dsimp only
      omega
  have hcol : ∀ k : Nat, k < q.length → sb (atR k) (uAll (prsTo q l l.length) g2) = rd g3 (k : Int) := by
    intro k hk
    have h := hcons (1 + (l.length : Int) + (k : Int)) (by omega) (by omega) (by omega) (by omega)
    have h1 := (src_out l pu _ g1 s1).1 (l.length + k)
    rw [if_neg (by omega), show (1 : Int) + ((l.length + k : Nat) : Int) = 1 + (l.length : Int) + (k : Int) by omega] at h1
    rw [FlowM.outs_app _ _ _ _ _ hL2, FlowM.outs_app _ _ _ _ _ hL1, h1, mid_end l k _ _ (by omega) fun p hp => (hpm p hp).2.1, snk_out q l _ g3 (Nat.le_refl _) s3 k hk, if_pos hk] at h
    omega
  refine ⟨fun u hu => ?_, (uAll_up _ g2 hup).filter _, fun a a0 a1 => ?_, fun r r0 r1 => ?_, ?_, by simpa using hfl⟩
  · obtain ⟨hu1, hu2⟩ := List.mem_filter.1 hu
    obtain ⟨m1, m2, m3⟩ := hmem u hu1
    obtain ⟨p0, p1, p2, p3, p4⟩ := hpm _ m1
    have hu3 : 0 < u.f2 := by simpa using hu2
    exact ⟨p0, p1, p2, p3, hu3, m3, p4⟩
  · obtain ⟨i, rfl⟩ := Int.eq_ofNat_of_zero_le a0
    have hcb := cap_bound G a0 a1
    have := (s2 i (by omega)).2
    rw [wrap_id _ (by omega) (by omega)] at this
    rw [sb_filter _ _ hnn, hrow i (by omega)]
    exact this
  · obtain ⟨k, rfl⟩ := Int.eq_ofNat_of_zero_le r0
    rw [sb_filter _ _ hnn, hcol k (by omega)]
    exact (s4 k (by omega)).2
  · unfold allS
    rw [sb_filter _ _ hnn]
    have hz : ∀ x ∈ (prsTo q l l.length).map (midE l), x.f0 ≠ 0 ∧ x.f1 ≠ 0 := fun x hx => by
      obtain ⟨p, hp, rfl⟩ := List.mem_map.1 hx
      have := hpm p hp
      unfold midE; dsimp only; omega
    have hz2 : ∀ x ∈ snkE q l q.length, x.f0 ≠ 0 ∧ x.f1 ≠ 0 := fun x hx => by
      unfold snkE at hx
      simp only [List.mem_map, List.mem_range] at hx
      obtain ⟨j, hj, rfl⟩ := hx
      dsimp only
      omega
    rw [FlowM.outs_app _ _ _ _ _ hL2, FlowM.outs_app _ _ _ _ _ hL1, (src_out l pu _ g1 s1).2, FlowM.outs_off _ _ _ hz, FlowM.outs_off _ _ _ hz2, Int.add_zero, Int.add_zero]
    rw [← sg_split (p := fun _ => true) (c := S57.f0) (m := l.length) (pk := fun k => atA k) (fun k u => by simp [atA]) (us := uAll (prsTo q l l.length) g2) fun u hu => by
      have := hpm _ (hmem u hu).1
      exact ⟨this.1, this.2.1⟩]
    exact sg_congr fun i hi => hrow i hi
/-- Audit's answer -/
noncomputable def audV (n u e mn md : Int) (q : List S92) (l : List S44) : List S57 × Int × List Bool × Int :=
  if askV n u e mn md q l = 0 then
    (usesOf (prsTo q l l.length) ((runOut (2 + l.length + q.length) (netE q l u) 0 (1 + (l.length : Int) + (q.length : Int))).1.drop l.length),
      lessL (totV q) ((usesOf (prsTo q l l.length) ((runOut (2 + l.length + q.length) (netE q l u) 0 (1 + (l.length : Int) + (q.length : Int))).1.drop l.length)).map S57.f2),
      (runOut (2 + l.length + q.length) (netE q l u) 0 (1 + (l.length : Int) + (q.length : Int))).2, 0)
  else ([], 0, [], askV n u e mn md q l)
theorem all_sum : ∀ us : List S57, allS us = (us.map S57.f2).sum
  | [] => rfl
  | u :: us => by have := all_sum us; unfold allS at this ⊢; simp only [sb, List.map_cons, List.sum_cons, this]; simp
/-- WHAT AUDIT RETURNS IS ACCEPTED. -/
theorem aud_ok {n u e mn md : Int} {q : List S92} {l : List S44} (ha : askV n u e mn md q l = 0) (hl : l.length ≤ 100) {us : List S57} {m er : Int} {c : List Bool} (h : audV n u e mn md q l = (us, m, c, er)) :
    er = 0 ∧ alV n u e mn md q l us = 0 ∧ missV n u e mn md q us = (m, 0) ∧ boundV n u e mn md q l c = (m, 0) ∧ us.length ≤ 64 * l.length := by
  obtain ⟨g1, g2, G⟩ := gd_of ha
  obtain ⟨fl, c', hm, ho, hc⟩ := max_good 0 _ _ _ _ (net_good G hl)
  have hr : runOut (2 + l.length + q.length) (netE q l u) 0 (1 + (l.length : Int) + (q.length : Int)) = (fl, c') := by
    unfold flow_Max.f at hm
    rw [check_good, if_pos (net_good G hl)] at hm
    simp only [Option.bind_some, if_true, Option.some.injEq, Prod.mk.injEq] at hm
    rw [show (2 + (l.length : Int) + (q.length : Int)).toNat = 2 + l.length + q.length by omega] at hm
    exact Prod.ext hm.1 hm.2.1
  unfold audV at h
  rw [if_pos ha, hr] at h
  simp only [Prod.mk.injEq] at h
  obtain ⟨h1, h2, rfl, rfl⟩ := h
  obtain ⟨f1, f2, f3, f4, f5, f6⟩ := flow_uses G hl ho
  rw [h1] at f1 f2 f3 f4 f5 h2
  have hal : alGo q l u none (fun _ => 0) (fun _ => 0) us = true := al_mk G us none _ _ f1 f2 (fun v hv => by cases hv) (fun _ => Int.le_refl _) (fun _ => Int.le_refl _) (fun a a0 a1 => by have := f3 a a0 a1; omega) (fun a a0 a1 => by have := f4 a a0 a1; omega)
  obtain ⟨k1, k2⟩ := miss_al g1 G hal
  have hms : m = totS q - allS us := by
    have htb := tot_bound G
    have hpos : 0 ≤ allS us := sb_nonneg fun x hx => (f1 x hx).2.2.2.2.1
    rw [← h2, tot_eq G, all_sum, less_eq _ _ (fun x hx => by
      obtain ⟨y, hy, rfl⟩ := List.mem_map.1 hx
      have := (f1 y hy).2.2.2.2.1
      omega) (by rw [← all_sum]; omega) (by omega)]
  refine ⟨rfl, ?_, by rw [k1, hms], ?_, ?_⟩
  · unfold alV; rw [if_pos ha, if_pos hal]
  · have h0 : rdOf false c' 0 = true := ho.hs
    have ht : rdOf false c' (1 + l.length + q.length) = false := ho.ht
    unfold boundV
    rw [if_pos ha, if_pos ⟨by omega, h0, ht⟩, bound_eq G (by omega), ← net_cap G c' ho.hs ho.ht, ← f5, hms]
    congr 1
    unfold mx
    split <;> omega
  · rw [← h1]
    have hp := prsTo_len q l G.len l.length
    have h3 : ∀ (ps : List (Int × Int)) (g : List Int), (uAll ps g).length ≤ ps.length := by
      intro ps
      induction ps with
      | nil => intro g; simp [uAll]
      | cons p ps ih => intro g; cases g with
        | nil => simp [uAll]
        | cons f g => simp only [uAll, List.length_cons]; have := ih g; omega
    have := List.length_filter_le (fun u : S57 => decide (0 < u.f2)) (uAll (prsTo q l l.length) (fl.drop l.length))
    have := h3 (prsTo q l l.length) (fl.drop l.length)
    unfold usesOf; omega
end Go.Proofs.Ytadeidhefjifaaa.Px.L20
end
section
set_option linter.unusedVariables false
set_option linter.unusedSimpArgs false
namespace Go.Proofs.Ytadeidhefjifaaa.Px
open Go.RowKit Go.Shelf Go.Proofs.YtadeidhefjifaaaW.PrintWords Go.Proofs.YtadeidhefjifaaaW.PrintLast Go.Proofs.YtadeidhefjifaaaW.PrintMore
attribute [local go_sem] Oper.semAt_some
section
variable {w0 : World} {U : Nat} {w : World} {G : Nat} {A : Option Addr} {c : Nat} {l : List S61} {vF : Value} {fl : List Int} {vA : Value} {adj : List (List Int)}
/-- the head of the search's loop -/
def SI (w0 : World) (U : Nat) (w : World) (G : Nat) (A : Option Addr) (c : Nat) (l : List S61) (vF : Value) (fl : List Int) (vA : Value) (adj : List (List Int)) (P7 R n : Nat) (tt frm : Int) (b0 : List Int) (g : Nat) (a : Act) (W : World) : Prop :=
  ∃ u8 u9 u10 u11 u12 u13 u14 u15 u16 u17 u18 u19 u20 u21 u22 u23 u24 u25 u26 u27 u28 u29 u30 u31 u32 u33 u34 u35 u36 u37 u38 u39 u40 u41 u42 u43 u44 u45 u46 u47 u48 u49 u50 u51 u52 u53 u54 u55 u56 u57 u58 : Value, ∃ (bys q : List Int) (vq : Value) (Ds : List Nat), SW w0 U w.heap.size w W G A c l vF fl vA adj w.heap.size (w.heap.size + 1) P7 R n tt bys q vq ∧ MarksOK w.heap.size Ds W ∧
    (∀ k r, bfs tt (fun v => useL l fl n (adj.getD v.toNat [])) k bys q = some r → ∃ k', bfs tt (fun v => useL l fl n (adj.getD v.toNat [])) k' b0 [frm] = some r) ∧ (∀ x ∈ q, 0 ≤ x ∧ x < n) ∧ (g = 2 * unset bys + q.length ∧ g ≤ 2 * n + 1) ∧
    a = { tmps := #[.pointer (some ⟨G, 0, none⟩), .int .i64 frm, .int .i64 tt, undef, undef, .pointer (some ⟨w.heap.size, 0, none⟩), .pointer (some ⟨w.heap.size + 1, 0, none⟩), .pointer (some ⟨P7, 0, none⟩), u8, u9, u10, u11, u12, u13, u14, u15, u16, u17, u18, u19, u20, u21, u22, u23, u24, u25, u26, u27, u28, u29, u30, u31, u32, u33, u34, u35, u36, u37, u38, u39, u40, u41, u42, u43, u44, u45, u46, u47, u48, u49, u50, u51, u52, u53, u54, u55, u56, u57, u58], defers := Ds.map mark }
theorem SW.init {W5 : World} {R n : Nat} {tt frm : Int} (hN : NS w0 U w G A c l vF fl vA adj) (hU : U ≤ w.heap.size) (f0 : 0 ≤ frm) (f1 : frm < n)
    (h5 : W5.heap[w.heap.size]? = some (.cells #[.int .i64 tt] 3 (0, 0))) (h6 : W5.heap[w.heap.size + 1]? = some (.cells #[.slice (some ⟨R, 0, none⟩) n n] 23 (0, 0))) (hR : W5.heap[R]? = some (.cells (Array.replicate n (.int .i64 (-1))) 3 (0, 0)))
    (hRl : w.heap.size + 3 ≤ R) (hB : Below w.heap.size w W5) (m : Int) :
    SW w0 U w.heap.size w (((W5.setCell ⟨R, frm.toNat, none⟩ (.int .i64 m)).alloc (Obj.cells #[.int .i64 frm] 3)).alloc (Obj.cells #[.slice (some ⟨W5.heap.size, 0, none⟩) 1 1] 23)).drew G A c l vF fl vA adj
      w.heap.size (w.heap.size + 1) (W5.heap.size + 1) R n tt ((List.replicate n (-1)).set frm.toNat m) [frm] (.slice (some ⟨W5.heap.size, 0, none⟩) 1 1) := by
  have hsz : (W5.setCell ⟨R, frm.toNat, none⟩ (.int .i64 m)).heap.size = W5.heap.size := by simp
  obtain ⟨W6, hW6⟩ : ∃ W6, W5.setCell ⟨R, frm.toNat, none⟩ (.int .i64 m) = W6 := ⟨_, rfl⟩
  have far : ∀ k, k ≠ R → W6.heap[k]? = W5.heap[k]? := fun k hk => by rw [← hW6]; exact Below.heap_setCell W5 ⟨R, frm.toNat, none⟩ _ k hk
  have hR6 : W6.heap[R]? = some (.cells (((List.replicate n (-1)).set frm.toNat m).map (Value.int .i64)).toArray 3 (0, 0)) := by
    have hlt := lt_of_block hR
    rw [← hW6]
    show (W5.heap.modify R _)[R]? = _
    have h' : W5.heap[R] = .cells (Array.replicate n (.int .i64 (-1))) 3 (0, 0) := by simpa [Array.getElem?_eq_getElem hlt] using hR
    rw [Array.getElem?_eq_getElem (by simpa using hlt), Array.getElem_modify_self, h']
    show some (Obj.cells ((Array.replicate n (Value.int .i64 (-1))).setIfInBounds frm.toNat (.int .i64 m)) 3 (0, 0)) = _
    congr 1
    rw [show (Array.replicate n (Value.int .i64 (-1))).setIfInBounds frm.toNat (.int .i64 m) = (((List.replicate n (-1)).set frm.toNat m).map (Value.int .i64)).toArray from Array.toList_inj.1 (by simp [List.map_set])]
  have hB6 : Below w.heap.size w W6 := by rw [← hW6]; exact hB.setCell (p := ⟨R, frm.toNat, none⟩) (by simp; omega) _
  rw [hW6] at hsz ⊢
  obtain ⟨W8, hW8⟩ : ∃ W8, ((W6.alloc (Obj.cells #[.int .i64 frm] 3)).alloc (Obj.cells #[.slice (some ⟨W5.heap.size, 0, none⟩) 1 1] 23)).drew = W8 := ⟨_, rfl⟩
  have hb8 : Below W6.heap.size W6 W8 := by rw [← hW8]; exact below_drew (below_alloc (below_alloc (Below.refl _ _) _) _)
  have k7 : W8.heap[W5.heap.size + 1]? = some (Obj.cells #[.slice (some ⟨W5.heap.size, 0, none⟩) 1 1] 23) := by
    rw [← hW8, ← hsz]
    have := heap_alloc_new (W6.alloc (Obj.cells #[.int .i64 frm] 3)) (Obj.cells #[.slice (some ⟨W6.heap.size, 0, none⟩) 1 1] 23)
    show ((W6.alloc (Obj.cells #[.int .i64 frm] 3)).alloc (Obj.cells #[.slice (some ⟨W6.heap.size, 0, none⟩) 1 1] 23)).heap[W6.heap.size + 1]? = _
    simpa using this
  have kq : W8.heap[W5.heap.size]? = some (Obj.cells #[.int .i64 frm] 3) := by
    rw [← hW8, ← hsz]
    show ((W6.alloc (Obj.cells #[.int .i64 frm] 3)).alloc _).heap[W6.heap.size]? = _
    rw [Below.heap_alloc _ _ _ (by simp)]
    exact heap_alloc_new W6 _
  rw [hW8]
  have lR := lt_of_block hR
  have l6 := lt_of_block h6
  exact {
    net := (hN.below (hB6.mono hU)).below (hb8.mono (by have := hB6.size; omega))
    h5 := (hb8.block _ (by omega)).trans ((far _ (by omega)).trans h5)
    h6 := (hb8.block _ (by omega)).trans ((far _ (by omega)).trans h6)
    h7 := k7
    hR := (hb8.block _ (by omega)).trans hR6
    hn := by simp
    hq := Kd.Q_of_R (Kd.R_of_own ⟨by simp [encs], .inr ⟨W5.heap.size, 1, #[.int .i64 frm], rfl, by omega, kq, Nat.le_refl _, by unfold maxLen; omega, rfl, rfl⟩⟩ (fun k hk => by simp [Value.ownBlock] at hk; omega))
    b5 := Nat.le_refl _
    b6 := by omega
    b7 := by omega
    bR := by omega
    ne := by omega
    ne2 := by omega
    hB := hB6.trans (hb8.mono (by omega))
    hUB := hU }
section
variable {P5 P6 P7 R n : Nat} {tt : Int} {bys q : List Int} {vq : Value} {W : World} {Ds : List Nat} {b1 B : Nat} {x1 : Value}
theorem body_store (hS : SW w0 U B w W G A c l vF fl vA adj P5 P6 P7 R n tt bys q vq) (hM : MarksOK B Ds W) (hc : W.heap[b1]? = some (.cells #[x1] 76 (0, 0))) (u : Int) (h0 : 0 ≤ u) (h1 : u < n) (r : Int) :
    SW w0 U B w (W.setCell ⟨R, u.toNat, none⟩ (.int .i64 r)) G A c l vF fl vA adj P5 P6 P7 R n tt (bys.set u.toNat r) q vq ∧ MarksOK B Ds (W.setCell ⟨R, u.toNat, none⟩ (.int .i64 r)) ∧ (W.setCell ⟨R, u.toNat, none⟩ (.int .i64 r)).heap[b1]? = some (.cells #[x1] 76 (0, 0)) ∧
    (∀ N, KeepsFrom N W (W.setCell ⟨R, u.toNat, none⟩ (.int .i64 r))) ∧ KpS B b1 W (W.setCell ⟨R, u.toNat, none⟩ (.int .i64 r)) := by
  have far : ∀ k, k ≠ R → (W.setCell ⟨R, u.toNat, none⟩ (.int .i64 r)).heap[k]? = W.heap[k]? := fun k hk => Below.heap_setCell W ⟨R, u.toNat, none⟩ _ k hk
  have nb : b1 ≠ R := fun e => by have := hS.hR; rw [← e, hc] at this; simp at this
  refine ⟨hS.setBy u h0 h1 r, hM.keep fun D _ hk => (far D (fun e => by rw [e, hS.hR] at hk; cases hk)).trans hk, (far _ nb).trans hc, fun N => ⟨by simp, fun k o _ hk ho => (far k (fun e => by rw [e, hS.hR] at hk; cases hk; simp [Obj.isCells] at ho)).trans hk⟩, (Below.refl B W).setCell (p := ⟨R, u.toNat, none⟩) hS.bR _, fun cs t hk => (far _ nb).trans hk⟩
theorem body_append {W' : World} {v' : Value} {q' : List Int} (hS : SW w0 U B w W G A c l vF fl vA adj P5 P6 P7 R n tt bys q vq) (hM : MarksOK B Ds W) (hc : W.heap[b1]? = some (.cells #[x1] 76 (0, 0)))
    (hg : W.grownBy W' vq.ownBlock) (hQ : Kd.Q (Kd.int .i64) 3 W' B (fun k => k ≠ R ∧ k ≠ P5) v' q') :
    SW w0 U B w (W'.setCell ⟨P7, 0, none⟩ v') G A c l vF fl vA adj P5 P6 P7 R n tt bys q' v' ∧ MarksOK B Ds (W'.setCell ⟨P7, 0, none⟩ v') ∧ (W'.setCell ⟨P7, 0, none⟩ v').heap[b1]? = some (.cells #[x1] 76 (0, 0)) ∧
    (∀ N, KeepsFrom N W (W'.setCell ⟨P7, 0, none⟩ v')) ∧ KpS B b1 W (W'.setCell ⟨P7, 0, none⟩ v') := by
  have far : ∀ k, k ≠ P7 → (W'.setCell ⟨P7, 0, none⟩ v').heap[k]? = W'.heap[k]? := fun k hk => Below.heap_setCell W' ⟨P7, 0, none⟩ _ k hk
  have nb : b1 ≠ P7 := fun e => by have := hS.h7; rw [← e, hc] at this; simp at this
  have typ : ∀ k, vq.ownBlock = some k → ∃ cells, W.heap[k]? = some (.cells cells 3 (0, 0)) := fun k hk => Kd.Q_typed hS.hq k hk
  have keep : ∀ (k : Nat) (o : Obj), W.heap[k]? = some o → (∀ cells, o ≠ .cells cells 3 (0, 0)) → k ≠ P7 → (W'.setCell ⟨P7, 0, none⟩ v').heap[k]? = some o := fun k o hk ho h7 =>
    (far k h7).trans ((hg.block k (lt_of_block hk) (fun e => by obtain ⟨cells, hcc⟩ := typ k e.symm; rw [hk] at hcc; cases hcc; exact ho _ rfl)).trans hk)
  have hb : Below B W W' := (Below.refl _ _).grown hg hS.size (fun k hk => Kd.Q_base hS.hq k hk)
  refine ⟨hS.setQ hg hQ, hM.keep fun D _ hk => keep D _ hk (fun _ e => by cases e) (fun e => by rw [e, hS.h7] at hk; cases hk), keep b1 _ hc (fun cells e => by simp at e) nb,
    fun N => ⟨by have := hg.size; simpa using this, fun k o _ hk ho => keep k o hk (fun cells e => by rw [e] at ho; simp [Obj.isCells] at ho) (fun e => by rw [e, hS.h7] at hk; cases hk; simp [Obj.isCells] at ho)⟩,
    hb.setCell (p := ⟨P7, 0, none⟩) hS.b7 _, fun cs t hk => keep b1 _ hk (fun cells e => by rw [hc] at hk; cases hk; simp at e) nb⟩
theorem fr_of (hS : SW w0 U B w W G A c l vF fl vA adj P5 P6 P7 R n tt bys q vq) : ∀ k, W.heap.size ≤ k → k ≠ R ∧ k ≠ P5 := fun k hk =>
  ⟨fun e => by have := lt_of_block hS.hR; omega, fun e => by have := lt_of_block hS.h5; omega⟩
theorem ap_block {W' : World} (hS : SW w0 U B w W G A c l vF fl vA adj P5 P6 P7 R n tt bys q vq) (hg : W.grownBy W' vq.ownBlock) : W'.heap[P7]? = some (.cells #[vq] 23 (0, 0)) :=
  (hg.block P7 (lt_of_block hS.h7) (fun e => by obtain ⟨cells, hcc⟩ := Kd.Q_typed hS.hq _ e.symm; rw [hS.h7] at hcc; simp at hcc)).trans hS.h7
theorem ap_cell {W' : World} (hS : SW w0 U B w W G A c l vF fl vA adj P5 P6 P7 R n tt bys q vq) (hg : W.grownBy W' vq.ownBlock) : W'.cell? ⟨P7, 0, none⟩ = some vq :=
  (blk_cell (ap_block hS hg) 0).trans rfl
theorem ap_frozen {W' : World} (hS : SW w0 U B w W G A c l vF fl vA adj P5 P6 P7 R n tt bys q vq) (hg : W.grownBy W' vq.ownBlock) : W'.frozen? ⟨P7, 0, none⟩ = false :=
  blk_frozen (ap_block hS hg) 0
end
set_option maxRecDepth 100000 in
set_option maxHeartbeats 4000000 in
theorem search_in (n : Nat) (tt frm : Int) (hN : NS w0 U w G A c l vF fl vA adj) (hU : U ≤ w.heap.size) (hk : Okf l fl) (hn1 : 1 ≤ n) (hn2 : n ≤ 4096) (hadj : adj.length = n) (f0 : 0 ≤ frm) (f1 : frm < n)
    (he : ∀ r : Int, 0 ≤ r → r < 2 * l.length → 0 ≤ endR l r ∧ endR l r < n) (hr : ∀ v : Int, 0 ≤ v → v < n → ∀ r ∈ adj.getD v.toNat [], 0 ≤ r ∧ r < 2 * (l.length : Int)) (hrl : ∀ v : Int, 0 ≤ v → v < n → (adj.getD v.toNat []).length ≤ 2 * l.length) :
    CallsIn Fence.wide 3 Try.prog 49 #[.pointer (some ⟨G, 0, none⟩), .int .i64 frm, .int .i64 tt] w (SearchPost w n fun bys => ∃ k, bfs tt (fun v => useL l fl n (adj.getD v.toNat [])) k ((List.replicate n (-1)).set frm.toNat ((l.length : Int) * 2)) [frm] = some bys) := by
  have hu81 := Try.underlying81
  have hm : (l.length : Int) ≤ 65536 := by have := hN.hm; omega
  have g0 := (blk_cell hN.hG 0).trans (show _ = some _ from rfl)
  have g2 := (blk_cell hN.hG 2).trans (show _ = some _ from rfl)
  obtain ⟨Aa, ca, rfl, hca, hra⟩ := Kd.R_reads hN.hA
  rw [hadj] at g2
  have g2' := fun o1 o2 o3 => cell_lt (cell_lt (cell_lt g2 o1) o2) o3
  have HN := Aside0.mk hN
  have gl := hN.lt
  have HGL := Aside0.mk gl
  clear hra hca hN gl
  refine callsIn_of_wp_marks Try.func49 rfl trivial ?_ rfl
  simp only [Try.ntmps49, List.size_toArray, List.length_cons, List.length_nil, Nat.reduceAdd, Nat.reduceSub, Array.replicate_succ, Array.replicate_zero, List.push_toArray, List.append_toArray, List.nil_append, List.cons_append]
  gi_wp2
  refine wpIn_scope_straight ?_
  have HB3 := Aside0.mk (show ∀ o1 o2 o3, Below w.heap.size w (((w.alloc o1).alloc o2).alloc o3) from fun o1 o2 o3 => below_alloc (below_alloc (below_alloc (Below.refl _ _) o1) o2) o3)
  have HB5 := Aside0.mk (show ∀ o1 o2 o3, (((w.alloc o1).alloc o2).alloc o3).heap[w.heap.size]? = some o1 from fun o1 o2 o3 => blk3_0 w o1 o2 o3)
  have HB6 := Aside0.mk (show ∀ o1 o2 o3, (((w.alloc o1).alloc o2).alloc o3).heap[w.heap.size + 1]? = some o2 from fun o1 o2 o3 => blk3_1 w o1 o2 o3)
  have HB7 := Aside0.mk (show ∀ o1 o2 o3, (((w.alloc o1).alloc o2).alloc o3).heap[w.heap.size + 1 + 1]? = some o3 from fun o1 o2 o3 => blk3_2 w o1 o2 o3)
  gi_wp2_with fail
  obtain ⟨W3, hW3⟩ : ∃ W3, ((w.alloc (Obj.cells #[Value.int IntKind.i64 tt] 3)).alloc (Obj.cells #[Value.slice none 0 0] 23)).alloc (Obj.cells #[Value.int IntKind.i64 (-1)] 3) = W3 := ⟨_, rfl⟩
  rw [hW3]
  have q5 := HB5.out (Obj.cells #[Value.int IntKind.i64 tt] 3) (Obj.cells #[Value.slice none 0 0] 23) (Obj.cells #[Value.int IntKind.i64 (-1)] 3)
  have q6 := HB6.out (Obj.cells #[Value.int IntKind.i64 tt] 3) (Obj.cells #[Value.slice none 0 0] 23) (Obj.cells #[Value.int IntKind.i64 (-1)] 3)
  have q7 := HB7.out (Obj.cells #[Value.int IntKind.i64 tt] 3) (Obj.cells #[Value.slice none 0 0] 23) (Obj.cells #[Value.int IntKind.i64 (-1)] 3)
  have qb := HB3.out (Obj.cells #[Value.int IntKind.i64 tt] 3) (Obj.cells #[Value.slice none 0 0] 23) (Obj.cells #[Value.int IntKind.i64 (-1)] 3)
  rw [hW3] at q5 q6 q7 qb
  have qs : W3.heap.size = w.heap.size + 3 := by rw [← hW3]; simp
  have Q5 := Aside0.mk q5
  have Q6 := Aside0.mk q6
  have Q7 := Aside0.mk ((blk_cell q7 0).trans (show _ = some (Value.int .i64 (-1)) from rfl))
  have QB := Aside0.mk qb
  have QS := Aside0.mk qs
  clear hW3 q5 q6 q7 qb qs HB3 HB5 HB6 HB7 g2' g2
  refine ⟨trivial, (callsIn_wide.2 (repeat_calls W3 n (w.heap.size + 1 + 1) hn1 hn2 Q7.out)).mono ?_⟩
  rintro e w4 ⟨rfl, hr4, hb4⟩
  have R5 := Aside0.mk ((hb4.block _ (by rw [QS.out]; omega)).trans Q5.out)
  have r6 : w4.heap[w.heap.size + 1]? = _ := (hb4.block _ (by rw [QS.out]; omega)).trans Q6.out
  have s6 : w4.cell? ⟨w.heap.size + 1, 0, none⟩ = some (.slice none 0 0) := (blk_cell r6 0).trans rfl
  have z6 := blk_frozen r6 0
  have R6 := Aside0.mk r6
  have HR4 := Aside0.mk hr4
  have hw4 := QB.out.trans (hb4.mono (by rw [QS.out]; omega))
  have HB4 := Aside0.mk hw4
  clear hr4 hb4 r6 hw4
  obtain ⟨R, hR⟩ : ∃ R, W3.heap.size = R := ⟨_, rfl⟩
  have HRR := Aside0.mk hR
  rw [hR] at HR4
  rw [hR]
  gi_wp2_with fail
  obtain ⟨W5, hW5⟩ : ∃ W5, w4.setCell ⟨w.heap.size + 1, 0, none⟩ (.slice (some ⟨R, 0, none⟩) n n) = W5 := ⟨_, rfl⟩
  rw [hW5]
  have nR : R ≠ w.heap.size + 1 := by have := HRR.out; have := QS.out; omega
  have far : ∀ k, k ≠ w.heap.size + 1 → W5.heap[k]? = w4.heap[k]? := fun k hk => by rw [← hW5]; exact Below.heap_setCell w4 ⟨w.heap.size + 1, 0, none⟩ _ k hk
  have S6 : W5.heap[w.heap.size + 1]? = some (.cells #[.slice (some ⟨R, 0, none⟩) n n] 23 (0, 0)) := by rw [← hW5]; exact one_setCell R6.out
  have S5 := (far w.heap.size (by omega)).trans R5.out
  have SR := (far R nR).trans HR4.out
  have SG := (far G (by have := HGL.out; omega)).trans ((HB4.out.block G HGL.out).trans HN.out.hG)
  have SB : Below w.heap.size w W5 := by rw [← hW5]; exact HB4.out.setCell (p := ⟨w.heap.size + 1, 0, none⟩) (by simp) _
  have t0 : W5.cell? ⟨G, 0, none⟩ = some (.slice A l.length c) := (blk_cell SG 0).trans rfl
  have t6 : W5.cell? ⟨w.heap.size + 1, 0, none⟩ = some (.slice (some ⟨R, 0, none⟩) n n) := (blk_cell S6 0).trans rfl
  have tR : W5.cell? ⟨R, frm.toNat, none⟩ = some (.int .i64 (-1)) := by
    rw [blk_cell SR, Array.getElem?_replicate, if_pos (by omega)]
  have zR := blk_frozen SR frm.toNat
  have T5 := Aside0.mk S5
  have T6 := Aside0.mk S6
  have TR := Aside0.mk SR
  have TB := Aside0.mk SB
  have p0 : decide (0 ≤ frm) = true := decide_eq_true f0
  have p1 : decide (frm < (n : Int)) = true := decide_eq_true f1
  clear hW5 far S5 S6 SR SG SB s6 z6 hR
  gi_region
  gi_wp2_with fail
  have hSW := SW.init HN.out hU f0 f1 T5.out T6.out TR.out (show w.heap.size + 3 ≤ R by have := HRR.out; have := QS.out; omega) TB.out ((l.length : Int) * 2)
  obtain ⟨W8, hW8⟩ : ∃ W8, (((W5.setCell ⟨R, frm.toNat, none⟩ (.int .i64 ((l.length : Int) * 2))).alloc (Obj.cells #[.int .i64 frm] 3)).alloc (Obj.cells #[.slice (some ⟨W5.heap.size, 0, none⟩) 1 1] 23)).drew = W8 := ⟨_, rfl⟩
  rw [hW8] at hSW ⊢
  obtain ⟨P7, hP7⟩ : ∃ P7, W5.heap.size + 1 = P7 := ⟨_, rfl⟩
  rw [hP7] at hSW ⊢
  have HSW := Aside0.mk hSW
  clear hW8 hP7 hSW t0 t6 tR zR T5 T6 TR TB R5 R6 HR4 HB4 Q5 Q6 Q7 QB
  refine wpIn_label ?_
  gi_wp2_with fail
  refine wpIn_loop_g (SI w0 U w G A c l vF fl (.slice Aa adj.length ca) adj P7 R n tt frm ((List.replicate n (-1)).set frm.toNat ((l.length : Int) * 2))) (2 * unset ((List.replicate n (-1)).set frm.toNat ((l.length : Int) * 2)) + 1) ?start ?round
  case start =>
    refine ⟨_, _, _, _, _, _, _, _, _, _, _, _, _, _, _, _, _, _, _, _, _, _, _, _, _, _, _, _, _, _, _, _, _, _, _, _, _, _, _, _, _, _, _, _, _, _, _, _, _, _, _, _, _, _, [], HSW.out, ⟨List.nodup_nil, fun D hD => by cases hD⟩, ?_, ?_, ⟨rfl, ?_⟩, rfl⟩
    · intro k r hb; exact ⟨k, hb⟩
    · intro x hx; obtain rfl := List.mem_singleton.1 hx; exact ⟨f0, f1⟩
    · have : unset ((List.replicate n (-1)).set frm.toNat ((l.length : Int) * 2)) ≤ n := Nat.le_trans (List.length_filter_le _ _) (by simp)
      omega
  case round =>
    clear HSW
    intro g a W hI
    obtain ⟨u8, hI⟩ := hI
    obtain ⟨u9, hI⟩ := hI
    obtain ⟨u10, hI⟩ := hI
    obtain ⟨u11, hI⟩ := hI
    obtain ⟨u12, hI⟩ := hI
    obtain ⟨u13, hI⟩ := hI
    obtain ⟨u14, hI⟩ := hI
    obtain ⟨u15, hI⟩ := hI
    obtain ⟨u16, hI⟩ := hI
    obtain ⟨u17, hI⟩ := hI
    obtain ⟨u18, hI⟩ := hI
    obtain ⟨u19, hI⟩ := hI
    obtain ⟨u20, hI⟩ := hI
    obtain ⟨u21, hI⟩ := hI
    obtain ⟨u22, hI⟩ := hI
    obtain ⟨u23, hI⟩ := hI
    obtain ⟨u24, hI⟩ := hI
    obtain ⟨u25, hI⟩ := hI
    obtain ⟨u26, hI⟩ := hI
    obtain ⟨u27, hI⟩ := hI
    obtain ⟨u28, hI⟩ := hI
    obtain ⟨u29, hI⟩ := hI
    obtain ⟨u30, hI⟩ := hI
    obtain ⟨u31, hI⟩ := hI
    obtain ⟨u32, hI⟩ := hI
    obtain ⟨u33, hI⟩ := hI
    obtain ⟨u34, hI⟩ := hI
    obtain ⟨u35, hI⟩ := hI
    obtain ⟨u36, hI⟩ := hI
    obtain ⟨u37, hI⟩ := hI
    obtain ⟨u38, hI⟩ := hI
    obtain ⟨u39, hI⟩ := hI
    obtain ⟨u40, hI⟩ := hI
    obtain ⟨u41, hI⟩ := hI
    obtain ⟨u42, hI⟩ := hI
    obtain ⟨u43, hI⟩ := hI
    obtain ⟨u44, hI⟩ := hI
    obtain ⟨u45, hI⟩ := hI
    obtain ⟨u46, hI⟩ := hI
    obtain ⟨u47, hI⟩ := hI
    obtain ⟨u48, hI⟩ := hI
    obtain ⟨u49, hI⟩ := hI
    obtain ⟨u50, hI⟩ := hI
    obtain ⟨u51, hI⟩ := hI
    obtain ⟨u52, hI⟩ := hI
    obtain ⟨u53, hI⟩ := hI
    obtain ⟨u54, hI⟩ := hI
    obtain ⟨u55, hI⟩ := hI
    obtain ⟨u56, hI⟩ := hI
    obtain ⟨u57, hI⟩ := hI
    obtain ⟨u58, hI⟩ := hI
    obtain ⟨bys, q, vq, Ds, hS, hM, hb, hq, hg, rfl⟩ := hI
    have hS7 := (blk_cell hS.h7 0).trans (show _ = some vq from rfl)
    have z7 := blk_frozen hS.h7 0
    have HS := Aside0.mk hS
    have HM := Aside0.mk hM
    have HBF := Aside0.mk hb
    have HQ := Aside0.mk hq
    have HG := Aside0.mk hg
    clear hM hb hq hg
    cases q with
    | nil =>
      obtain ⟨Av, cv, rfl, hcv, hrv⟩ := Kd.Q_reads hS.hq
      have t6 : W.cell? ⟨w.heap.size + 1, 0, none⟩ = some (.slice (some ⟨R, 0, none⟩) n n) := (blk_cell hS.h6 0).trans rfl
      have z6 := blk_frozen hS.h6 0
      clear hS hrv hcv
      gi_wp2
      rw [Exit.noGoto_ret]
      refine search_end HS.out HM.out rfl ?_
      exact HBF.out 1 bys rfl
    | cons v q =>
      obtain ⟨gq, oq, cq, rfl, hq1, hq2, hq3⟩ := Kd.Q_form hS.hq (by simp)
      have hcell := (Kd.Q_cell 0 hS.hq 0 (by omega) (by simp)).1
      have hcell : W.cell? ⟨gq, oq, none⟩ = some (.int .i64 v) := by simpa [rdOf] using hcell
      have hcq := (Kd.Q_reads' hS.hq).2.1
      have HDR := Aside0.mk (Kd.Q_drop (k := 1) hS.hq (by simp))
      have hv := HQ.out v (by simp)
      clear hS
      gi_wp2_with fail
      case' inl =>
        have hdr := HDR.out
        simp only [h, if_true, Option.map_some, Addr.add, List.drop_succ_cons, List.drop_zero, List.length_cons, Nat.add_sub_cancel, Nat.sub_self] at hdr
        generalize hvq : Value.slice (some ⟨gq, oq, none⟩) q.length 0 = vq' at hdr ⊢
        generalize hvo : Value.slice (some ⟨gq, oq, none⟩) (q.length + 1) 1 = vo
        clear hvo
      case' inr =>
        have hdr := HDR.out
        simp only [h, if_false, Option.map_some, Addr.add, List.drop_succ_cons, List.drop_zero, List.length_cons, Nat.add_sub_cancel, show (1 : Nat) * (Kd.int .i64).sz = 1 from rfl, Nat.one_ne_zero] at hdr
        generalize hvq : Value.slice (some ⟨gq, oq + 1, none⟩) q.length (cq - 1) = vq' at hdr ⊢
        generalize hvo : Value.slice (some ⟨gq, oq, none⟩) (q.length + 1) cq = vo
        clear hvo
      all_goals (
        have hS1 := HS.out.setQ (W' := W) ⟨rfl, rfl, rfl, Nat.le_refl _, fun _ _ _ => rfl⟩ hdr
        have hM1 : MarksOK w.heap.size Ds (W.setCell ⟨P7, 0, none⟩ vq') := HM.out.keep fun D _ hk => (Below.heap_setCell W ⟨P7, 0, none⟩ _ D (fun e => by rw [e, HS.out.h7] at hk; cases hk)).trans hk
        obtain ⟨W1, hW1⟩ : ∃ W1, W.setCell ⟨P7, 0, none⟩ vq' = W1 := ⟨_, rfl⟩
        rw [hW1] at hS1 hM1 ⊢
        clear hW1 hdr hvq hS7 z7 hcell hcq HDR
        refine ⟨trivial, (usable_in (G := G) W1 v 2).mono ?_⟩
        rintro e W2 ⟨rfl, rfl⟩
        have hb : Below W1.heap.size W1 ((W1.alloc (.cells #[.pointer (some ⟨G, 0, none⟩)] 76)).alloc (.cells #[.int .i64 v] 3)) := below_alloc (below_alloc (Below.refl _ _) _) _
        have hS2 := hS1.below hS1.size hb
        have hM2 := hM1.keep (W' := (W1.alloc (.cells #[.pointer (some ⟨G, 0, none⟩)] 76)).alloc (.cells #[.int .i64 v] 3)) fun D _ hk => (hb.block D (lt_of_block hk)).trans hk
        have hc1 : ((W1.alloc (.cells #[.pointer (some ⟨G, 0, none⟩)] 76)).alloc (.cells #[.int .i64 v] 3)).heap[W1.heap.size]? = some (.cells #[.pointer (some ⟨G, 0, none⟩)] 76 (0, 0)) := by
          rw [Below.heap_alloc _ _ _ (by simp)]; exact heap_alloc_new _ _
        have hc2 : ((W1.alloc (.cells #[.pointer (some ⟨G, 0, none⟩)] 76)).alloc (.cells #[.int .i64 v] 3)).heap[W1.heap.size + 1]? = some (.cells #[.int .i64 v] 3 (0, 0)) := by
          have := heap_alloc_new (W1.alloc (.cells #[.pointer (some ⟨G, 0, none⟩)] 76)) (Obj.cells #[.int .i64 v] 3)
          simpa using this
        have hsz := hS1.size
        obtain ⟨W2, hW2⟩ : ∃ W2, (W1.alloc (.cells #[.pointer (some ⟨G, 0, none⟩)] 76)).alloc (.cells #[.int .i64 v] 3) = W2 := ⟨_, rfl⟩
        rw [hW2] at hS2 hM2 hc1 hc2 ⊢
        obtain ⟨b1, hb1⟩ : ∃ b1, W1.heap.size = b1 := ⟨_, rfl⟩
        rw [hb1] at hc1 hc2 hsz ⊢
        have HS2 := Aside0.mk hS2
        have HM2 := Aside0.mk hM2
        have HC1 := Aside0.mk hc1
        have HC2 := Aside0.mk hc2
        clear hS2 hM2 hS1 hM1 hc1 hc2 hb hW2 hb1 HM HS
        gi_wp2_with fail
        have hmd : ∀ D ∈ Ds, D < W2.heap.size := fun D hD => lt_of_block (HM2.out.2 D hD).2
        have hsz2 : b1 < W2.heap.size := lt_of_block HC1.out
        refine wpIn_rangeFunc_ownG (α := RE n) (encs := encRE n) (a₁ := (fun x => { tmps := #[.pointer (some ⟨G, 0, none⟩), .int .i64 frm, .int .i64 tt, undef, undef, .pointer (some ⟨w.heap.size, 0, none⟩), .pointer (some ⟨w.heap.size + 1, 0, none⟩), .pointer (some ⟨P7, 0, none⟩), .int .i64 v, .int .i64 x.1.1, .int .i64 x.1.2, u11, u12, u13, u14, u15, u16, u17, u18, u19, u20, u21, u22, u23, u24, u25, u26, u27, u28, vo, .int .i64 ((q.length : Int) + 1), .bool true, vo, .pointer (some ⟨gq, oq, none⟩), .int .i64 v, vo, vq', .pointer (some ⟨G, 0, none⟩), .int .i64 v, .func (.func 90) #[] #[.pointer (some ⟨b1, 0, none⟩), .pointer (some ⟨b1 + 1, 0, none⟩)], .int .i64 x.1.1, .int .i64 x.1.2, u42, u43, u44, u45, u46, u47, u48, u49, u50, u51, u52, u53, u54, u55, u56, u57, u58], defers := [] })) (I := fun pre W' => ∃ (bys' q' : List Int) (vq' : Value), scanU tt bys q pre = (bys', q', false) ∧ SW w0 U w.heap.size w W' G A c l vF fl (.slice Aa adj.length ca) adj w.heap.size (w.heap.size + 1) P7 R n tt bys' q' vq' ∧ MarksOK w.heap.size Ds W' ∧ W'.heap[b1]? = some (.cells #[.pointer (some ⟨G, 0, none⟩)] 76 (0, 0)))
          (Ix := fun cc pre W' => cc = .exit 0 ∧ ∃ (bys' q' : List Int) (vq' : Value), scanU tt bys q pre = (bys', q', true) ∧ SW w0 U w.heap.size w W' G A c l vF fl (.slice Aa adj.length ca) adj w.heap.size (w.heap.size + 1) P7 R n tt bys' q' vq' ∧ MarksOK w.heap.size Ds W')
          rfl (by decide) (gf := 90) rfl trivial (enters_of Try.func90 (by kernel_rfl) rfl)
          (usable_stops 2 n w.heap.size b1 (b1 + 1) (by decide) hU W2 HS2.out.net hk v hv.1 (by omega) he (adj.getD v.toNat []) rfl (hr v hv.1 hv.2) (by have := HS2.out.size; omega) HC1.out HC2.out) KpS.trans
          (fun W l o o' hl h _ _ => KpS.put (w := W2) (by omega) hsz2 hl h) (Below.refl _ _) (fun _ => rfl)
          ?hI ?hIx ⟨bys, q, vq', rfl, HS2.out, HM2.out, HC1.out⟩ ?assign ?body ?done ?stop
        case hI =>
          rintro pre X Y row ⟨bys', q', vq2, e, hS, hM, hc⟩ hg hrow
          exact ⟨bys', q', vq2, e, hS.own hg (fun r h => ⟨by have := (hrow r h).1; omega, (hrow r h).2⟩), hM.own hmd hg (fun r h => (hrow r h).1), (hg.block b1 (lt_of_block hc) (fun h => by have := (hrow b1 h.symm).1; omega)).trans hc⟩
        case hIx =>
          rintro cc pre X Y row ⟨ec, bys', q', vq2, e, hS, hM⟩ hg hrow
          exact ⟨ec, bys', q', vq2, e, hS.own hg (fun r h => ⟨by have := (hrow r h).1; omega, (hrow r h).2⟩), hM.own hmd hg (fun r h => (hrow r h).1)⟩
        case assign =>
          intro l0 x W K hK
          unfold encRE
          gi_wp2
          exact hK
        case body =>
          rintro l0 pre ⟨⟨r, u⟩, hu0, hu1⟩ W ⟨bys', q', vq2, hsc, hS, hM, hc⟩ hlen
          have hu0' : 0 ≤ u := hu0
          have hu1' : u < (n : Int) := hu1
          have p0 : decide (0 ≤ u) = true := decide_eq_true hu0'
          have p1 : decide (u < (n : Int)) = true := decide_eq_true hu1'
          obtain ⟨t1, t2, t3, t4, t5, t6⟩ := hS.cells u hu0 hu1
          have HX := Aside0.mk (show 0 ≤ u ∧ u < (n : Int) from ⟨hu0, hu1⟩)
          have HSI := Aside0.mk hS
          have HMI := Aside0.mk hM
          have HCI := Aside0.mk hc
          have HSC := Aside0.mk hsc
          have HLN := Aside0.mk hlen
          clear hS hM hc hsc hlen
          by_cases h0 : 0 ≤ rd bys' u
          · have b0 : decide (0 ≤ rd bys' u) = true := decide_eq_true h0
            have hx : scanU tt bys q (pre ++ [⟨(r, u), hu0, hu1⟩]) = (bys', q', false) := by rw [scan_append _ _ _ _ _ _ _ HSC.out]; simp [scanU, h0]
            have HXX := Aside0.mk hx
            clear h0 hx hu0' hu1'
            gi_wp2
            exact ⟨KeepsFrom.refl _ _, KpS.refl _ _ _, bys', q', vq2, HXX.out, HSI.out, HMI.out, HCI.out⟩
          · have b0 : decide (0 ≤ rd bys' u) = false := decide_eq_false h0
            obtain ⟨Av2, cv2, rfl, -, -⟩ := Kd.Q_reads HSI.out.hq
            have hbs := body_store HSI.out HMI.out HCI.out u hu0' hu1' r
            have s5 := hbs.1.cells u hu0' hu1'
            have s7 := s5.2.2.2.2.1
            have z7 := s5.2.2.2.2.2
            have s5 := s5.2.2.2.1
            have HBS := Aside0.mk hbs
            clear hbs
            by_cases ht : u = tt
            · have b1' : (u == tt) = true := beq_iff_eq.2 ht
              have hx : scanU tt bys q (pre ++ [⟨(r, u), hu0, hu1⟩]) = (bys'.set u.toNat r, q', true) := by rw [scan_append _ _ _ _ _ _ _ HSC.out]; exact scan_hit _ _ _ _ _ h0 ht
              have HXX := Aside0.mk hx
              clear h0 hx ht hu0' hu1'
              gi_wp2
              exact ⟨HBS.out.2.2.2.1 _, rfl, _, _, _, HXX.out, HBS.out.1, HBS.out.2.1⟩
            · have b1' : (u == tt) = false := beq_eq_false_iff_ne.2 ht
              have hx : scanU tt bys q (pre ++ [⟨(r, u), hu0, hu1⟩]) = (bys'.set u.toNat r, q' ++ [u], false) := by rw [scan_append _ _ _ _ _ _ _ HSC.out]; rw [scan_new _ _ _ _ _ h0 ht]; rfl
              have HXX := Aside0.mk hx
              clear h0 hx ht hu0' hu1'
              have hql : (q'.length + 1) * 8 ≤ 140737488355328 := by
                have e1 := scan_len tt _ _ _ _ _ _ HSC.out
                have e2 := useL_len l fl n (adj.getD v.toNat [])
                have e3 := hrl v hv.1 hv.2
                have e4 := HLN.out
                have e5 := HG.out.1
                have e6 := HG.out.2
                simp only [List.length_cons] at e5
                omega
              have HQL := Aside0.mk hql
              clear hql
              gi_wp2_with (gi_at_builtin; refine QIn_append rfl (.tmp 54) (.tmp 56) rfl w.heap.size (.slice Av2 q'.length cv2) q' u (fun k => k ≠ R ∧ k ≠ w.heap.size) rfl ?ad ?fr HBS.out.1.hq HBS.out.1.size HQL.out ?_; (case fr => exact fr_of HBS.out.1); (case ad => (rw [World.size_setCell]; rfl)); intro v1 w1 hQ1 hg1; obtain ⟨g1, o1, cc1, rfl, -, -, -⟩ := Kd.Q_form hQ1 (by simp); have HAP := Aside0.mk (body_append HBS.out.1 HBS.out.2.1 HBS.out.2.2.1 hg1 hQ1); have c7 := ap_cell HBS.out.1 hg1; have z8 := ap_frozen HBS.out.1 hg1; clear hQ1 hg1)
              have hap := HAP.out
              simp only [List.length_append, List.length_cons, List.length_nil, Nat.zero_add] at hap
              exact ⟨(HBS.out.2.2.2.1 _).trans (hap.2.2.2.1 _), HBS.out.2.2.2.2.trans hap.2.2.2.2, _, _, _, HXX.out, hap.1, hap.2.1, hap.2.2.1⟩
        case done =>
          rintro D xs W hD rfl ⟨bys', q', vq2, hsc, hS, hM, hc⟩ hK
          have hf := scan_facts tt _ _ _ _ _ _ hsc HS2.out.hn (fun x hx => HQ.out x (by simp [hx])) (fun e hm => (hr v hv.1 hv.2 _ (useL_mem hm).1).1)
          have e5 := HG.out.1
          have e6 := HG.out.2
          simp only [List.length_cons] at e5
          refine ⟨2 * unset bys' + q'.length, by omega, _, _, _, _, _, _, _, _, _, _, _, _, _, _, _, _, _, _, _, _, _, _, _, _, _, _, _, _, _, _, _, _, _, _, _, _, _, _, _, _, _, _, _, _, _, _, _, _, _, _, _, bys', q', vq2, D :: Ds, hS, ⟨List.nodup_cons.2 ⟨fun h => by have := hmd D h; omega, hM.1⟩, ?_⟩, ?_, hf.2.1, ⟨rfl, by omega⟩, rfl⟩
          · intro E hE
            rcases List.mem_cons.1 hE with rfl | hE
            · exact ⟨by omega, hK⟩
            · exact hM.2 E hE
          · intro k r hb
            exact HBF.out (k + 1) r (by rw [bfs, hsc]; simpa using hb)
        case stop =>
          rintro D cc pre W hD ⟨suf, hsuf⟩ ⟨rfl, bys', q', vq2, hsc, hS, hM⟩ hK
          have hx := scan_stop tt pre suf _ _ _ _ hsc
          rw [hsuf] at hx
          have hM' : MarksOK w.heap.size (D :: Ds) W := by
            refine ⟨List.nodup_cons.2 ⟨fun h => by have := hmd D h; omega, hM.1⟩, ?_⟩
            intro E hE
            rcases List.mem_cons.1 hE with rfl | hE
            · exact ⟨by omega, hK⟩
            · exact hM.2 E hE
          have hP : ∃ k, bfs tt (fun v => useL l fl n (adj.getD v.toNat [])) k ((List.replicate n (-1)).set frm.toNat ((l.length : Int) * 2)) [frm] = some bys' := HBF.out 1 bys' (by rw [bfs, hx]; rfl)
          have t6 : W.cell? ⟨w.heap.size + 1, 0, none⟩ = some (.slice (some ⟨R, 0, none⟩) n n) := (blk_cell hS.h6 0).trans rfl
          have z6 := blk_frozen hS.h6 0
          have HE := Aside0.mk hS
          have HME := Aside0.mk hM'
          have HP := Aside0.mk hP
          clear hS hM hM' hP hx hsc hK
          gi_wp2
          rw [Exit.noGoto_ret]
          exact search_end HE.out (Ds := D :: Ds) HME.out rfl HP.out)
theorem search_calls (n : Nat) (tt frm : Int) (hN : NS w0 U w G A c l vF fl vA adj) (hU : U ≤ w.heap.size) (hk : Okf l fl) (hn1 : 1 ≤ n) (hn2 : n ≤ 4096) (hadj : adj.length = n) (f0 : 0 ≤ frm) (f1 : frm < n)
    (he : ∀ r : Int, 0 ≤ r → r < 2 * l.length → 0 ≤ endR l r ∧ endR l r < n) (hr : ∀ v : Int, 0 ≤ v → v < n → ∀ r ∈ adj.getD v.toNat [], 0 ≤ r ∧ r < 2 * (l.length : Int)) (hrl : ∀ v : Int, 0 ≤ v → v < n → (adj.getD v.toNat []).length ≤ 2 * l.length) :
    Calls Try.prog 49 #[.pointer (some ⟨G, 0, none⟩), .int .i64 frm, .int .i64 tt] w (SearchPost w n fun bys => ∃ k, bfs tt (fun v => useL l fl n (adj.getD v.toNat [])) k ((List.replicate n (-1)).set frm.toNat ((l.length : Int) * 2)) [frm] = some bys) :=
  callsIn_wide.1 (search_in n tt frm hN hU hk hn1 hn2 hadj f0 f1 he hr hrl)
end
end Go.Proofs.Ytadeidhefjifaaa.Px
end
section
set_option linter.unusedVariables false
set_option linter.unusedSimpArgs false
namespace Go.Proofs.Ytadeidhefjifaaa.Px
open Go.RowKit Go.Shelf Go.Proofs.YtadeidhefjifaaaW.PrintWords Go.Proofs.YtadeidhefjifaaaW.PrintLast Go.Proofs.YtadeidhefjifaaaW.PrintMore
theorem madeZ (n : Nat) : (madeCells #[Value.int .i64 0] n).toList = List.replicate n (.int .i64 0) := by
  simp only [madeCells, Array.toList_map, Array.toList_range]
  apply List.ext_getElem
  · simp
  · intro i h1 h2; simp [Nat.mod_one]
theorem NS_of_NN {w0 W : World} {G F Ab : Nat} {A : Option Addr} {c : Nat} {l : List S61} {n : Nat} {vals : List Value} {adj : List (List Int)} (h : NN w0 W G F Ab A c l (madeCells #[.int .i64 0] l.length) n vals adj)
    (hE : Kd.C k61 w0 A l.length l) (hc : l.length ≤ c) (hm : l.length ≤ 65536) :
    NS w0 W.heap.size W G A c l (.slice (some ⟨F, 0, none⟩) l.length l.length) (List.replicate l.length 0) (.slice (some ⟨Ab, 0, none⟩) adj.length adj.length) adj := by
  have hlen := h.hlen
  have hO := h.hO
  obtain ⟨hvl, hob⟩ := hO
  have hAb : ∃ cells, W.heap[Ab]? = some (.cells cells 23 (0, 0)) := own_typed h.hO Ab rfl
  obtain ⟨cA, hAb⟩ := hAb
  have gf : F ≠ G := fun e => by have := h.hF; rw [e, h.hG] at this; simp at this
  have ga : Ab ≠ G := fun e => by rw [e, h.hG] at hAb; simp at hAb
  have fa : Ab ≠ F := fun e => by rw [e, h.hF] at hAb; simp at hAb
  exact {
    hG := by rw [hlen]; exact h.hG
    hB := h.bG
    hU := lt_of_block h.hG
    hW := h.hW
    hE0 := hE
    hc := hc
    hF := Kd.R_of_own ⟨by simp [encs], .inr ⟨F, l.length, _, by simp, h.bF, h.hF, by simp, by unfold maxLen; omega, by simp [size_madeCells], by rw [madeZ]; simp [encs]⟩⟩ (fun k hk => by simp [Value.ownBlock] at hk; subst hk; exact ⟨gf, lt_of_block h.hF⟩)
    hA := ⟨fun k hk => by simp [Value.ownBlock] at hk; subst hk; exact ⟨⟨ga, lt_of_block hAb⟩, by simp [Value.ownBlock]; exact fa⟩, vals, by rw [hlen]; exact h.hO, by rw [hvl, hlen]; simp [Kd.slice], fun j p hj => by
      have hjl : j < n := by rw [← hlen]; exact (List.getElem?_eq_some_iff.1 hj).1
      have hr := h.hrow j hjl
      have e1 : adj.getD j [] = p := by simp [List.getD, hj]
      have e2 : (vals.drop (j * 1)).take 1 = [vals.getD j undef] := by
        have : j < vals.length := by omega
        rw [Nat.mul_one, List.drop_eq_getElem_cons this, List.take_succ_cons, List.take_zero]
        simp only [List.getD, List.getElem?_eq_getElem this, Option.getD_some]
      rw [e1] at hr
      refine ⟨vals.getD j undef, e2, Kd.R_mono (Kd.R_bound hr) fun k hk => ?_⟩
      obtain ⟨kF, _, kl, q, hq, cells, hk⟩ := hk
      have hq : q = 3 := by simpa [Kd.int, Kd.scalar] using hq
      subst hq
      refine ⟨⟨⟨fun e => by rw [e, h.hG] at hk; simp at hk, kl⟩, ?_⟩, ?_⟩
      · simp [Value.ownBlock]; exact kF
      · simp [Value.ownBlock]; exact fun e => by rw [e, hAb] at hk; simp at hk⟩
    hl := by simp
    hm := hm }
end Go.Proofs.Ytadeidhefjifaaa.Px
end
section
set_option linter.unusedVariables false
set_option linter.unusedSimpArgs false
namespace Go.Proofs.Ytadeidhefjifaaa.Px
open Go.RowKit Go.Shelf Go.Proofs.YtadeidhefjifaaaW.PrintWords Go.Proofs.YtadeidhefjifaaaW.PrintLast Go.Proofs.YtadeidhefjifaaaW.PrintMore
/-- what a round of Max holds in memory -/
structure JB (w0 : World) (U : Nat) (W : World) (G : Nat) (A : Option Addr) (c : Nat) (l : List S61) (vF : Value) (fl : List Int) (vA : Value) (adj : List (List Int)) (b13 L R n : Nat) (bys : List Int) (m : Int) : Prop where
  net : NS w0 U W G A c l vF fl vA adj
  h12 : W.heap[U]? = some (.cells #[.pointer (some ⟨G, 0, none⟩)] 76 (0, 0))
  h13 : W.heap[b13]? = some (.cells #[.slice (some ⟨R, 0, none⟩) n n] 23 (0, 0))
  hL : W.heap[L]? = some (.cells #[.int .i64 m] 3 (0, 0))
  hR : W.heap[R]? = some (.cells (bys.map (Value.int .i64)).toArray 3 (0, 0))
  hlen : bys.length = n
  u13 : U ≤ b13
  uL : U ≤ L
  uR : U ≤ R
  ne : R ≠ L
section
variable {w0 : World} {U : Nat} {W W' : World} {G : Nat} {A : Option Addr} {c : Nat} {l : List S61} {vF : Value} {fl : List Int} {vA : Value} {adj : List (List Int)} {b13 L R n : Nat} {bys : List Int} {m : Int}
theorem blk_C {xs : List Int} (hR : W.heap[R]? = some (.cells (xs.map (Value.int .i64)).toArray 3 (0, 0))) (hn : xs.length ≤ maxLen) : Kd.C (Kd.int .i64) W (some ⟨R, 0, none⟩) xs.length xs :=
  (Kd.R_reads' (Kd.R_of_own (base := 0) (ok := fun _ => True) (v := .slice (some ⟨R, 0, none⟩) xs.length xs.length) (xs := xs) ⟨by simp [encs], .inr ⟨R, xs.length, _, rfl, by omega, hR, Nat.le_refl _, hn, by simp, by simp [encs, List.take_of_length_le]⟩⟩ (fun _ _ => True.intro))).2.2
theorem JB.draw (h : JB w0 U W G A c l vF fl vA adj b13 L R n bys m) (k : Nat) : JB w0 U (W.drewN k) G A c l vF fl vA adj b13 L R n bys m :=
  { h with net := h.net.below (pw_below_drewN (Below.refl _ _) k) }
theorem JB.size (h : JB w0 U W G A c l vF fl vA adj b13 L R n bys m) : U ≤ W.heap.size := Nat.le_of_lt (lt_of_block h.h12)
theorem JB.least (h : JB w0 U W G A c l vF fl vA adj b13 L R n bys m) (hg : W.grownBy W' (some L)) (m' : Int) (hL : W'.heap[L]? = some (.cells #[.int .i64 m'] 3 (0, 0))) : JB w0 U W' G A c l vF fl vA adj b13 L R n bys m' := by
  have n1 : U ≠ L := fun e => by have := h.h12; rw [e, h.hL] at this; simp at this
  have n2 : b13 ≠ L := fun e => by have := h.h13; rw [e, h.hL] at this; simp at this
  exact { h with
    net := h.net.below ((Below.refl _ _).grown hg h.size (fun k e => by cases e; exact h.uL))
    h12 := (hg.block _ (lt_of_block h.h12) (fun e => n1 (by simpa using e))).trans h.h12
    h13 := (hg.block _ (lt_of_block h.h13) (fun e => n2 (by simpa using e))).trans h.h13
    hL := hL
    hR := (hg.block _ (lt_of_block h.hR) (fun e => h.ne (by simpa using e))).trans h.hR }
theorem JB.push (h : JB w0 U W G A c l vF fl vA adj b13 L R n bys m) (hg : W.grownBy W' vF.ownBlock) {fl' : List Int} (hN : NS w0 U W' G A c l vF fl' vA adj) : JB w0 U W' G A c l vF fl' vA adj b13 L R n bys m := by
  have far : ∀ (k : Nat) (o : Obj), W.heap[k]? = some o → U ≤ k → W'.heap[k]? = some o := fun k o hk hu => (hg.block k (lt_of_block hk) (fun e => by have := (h.net.hF.1 k e.symm).2; omega)).trans hk
  exact { h with
    net := hN
    h12 := far _ _ h.h12 (Nat.le_refl _)
    h13 := far _ _ h.h13 h.u13
    hL := far _ _ h.hL h.uL
    hR := far _ _ h.hR h.uR }
/-- what along asks of the memory -/
theorem JB.asks (h : JB w0 U W G A c l vF fl vA adj b13 L R n bys m) (hn : n ≤ 4096) {bt bf : Nat} {tt frm : Int} (ht : w0.heap[bt]? = some (.cells #[.int .i64 tt] 3 (0, 0))) (hf : w0.heap[bf]? = some (.cells #[.int .i64 frm] 3 (0, 0))) :
    (∃ fl, NS w0 U W G A c l vF fl vA adj) ∧ W.cell? ⟨bt, 0, none⟩ = some (.int .i64 tt) ∧ W.cell? ⟨bf, 0, none⟩ = some (.int .i64 frm) ∧ W.cell? ⟨U, 0, none⟩ = some (.pointer (some ⟨G, 0, none⟩)) ∧ W.cell? ⟨b13, 0, none⟩ = some (.slice (some ⟨R, 0, none⟩) bys.length n) ∧ Kd.C (Kd.int .i64) W (some ⟨R, 0, none⟩) bys.length bys :=
  ⟨⟨fl, h.net⟩, (blk_cell ((h.net.hW.block _ (lt_of_block ht)).trans ht) 0).trans rfl, (blk_cell ((h.net.hW.block _ (lt_of_block hf)).trans hf) 0).trans rfl, (blk_cell h.h12 0).trans rfl, by rw [h.hlen]; exact (blk_cell h.h13 0).trans rfl, blk_C h.hR (by rw [h.hlen]; unfold maxLen; omega)⟩
end
section
variable {w0 : World} {U : Nat} {W : World} {G : Nat} {A : Option Addr} {c : Nat} {l : List S61} {vF : Value} {fl : List Int} {vA : Value} {adj : List (List Int)} {b13 L R n : Nat} {bys : List Int} {p : List Int} {tt frm : Int} {bt bf : Nat}
/-- the first walk along the path -/
theorem walk_least (hg : GoodL n l) (hf0 : FlowG n l frm tt fl) (hn : n ≤ 4096) (ht : w0.heap[bt]? = some (.cells #[.int .i64 tt] 3 (0, 0))) (hf : w0.heap[bf]? = some (.cells #[.int .i64 frm] 3 (0, 0))) (hp : GP n l fl bys frm tt p)
    (h : JB w0 U W G A c l vF fl vA adj b13 L R n bys 1073741824) :
    Calls Try.prog 50 #[.func (.func 52) #[] #[.pointer (some ⟨L, 0, none⟩), .pointer (some ⟨U, 0, none⟩)], .pointer (some ⟨bt, 0, none⟩), .pointer (some ⟨bf, 0, none⟩), .pointer (some ⟨U, 0, none⟩), .pointer (some ⟨b13, 0, none⟩)] W fun e w' =>
      e = .returned (.tuple #[]) ∧ JB w0 U w' G A c l vF fl vA adj b13 L R n bys (leastP l fl p) := by
  refine (along52 w0 U G A c l vF vA adj bt bf U b13 L U tt frm (some ⟨R, 0, none⟩) n bys p (fun pre w' => JB w0 U w' G A c l vF fl vA adj b13 L R n bys (leastP l fl pre))
    (fun pre w' h => h.asks hn ht hf) (fun pre w' k h => h.draw k) ?_ (hp.path h.hlen) W h).mono fun e w' h => h
  intro pre r rest w1 h1 hpe r0 r1
  refine (least_calls h1.net (flow_okf hg hf0) r r0 r1 L U (leastP l fl pre) h1.hL h1.h12).mono ?_
  rintro e w2 ⟨rfl, hL, hgr⟩
  refine ⟨rfl, h1.least hgr _ ?_⟩
  rw [hL]; simp [leastP]
/-- the second -/
theorem walk_push (hg : GoodL n l) (hf0 : FlowG n l frm tt fl) (hn : n ≤ 4096) (ht : w0.heap[bt]? = some (.cells #[.int .i64 tt] 3 (0, 0))) (hf : w0.heap[bf]? = some (.cells #[.int .i64 frm] 3 (0, 0))) (hp : GP n l fl bys frm tt p)
    (h : JB w0 U W G A c l vF fl vA adj b13 L R n bys (leastP l fl p)) :
    Calls Try.prog 50 #[.func (.func 54) #[] #[.pointer (some ⟨U, 0, none⟩), .pointer (some ⟨L, 0, none⟩)], .pointer (some ⟨bt, 0, none⟩), .pointer (some ⟨bf, 0, none⟩), .pointer (some ⟨U, 0, none⟩), .pointer (some ⟨b13, 0, none⟩)] W fun e w' =>
      e = .returned (.tuple #[]) ∧ JB w0 U w' G A c l vF (aug fl p (leastP l fl p)) vA adj b13 L R n bys (leastP l fl p) := by
  obtain ⟨m1, m2, m3⟩ := leastP_ok hp
  have hb := (bd_iff l fl).1 hf0.bnd
  refine (along54 w0 U G A c l vF vA adj bt bf U b13 U L tt frm (some ⟨R, 0, none⟩) n bys p (fun pre w' => JB w0 U w' G A c l vF (aug fl pre (leastP l fl p)) vA adj b13 L R n bys (leastP l fl p))
    (fun pre w' h => h.asks hn ht hf) (fun pre w' k h => h.draw k) ?_ (hp.path h.hlen) W h).mono fun e w' h => h
  intro pre r rest w1 h1 hpe r0 r1
  have hpre : ∀ s ∈ pre, 0 ≤ s ∧ s < 2 * l.length ∧ leastP l fl p ≤ capR l fl s := fun s hs => by
    have hs : s ∈ p := by rw [hpe]; simp [hs]
    exact ⟨(hp.mem s hs).1, (hp.mem s hs).2.1, m3 s hs⟩
  have hnd : (pre.map (· / 2)).Nodup := by
    have := hp.nodup
    rw [hpe, List.map_append] at this
    exact (List.nodup_append.1 this).1
  have hbd := (bd_aug (by omega) pre fl hb hpre hnd).2 (r / 2) (by omega) (by omega)
  have hcap := (hg _ (rdT_mem l (r / 2) (by omega) (by omega))).2.2.2.2
  refine (pushes_calls h1.net r (leastP l fl p) r0 r1 hbd.1 (by omega) (by omega) m2 L U h1.hL h1.h12).mono ?_
  rintro e w2 ⟨rfl, hN, hgr⟩
  refine ⟨rfl, h1.push hgr ?_⟩
  rw [aug_append]; exact hN
end
end Go.Proofs.Ytadeidhefjifaaa.Px
end
section
set_option linter.unusedVariables false
set_option linter.unusedSimpArgs false
namespace Go.Proofs.Ytadeidhefjifaaa.Px
open Go.RowKit Go.Shelf Go.Proofs.YtadeidhefjifaaaW.PrintWords Go.Proofs.YtadeidhefjifaaaW.PrintLast Go.Proofs.YtadeidhefjifaaaW.PrintMore
theorem check_ok {k : Nat} {a0 : Int} {l : List S61} {a2 a3 : Int} (h : flow_check.f k a0 l a2 a3 = some 0) : Good a0 l a2 a3 := by
  have := flow_check.mono a0 l a2 a3 k 0 h
  rw [check_good] at this
  split at this
  · assumption
  · simp at this
theorem row_setCell {W : World} {R : Nat} {cs : Array Value} {t : TypeId} (h : W.heap[R]? = some (.cells cs t (0, 0))) (i : Nat) (v : Value) : (W.setCell ⟨R, i, none⟩ v).heap[R]? = some (.cells (cs.setIfInBounds i v) t (0, 0)) := by
  have hlt := lt_of_block h
  show (W.heap.modify R _)[R]? = _
  have h' : W.heap[R] = .cells cs t (0, 0) := by simpa [Array.getElem?_eq_getElem hlt] using h
  rw [Array.getElem?_eq_getElem (by simpa using hlt), Array.getElem_modify_self, h']
  rfl
theorem blk2_1 (w : World) (o1 o2 : Obj) : ((w.alloc o1).alloc o2).heap[w.heap.size + 1]? = some o2 := by
  have := heap_alloc_new (w.alloc o1) o2
  simpa using this
theorem blk2_0 (w : World) (o1 o2 : Obj) : ((w.alloc o1).alloc o2).heap[w.heap.size]? = some o1 := by
  rw [Below.heap_alloc _ _ _ (by simp)]; exact heap_alloc_new _ _
set_option maxRecDepth 100000 in
set_option maxHeartbeats 4000000 in
theorem flow_Max.calls (k : Nat) (a0 : Int) (A1 : Option Addr) (c1 : Nat) (l1 : List S61) (a2 : Int) (a3 : Int) (r1 : List Int) (r2 : List Bool) (r3 : Int) (w : World) (hr1 : Kd.C k61 w A1 l1.length l1) (hc1 : l1.length ≤ c1) (h : flow_Max.f k a0 l1 a2 a3 = some (r1, r2, r3)) :
    Calls Try.prog 27 #[.int .i64 a0, .slice A1 l1.length c1, .int .i64 a2, .int .i64 a3] w fun e w' => ∃ v0_ v1_ : Value, e = .returned (.tuple #[v0_, v1_, .int .i64 r3]) ∧ Kd.R (Kd.int .i64) 3 w' w.heap.size (fun _ => True) v0_ r1 ∧ Kd.R Kd.bool 4 w' w.heap.size (fun _ => True) v1_ r2 ∧ Below w.heap.size w w' := by
  obtain ⟨e0, he0, hh⟩ := Option.bind_eq_some_iff.1 h
  have HR := Aside0.mk hr1
  have HC := Aside0.mk hc1
  have HE := Aside0.mk he0
  have H := Aside0.mk hh
  clear hr1 hc1 he0 hh h
  go_enter Try.func27, Try.ntmps27
  go_wp2_with fail
  have hb1 : Below w.heap.size w ((w.alloc (Obj.cells #[Value.int IntKind.i64 a2] 3)).alloc (Obj.cells #[Value.int IntKind.i64 a3] 3)) := below_alloc (below_alloc (Below.refl _ _) _) _
  have k6 := blk2_0 w (Obj.cells #[Value.int IntKind.i64 a2] 3) (Obj.cells #[Value.int IntKind.i64 a3] 3)
  have k7 := blk2_1 w (Obj.cells #[Value.int IntKind.i64 a2] 3) (Obj.cells #[Value.int IntKind.i64 a3] 3)
  obtain ⟨W1, hW1⟩ : ∃ W1, (w.alloc (Obj.cells #[Value.int IntKind.i64 a2] 3)).alloc (Obj.cells #[Value.int IntKind.i64 a3] 3) = W1 := ⟨_, rfl⟩
  rw [hW1] at hb1 k6 k7 ⊢
  clear hW1
  refine (flow_check.calls k a0 A1 c1 l1 a2 a3 e0 W1 (Kd.C_below HR.out hb1) HC.out HE.out).mono ?_
  rintro e W2 ⟨rfl, hb2⟩
  have HB := Aside0.mk (below_step hb1 hb2)
  have j6 := (hb2.block _ (lt_of_block k6)).trans k6
  have j7 := (hb2.block _ (lt_of_block k7)).trans k7
  have J6 := Aside0.mk j6
  have J7 := Aside0.mk j7
  clear hb1 hb2 k6 k7 j6 j7
  by_cases h0 : e0 = 0
  · subst h0
    have hg := check_ok HE.out
    have h := H.out
    rw [if_pos rfl] at h
    simp only [Option.some.injEq, Prod.mk.injEq] at h
    obtain ⟨hr1, hr2, rfl⟩ := h
    have HG := Aside0.mk hg
    have HO := Aside0.mk (And.intro hr1 hr2)
    clear hr1 hr2 hg
    obtain ⟨n, rfl⟩ := Int.eq_ofNat_of_zero_le (show 0 ≤ a0 by have := HG.out.n2; omega)
    have hn4 : n ≤ 4096 := by have := HG.out.n4; omega
    have hn2 : 2 ≤ n := by have := HG.out.n2; omega
    have hE2 := Kd.C_below HR.out HB.out
    go_wp2_with fail
    refine (newNetwork_calls W2 n A1 c1 l1 hE2 HC.out HG.out.m hn4 (fun x hx => ⟨(HG.out.ends x hx).1, (HG.out.ends x hx).2.1⟩)).mono ?_
    rintro e W3 ⟨G, F, Ab, rfl, vals, hNN⟩
    have hN3 := NS_of_NN hNN hE2 HC.out HG.out.m
    have had : (adjOf l1 0 (List.replicate n [])).length = n := by rw [adjOf_length]; simp
    rw [had] at hN3
    obtain ⟨vF, hvF⟩ : ∃ v, Value.slice (some ⟨F, 0, none⟩) l1.length l1.length = v := ⟨_, rfl⟩
    obtain ⟨vA, hvA⟩ : ∃ v, Value.slice (some ⟨Ab, 0, none⟩) n n = v := ⟨_, rfl⟩
    rw [hvF, hvA] at hN3
    obtain ⟨U, hU⟩ : ∃ U, W3.heap.size = U := ⟨_, rfl⟩
    rw [hU] at hN3
    have HN3 := Aside0.mk hN3
    have HU := Aside0.mk hU
    have HAD := Aside0.mk had
    clear hN3 hNN hvF hvA had hE2
    go_wp2_with fail
    have hb4 : Below U W3 (W3.alloc (Obj.cells #[Value.pointer (some ⟨G, 0, none⟩)] 76)) := by rw [← hU]; exact below_alloc (Below.refl _ _) _
    have hN4 := HN3.out.below hb4
    have h12 : (W3.alloc (Obj.cells #[Value.pointer (some ⟨G, 0, none⟩)] 76)).heap[U]? = some (Obj.cells #[Value.pointer (some ⟨G, 0, none⟩)] 76) := by rw [← hU]; exact heap_alloc_new _ _
    obtain ⟨W4, hW4⟩ : ∃ W4, W3.alloc (Obj.cells #[Value.pointer (some ⟨G, 0, none⟩)] 76) = W4 := ⟨_, rfl⟩
    rw [hW4] at hN4 h12 ⊢
    have J6' : W4.heap[w.heap.size]? = some (.cells #[.int .i64 a2] 3 (0, 0)) := (hN4.hW.block _ (lt_of_block J6.out)).trans J6.out
    have HN4 := Aside0.mk hN4
    have H12 := Aside0.mk h12
    have HO' := Aside0.mk (fun r c (h : Run n l1 a2 a3 (List.replicate l1.length 0) r c) => (show r1 = r ∧ r2 = c by
      have := runOut_eq h
      have ho := HO.out
      rw [Int.toNat_natCast, this] at ho
      exact ⟨ho.1.symm, ho.2.symm⟩))
    have HW4 := Aside0.mk (show U ≤ W4.heap.size from Nat.le_of_lt (lt_of_block h12))
    have hsz2 := hN4.hW.size
    clear hN4 h12 hb4 hW4 J6' HN3 hU HU HO hsz2
    go_loopg [] (FlowM.cap S61.f0 S61.f1 S61.f2 (fun v => decide (v = a2)) l1).toNat (fun g W => ∃ fl : List Int, Aside0 (NS W2 U W G A1 c1 l1 vF fl vA (adjG n l1)) ∧ Aside0 (W.heap[U]? = some (Obj.cells #[Value.pointer (some ⟨G, 0, none⟩)] 76 (0, 0))) ∧ Aside0 (FlowG n l1 a2 a3 fl) ∧ Aside0 (∀ r c, Run n l1 a2 a3 fl r c → Run n l1 a2 a3 (List.replicate l1.length 0) r c) ∧ Aside0 (g = (FlowM.cap S61.f0 S61.f1 S61.f2 (fun v => decide (v = a2)) l1 - outsG l1 fl a2).toNat))
    case atStart => exact ⟨_, HN4, H12, ⟨flow_zero n l1 a2 a3 HG.out.ends⟩, ⟨fun r c h => h⟩, ⟨by rw [outs_zero]; simp⟩⟩
    case round =>
      obtain ⟨fl, HN, H12r, HF, HRUN, HGG⟩ := hrel
      have hN := HN.out
      have c6 : wr.cell? ⟨w.heap.size, 0, none⟩ = some (.int .i64 a2) := (blk_cell ((hN.hW.block _ (lt_of_block J6.out)).trans J6.out) 0).trans rfl
      have c7 : wr.cell? ⟨w.heap.size + 1, 0, none⟩ = some (.int .i64 a3) := (blk_cell ((hN.hW.block _ (lt_of_block J7.out)).trans J7.out) 0).trans rfl
      have c12 : wr.cell? ⟨U, 0, none⟩ = some (.pointer (some ⟨G, 0, none⟩)) := (blk_cell H12r.out 0).trans rfl
      clear hN
      have hUr : U ≤ wr.heap.size := Nat.le_of_lt (lt_of_block H12r.out)
      have hn0 : ∀ v : Int, 0 ≤ v → v < n → ∀ r ∈ (adjG n l1).getD v.toNat [], 0 ≤ r ∧ r < 2 * (l1.length : Int) := fun v v0 v1 r hr => ⟨((adj_iff n l1 HG.out.ends v r v0).1 hr).1, ((adj_iff n l1 HG.out.ends v r v0).1 hr).2.1⟩
      have HS := Aside0.mk (search_calls n a3 a2 HN.out hUr (flow_okf HG.out.ends HF.out) (by omega) hn4 HAD.out HG.out.f0 HG.out.f1 (fun r r0 r1 => endR_in n l1 HG.out.ends r r0 r1) hn0 (fun v _ _ => adj_lens n l1 v))
      clear hn0
      go_wp2_with fail
      refine HS.out.mono ?_
      rintro e W5 ⟨R, bys, rfl, hR5, hlen, hb5, hRl, hs⟩
      have hs : Srch n l1 fl a2 a3 bys := hs
      have d6 := below_cell hb5 c6
      have d7 := below_cell hb5 c7
      have d12 := below_cell hb5 c12
      have h12 := (hb5.block _ (lt_of_block H12r.out)).trans H12r.out
      have hN5 := HN.out.below (hb5.mono hUr)
      have dR : W5.cell? ⟨R, a3.toNat, none⟩ = some (.int .i64 (rd bys a3)) := by
        have : a3.toNat < bys.length := by have := HG.out.t0; have := HG.out.t1; omega
        rw [blk_cell hR5]; simp [this, rd, List.getD]
      have f6 := cell_lt d6 (Obj.cells #[Value.slice (some ⟨R, 0, none⟩) n n] 23)
      have f7 := cell_lt d7 (Obj.cells #[Value.slice (some ⟨R, 0, none⟩) n n] 23)
      have f12 := cell_lt d12 (Obj.cells #[Value.slice (some ⟨R, 0, none⟩) n n] 23)
      have fR := cell_lt dR (Obj.cells #[Value.slice (some ⟨R, 0, none⟩) n n] 23)
      have h13 : (W5.alloc (Obj.cells #[Value.slice (some ⟨R, 0, none⟩) n n] 23)).heap[W5.heap.size]? = some (Obj.cells #[Value.slice (some ⟨R, 0, none⟩) n n] 23 (0, 0)) := heap_alloc_new _ _
      have f13 : (W5.alloc (Obj.cells #[Value.slice (some ⟨R, 0, none⟩) n n] 23)).cell? ⟨W5.heap.size, 0, none⟩ = some (.slice (some ⟨R, 0, none⟩) n n) := (blk_cell h13 0).trans rfl
      have hba : Below W5.heap.size W5 (W5.alloc (Obj.cells #[Value.slice (some ⟨R, 0, none⟩) n n] 23)) := below_alloc (Below.refl _ _) _
      have hU5 : U ≤ W5.heap.size := Nat.le_trans hUr hb5.size
      have hN6 := hN5.below (hba.mono hU5)
      have hR6 := (hba.block _ (lt_of_block hR5)).trans hR5
      have h12' := (hba.block _ (lt_of_block h12)).trans h12
      have HN6 := Aside0.mk hN6
      have HR6 := Aside0.mk hR6
      have H126 := Aside0.mk h12'
      have H136 := Aside0.mk h13
      have HS5 := Aside0.mk hs
      have HLN := Aside0.mk hlen
      have HRL := Aside0.mk hRl
      have HU5 := Aside0.mk hU5
      have HRW := Aside0.mk (lt_of_block hR5)
      have q0 := HG.out.t0
      have q1 := HG.out.t1
      clear hs hR5 hlen hb5 hRl h12 hN5 h13 hba hU5 hN6 hR6 h12' d6 d7 d12 dR c6 c7 c12 hUr HS
      by_cases hlt : rd bys a3 < 0
      · have b0 : decide (rd bys a3 < 0) = true := decide_eq_true hlt
        have HLT := Aside0.mk hlt
        clear hlt
        obtain ⟨cC, hcC⟩ : ∃ x, madeCells #[.bool false] n = x := ⟨_, rfl⟩
        have hmC : ∀ W : World, (Instr.makeSlice 24 (.int .i64 (n : Int)) (.int .i64 (n : Int))).run Try.prog W = .ok (.slice (some ⟨W.heap.size, 0, none⟩) n n) (W.alloc (.cells cC 4)) := fun W => by
          rw [← hcC]; exact run_make_row' 24 4 (.bool false) 1 Try.underlying24 info4 rfl .i64 .i64 n (by omega) (by omega) W
        have HCC := Aside0.mk hcC
        clear hcC
        go_wp2_with fail
        go_loopg [42] n (fun g v W => ∃ i : Nat, v = .int .i64 i ∧ i ≤ n ∧ Aside0 (Below (W5.heap.size + 1) (W5.alloc (Obj.cells #[Value.slice (some ⟨R, 0, none⟩) n n] 23)) W) ∧ Aside0 (∃ cs : Array Value, W.heap[W5.heap.size + 1]? = some (.cells cs 4 (0, 0)) ∧ cs.size = n ∧ ∀ j, j < i → cs[j]? = some (.bool (decide (0 ≤ rd bys j)))) ∧ Aside0 (g = n - i))
        case atStart =>
          have hb7 : Below (W5.heap.size + 1) (W5.alloc (Obj.cells #[Value.slice (some ⟨R, 0, none⟩) n n] 23)) ((W5.alloc (Obj.cells #[Value.slice (some ⟨R, 0, none⟩) n n] 23)).alloc (.cells cC 4)) := by
            have h := below_alloc (Below.refl (W5.alloc (Obj.cells #[Value.slice (some ⟨R, 0, none⟩) n n] 23)).heap.size (W5.alloc (Obj.cells #[Value.slice (some ⟨R, 0, none⟩) n n] 23))) (Obj.cells cC 4)
            rw [World.size_alloc] at h; exact h
          refine ⟨0, rfl, by omega, ⟨hb7⟩, ⟨⟨cC, blk2_1 _ _ _, by rw [← HCC.out]; simp [size_madeCells], fun j hj => by omega⟩⟩, ⟨by omega⟩⟩
        case round =>
          obtain ⟨i, rfl, hi, HB7, HCS, HGI⟩ := hrel
          have hu81 := Try.underlying81
          have hbw := HB7.out
          have e13 : wr.heap[W5.heap.size]? = some (Obj.cells #[Value.slice (some ⟨R, 0, none⟩) n n] 23 (0, 0)) := (hbw.block _ (by omega)).trans H136.out
          have eR : wr.heap[R]? = _ := (hbw.block _ (by have := HRW.out; omega)).trans HR6.out
          have eN := HN6.out.below (hbw.mono (by have := HU5.out; omega))
          have eG := (blk_cell eN.hG 1).trans (show _ = some vF from rfl)
          have e12 := (blk_cell ((hbw.block _ (by have := HU5.out; omega)).trans H126.out) 0).trans (show _ = some (Value.pointer (some ⟨G, 0, none⟩)) from rfl)
          by_cases hin : i < n
          · have b1 : decide (i < n) = true := decide_eq_true hin
            obtain ⟨cs, hcs, hcn, hcj⟩ := HCS.out
            have eRi : wr.cell? ⟨R, i, none⟩ = some (.int .i64 (rd bys i)) := by
              have : i < bys.length := by rw [HLN.out]; exact hin
              rw [blk_cell eR]; simp [this, rd, List.getD]
            have eC : ∃ v, wr.cell? ⟨W5.heap.size + 1, i, none⟩ = some v := by
              rw [blk_cell hcs]; exact ⟨_, Array.getElem?_eq_getElem (by omega)⟩
            obtain ⟨vC, eC⟩ := eC
            have zC := blk_frozen hcs i
            have HCN := Aside0.mk (And.intro hcs (And.intro hcn hcj))
            clear hbw e13 eR eN hcs hcn hcj
            go_wp2_with fail
            go_roundg (n - (i + 1))
            case measure => have := HGI.out; omega
            case rel =>
              obtain ⟨h1, h2, h3⟩ := HCN.out
              refine ⟨i + 1, by simp, by omega, ⟨HB7.out.setCell (p := ⟨W5.heap.size + 1, i, none⟩) (Nat.le_refl _) _⟩, ⟨⟨_, row_setCell h1 i _, by simp [h2], fun j hj => ?_⟩⟩, ⟨rfl⟩⟩
              by_cases e : j = i
              · subst e; simp [h2, hin]
              · rw [Array.getElem?_setIfInBounds_ne (fun h => e h.symm)]; exact h3 j (by omega)
          · have b1 : decide (i < n) = false := decide_eq_false hin
            have HNE := Aside0.mk eN
            clear hbw e13 eR eN
            go_wp2_with fail
            refine bodyPost_ret (results_tmp3 rfl _ _ _) rfl ?_
            obtain ⟨e1, e2⟩ := HO'.out fl (cutB bys) (HRUN.out fl (cutB bys) (.done HS5.out HLT.out))
            obtain rfl : i = n := by omega
            obtain ⟨cs, hcs, hcn, hcj⟩ := HCS.out
            have hcl : (cutB bys).length = i := by simp [cutB, HLN.out]
            have hle : w.heap.size ≤ W2.heap.size := HB.out.size
            have hw := HNE.out.hW
            have hu5 := HU5.out
            have hu2 : W2.heap.size ≤ U := Nat.le_of_lt (Nat.lt_of_le_of_lt HNE.out.hB HNE.out.hU)
            refine ⟨_, _, rfl, by rw [e1]; exact Kd.R_mono (Kd.R_lower HNE.out.hF hle) (fun _ _ => True.intro), ?_, below_step HB.out hw⟩
            rw [e2]
            refine Kd.R_of_own ⟨by simp [encs], .inr ⟨W5.heap.size + 1, i, cs, by rw [hcl]; rfl, by omega, hcs, by omega, by unfold maxLen; omega, by omega, ?_⟩⟩ (fun _ _ => True.intro)
            apply List.ext_getElem?
            intro j
            rw [hcl, Nat.mul_one, List.take_of_length_le (by simp [hcn]), Array.getElem?_toList]
            by_cases hj : j < i
            · rw [hcj j hj]
              have hj2 : j < bys.length := by rw [HLN.out]; exact hj
              simp [encs, cutB, hj2, rd, List.getD]
            · rw [Array.getElem?_eq_none (by omega)]
              exact (List.getElem?_eq_none (by show (encs Value.bool (cutB bys)).length ≤ j; unfold encs; rw [List.length_map, hcl]; omega)).symm
      · have b0 : decide (rd bys a3 < 0) = false := decide_eq_false hlt
        have HLT := Aside0.mk hlt
        clear hlt
        obtain ⟨p, hp⟩ := (srch_facts HG.out.ends HG.out.f0 HG.out.f1 HS5.out).2.2.1 a3 HG.out.t0 HG.out.t1 (by have := HLT.out; omega)
        have HP := Aside0.mk hp
        clear hp
        go_wp2_with fail
        have hJ : JB W2 U ((W5.alloc (Obj.cells #[Value.slice (some ⟨R, 0, none⟩) n n] 23)).alloc (Obj.cells #[Value.int .i64 1073741824] 3)) G A1 c1 l1 vF fl vA (adjG n l1) W5.heap.size (W5.heap.size + 1) R n bys 1073741824 := by
          have hb7 : Below (W5.alloc (Obj.cells #[Value.slice (some ⟨R, 0, none⟩) n n] 23)).heap.size (W5.alloc (Obj.cells #[Value.slice (some ⟨R, 0, none⟩) n n] 23)) ((W5.alloc (Obj.cells #[Value.slice (some ⟨R, 0, none⟩) n n] 23)).alloc (Obj.cells #[Value.int .i64 1073741824] 3)) := below_alloc (Below.refl _ _) _
          have u5 := HU5.out
          have hr := HRW.out
          exact {
            net := HN6.out.below (hb7.mono (by simp; omega))
            h12 := (hb7.block _ (lt_of_block H126.out)).trans H126.out
            h13 := (hb7.block _ (lt_of_block H136.out)).trans H136.out
            hL := blk2_1 _ _ _
            hR := (hb7.block _ (lt_of_block HR6.out)).trans HR6.out
            hlen := HLN.out
            u13 := u5
            uL := by omega
            uR := Nat.le_trans (Nat.le_of_lt (lt_of_block H12r.out)) HRL.out
            ne := by omega }
        refine (walk_least HG.out.ends HF.out hn4 J7.out J6.out HP.out hJ).mono ?_
        rintro e W8 ⟨rfl, hJ8⟩
        have HJ8 := Aside0.mk hJ8
        clear hJ hJ8
        go_wp2_with fail
        refine (walk_push HG.out.ends HF.out hn4 J7.out J6.out HP.out HJ8.out).mono ?_
        rintro e W9 ⟨rfl, hJ9⟩
        have HJ9 := Aside0.mk hJ9
        clear hJ9
        go_wp2_with fail
        go_roundg (FlowM.cap S61.f0 S61.f1 S61.f2 (fun v => decide (v = a2)) l1 - outsG l1 (aug fl p (leastP l1 fl p)) a2).toNat
        case measure =>
          have hg := HGG.out
          obtain ⟨h1, h2⟩ := flow_aug HG.out.ne HF.out HP.out
          have h3 := FlowM.weak (C := fun v => decide (v = a2)) (by omega) HG.out.ends h1 HG.out.f0 HG.out.f1 (by simp) (by simp; exact fun e => HG.out.ne e.symm)
          have h4 : FlowM.outs S61.f0 S61.f1 l1 (aug fl p (leastP l1 fl p)) a2 = outsG l1 (aug fl p (leastP l1 fl p)) a2 := rfl
          omega
        case rel => exact ⟨_, ⟨HJ9.out.net⟩, ⟨HJ9.out.h12⟩, ⟨(flow_aug HG.out.ne HF.out HP.out).1⟩, ⟨fun r c h => HRUN.out r c (.step HS5.out (by have := HLT.out; omega) HP.out h)⟩, ⟨rfl⟩⟩
  · have h := H.out
    rw [if_neg h0] at h
    simp only [Option.some.injEq, Prod.mk.injEq] at h
    obtain ⟨rfl, rfl, rfl⟩ := h
    have b0 : (e0 != 0) = true := by simp [h0]
    clear h0
    go_wp2_with fail
    refine bodyPost_ret (results_tmp3 rfl _ _ _) rfl ?_
    exact ⟨_, _, rfl, Kd.R_nil _ _ _ _ _, Kd.R_nil _ _ _ _ _, HB.out⟩
end Go.Proofs.Ytadeidhefjifaaa.Px
end
section
set_option linter.unusedVariables false
set_option linter.unusedSimpArgs false
namespace Go.Proofs.Ytadeidhefjifaaa.Px
open Go.RowKit Go.Proofs.YtadeidhefjifaaaW.PrintWords Go.Proofs.YtadeidhefjifaaaW.PrintLast Go.Proofs.YtadeidhefjifaaaW.PrintMore
theorem as113 (v : Value) (w : World) : (Instr.typeAssert (.iface 113 v) 20 113 true).run Try.prog w = .ok (.tuple #[v, .bool true]) w := by kernel_rfl
attribute [local go_sem] as113
/-- a panic with an error -/
def failV (e : Int) : Value := .iface 113 (.agg #[.int .i64 e])
set_option maxRecDepth 100000 in
theorem demand_ok (e : Int) (w : World) : Calls Try.prog 77 #[.bool true, .int .i64 e] w fun x w' => x = .returned (.tuple #[]) ∧ w' = w := by
  go_enter Try.func77, Try.ntmps77
  go_wp2_with fail
  go_end0
  exact ⟨rfl, rfl⟩
set_option maxRecDepth 100000 in
theorem demand_bad (e : Int) (w : World) : Calls Try.prog 77 #[.bool false, .int .i64 e] w fun x w' => x = .panicked [{ v := failV e, recovered := false }] ∧ w' = w := by
  have hu := Try.underlying113
  go_enter Try.func77, Try.ntmps77
  go_wp2_with fail
  exact ⟨rfl, rfl, rfl⟩
set_option maxRecDepth 100000 in
theorem caught_nil (p : Addr) (w : World) : Calls Try.prog 60 #[.nilIface, .pointer (some p)] w fun x w' => x = .returned (.tuple #[]) ∧ w' = w := by
  go_enter Try.func60, Try.ntmps60
  go_wp2_with fail
  go_end0
  exact ⟨rfl, rfl⟩
set_option maxRecDepth 100000 in
theorem caught_fail (g : Nat) (e x : Int) (w : World) (h : w.heap[g]? = some (.cells #[.int .i64 x] 27 (0, 0))) :
    Calls Try.prog 60 #[failV e, .pointer (some ⟨g, 0, none⟩)] w fun y w' => y = .returned (.tuple #[]) ∧ w' = (w.setCell ⟨g, 0, none⟩ (.int .i64 e)).alloc (.cells #[.int .i64 e] 113) := by
  have hu := Try.underlying113
  have hlt : g < w.heap.size := (Array.getElem?_eq_some_iff.1 h).1
  have h2 := (Below.heap_alloc w (.cells #[.int .i64 e] 113) g hlt).trans h
  have hz := blk_frozen h2 0
  have hc := (blk_cell h2 0).trans (show _ = some _ from rfl)
  clear h h2
  unfold failV
  go_enter Try.func60, Try.ntmps60
  go_wp2_with fail
  go_end0
  exact ⟨rfl, rfl⟩
/-- try, of no error -/
theorem try_ok (w : World) : Calls Try.prog 62 #[.int .i64 0] w fun x w' => x = .returned (.tuple #[]) ∧ w' = w := by
  go_enter Try.func62, Try.ntmps62
  go_wp2_with (go_at_call 77; refine (demand_ok 0 _).mono ?_; rintro y w' ⟨rfl, rfl⟩)
  go_end0
  exact ⟨rfl, rfl⟩
theorem try_bad (e : Int) (he : e ≠ 0) (w : World) : Calls Try.prog 62 #[.int .i64 e] w fun x w' => x = .panicked [{ v := failV e, recovered := false }] ∧ w' = w := by
  have b0 : (e == 0) = false := by simpa using he
  go_enter Try.func62, Try.ntmps62
  go_wp2_with (go_at_call 77; refine (demand_bad e _).mono ?_; rintro y w' ⟨rfl, rfl⟩)
  exact ⟨rfl, rfl, rfl⟩
/-- a function that may call recover, entered as a deferred call (every machine on the way is let in) -/
theorem callsDIn_of_wpS {n : Nat} {P : Program} {f : FuncId} {fn : Func} {c : Code} {args : Array Value} {u : FrameMode} {w : World} {R : Ending → FrameMode → World → Prop}
    (hf : P.funcs[f]? = some fn) (hb : fn.body = some c)
    (h : ∀ (c₀ : Frame) (cs : List Frame), c₀.mode = u → c.wpS P (bodyPostS P fn c₀ cs R) { tmps := args ++ Array.replicate (fn.ntmps - args.size) undef, defers := [] } (c₀ :: cs) w) :
    CallsDIn Fence.wide n P f args u w R := by
  refine ⟨trivial, fun c₀ cs hu _ => ?_⟩
  let b : Frame := { (default : Frame) with fn := f, kind := .deferred }
  have henter : Frame.enter P f args .deferred = b.at { tmps := args ++ Array.replicate (fn.ntmps - args.size) undef, defers := [] } [.code c] := by
    simp [Frame.enter, Frame.at, hf, hb, b]
  obtain ⟨e, a', cs', w', hq, harr⟩ := h c₀ cs hu b [] rfl rfl
  rw [← henter] at harr
  cases e with
  | normal =>
    obtain ⟨hd, u', rfl, v, hr, hR⟩ := hq
    exact ⟨.returned v, u', w', _, hR, comesIn_wide.2 (Steps.trans harr (.one step_end)), rfl, rfl, rfl, hd, fn, hf, hr⟩
  | ret =>
    obtain ⟨hd, u', rfl, v, hr, hR⟩ := hq
    obtain ⟨todo, hs⟩ := harr
    exact ⟨.returned v, u', w', _, hR, comesIn_wide.2 hs, rfl, rfl, rfl, hd, fn, hf, hr⟩
  | panic chain =>
    obtain ⟨hd, u', rfl, hR⟩ := hq
    obtain ⟨todo, hs⟩ := harr
    exact ⟨.panicked chain, u', w', _, hR, comesIn_wide.2 hs, rfl, rfl, rfl, hd, fn, hf⟩
  | exit id => exact hq.elim
  | goto l => exact hq.elim
  | outgrown =>
    obtain ⟨u', hR⟩ := hq
    exact ⟨.outgrown, u', w', b, hR, comesIn_wide.2 (harr.resolve_left (by simp [b])), rfl, rfl, trivial⟩
set_option maxRecDepth 100000 in
/-- the deferred call, of a call that returns -/
theorem defer_idle (p : Addr) (w : World) (n : Nat) :
    CallsDIn Fence.wide n Try.prog 59 #[.pointer (some p)] .returning w fun e u' w' => e = .returned (.tuple #[]) ∧ u' = .returning ∧ w' = w := by
  refine callsDIn_of_wpS Try.func59 rfl fun c₀ cs hu => ?_
  apply wpS_region
  simp [wpOpsS, go_sem, recoverD, hu, Try.ntmps59]
  refine (caught_nil p w).mono ?_
  rintro y w' ⟨rfl, rfl⟩
  cases c₀
  simp_all [bodyPostS, results, Try.results59, go_sem]
set_option maxRecDepth 100000 in
/-- .. of a call that panics with an error -/
theorem defer_fail (g : Nat) (e x : Int) (older : List PanicEntry) (w : World) (n : Nat) (h : w.heap[g]? = some (.cells #[.int .i64 x] 27 (0, 0))) :
    CallsDIn Fence.wide n Try.prog 59 #[.pointer (some ⟨g, 0, none⟩)] (.panicking ({ v := failV e, recovered := false } :: older)) w fun y u' w' => y = .returned (.tuple #[]) ∧ u' = .panicking ({ v := failV e, recovered := true } :: older) ∧
      w' = (w.setCell ⟨g, 0, none⟩ (.int .i64 e)).alloc (.cells #[.int .i64 e] 113) := by
  refine callsDIn_of_wpS Try.func59 rfl fun c₀ cs hu => ?_
  apply wpS_region
  simp [wpOpsS, go_sem, recoverD, hu, Try.ntmps59]
  refine (caught_fail g e x w h).mono ?_
  rintro y w' ⟨rfl, rfl⟩
  simp [bodyPostS, results, Try.results59, go_sem]
end Go.Proofs.Ytadeidhefjifaaa.Px
end
section
set_option linter.unusedVariables false
set_option linter.unusedSimpArgs false
namespace Go.Proofs.Ytadeidhefjifaaa.Px
open Go.RowKit Go.Shelf Go.Proofs.YtadeidhefjifaaaW.PrintWords Go.Proofs.YtadeidhefjifaaaW.PrintLast Go.Proofs.YtadeidhefjifaaaW.PrintMore
open L20 (usesOf uAll audV)
attribute [local go_sem] Oper.semAt_some
theorem RIn_app {α : Type} (d : Kd α) {F : Fence} {n : Nat} {W : World} {ops : Array Oper} {rest : List Oper} {o : Oper} {a : Act} {Q : Exit → Act → World → Prop}
    (t e : TypeId) (z : Value) (bytes : Nat) (ht : Try.prog.underlying t = some (.slice e)) (hinfo : (Try.prog.info? e).map (fun i => (i.zero, i.size, i.bytes)) = some (some z, d.sz, bytes)) (hz : z.cells.size = d.sz) (hs0 : 0 < d.sz) (hb0 : 0 < bytes)
    (hgd : o.guard = none) (s x : Operand) (hop : o.op = Op.call { callee := Callee.builtin Builtin.append, args := #[s, x], argTypes := #[t, t] })
    (B : Nat) (v : Value) (xs : List α) (p : α) (cs : List Value) (ok : Nat → Prop) (hs : a.eval s = v) (hx : a.eval x = .slice (some ⟨W.heap.size, 0, none⟩) 1 1) (hp : d.M W B (fun _ => False) p cs) (hfresh : ∀ k, W.heap.size ≤ k → ok k)
    (HO : Kd.R d e W B ok v xs) (hbase : B ≤ W.heap.size) (hl : (xs.length + 1) * bytes ≤ 140737488355328)
    (hK : ∀ v1 w1, Kd.R d e w1 B ok v1 (xs ++ [p]) → W.grownBy w1 v.ownBlock → (∃ A m c, v1 = .slice A m c) → wpListIn F n Try.prog ops Q rest (a.put o.dst v1) w1) :
    wpListIn F n Try.prog ops Q (o :: rest) a (W.alloc (.cells cs.toArray e)) := by
  obtain ⟨h0, inner, hown, hr⟩ := HO
  obtain ⟨i0, hi, hzz⟩ := Option.map_eq_some_iff.1 hinfo
  simp only [Prod.mk.injEq] at hzz
  obtain ⟨hz0, hz1, hz2⟩ := hzz
  have hlen : xs.length + 1 ≤ 140737488355328 := Nat.le_trans (Nat.le_mul_of_pos_right _ hb0) hl
  obtain ⟨v1, w1, hrun, hown1, hg, _, hat⟩ := run_append_own_at (P := Try.prog) (W.alloc (.cells cs.toArray e)) B t o.type e i0 z d.sz bytes ht hi hz0 hz1 hz2 hz hs0 v xs.length inner (hown.alloc _) ⟨W.heap.size, 0, none⟩ 1 1 cs (by rw [d.K_len (d.K_of_M hp)]; simp)
    (by simpa using World.news_of_block (cs := cs.toArray) (t := e) (fr := (0, 0)) (heap_alloc_new W (.cells cs.toArray e))) (d.K_one (d.K_of_M hp)) (by simp only [maxLen]; omega) hl (by simp; omega)
  have hg' : W.grownBy w1 v.ownBlock := World.grownBy.trans (World.grownBy_alloc W _ _) hg
  have hat' : v1.ownBlock = v.ownBlock ∨ ∃ b, v1.ownBlock = some b ∧ W.heap.size ≤ b := by
    rcases hat with hat | hat
    · exact .inl hat
    · exact .inr ⟨_, hat, by simp⟩
  have h1 := Kd.R_appended h0 hr hp (fun _ h => h.elim) hfresh hown1 hg' hat'
  refine wpListIn_plain hgd fun K hK' => ?_
  unfold Oper.wpIn
  refine ⟨?_, ?_⟩
  · simp [Oper.about, hop, resolve, Target.leads, Sem.run_pure]
  · rw [Oper.semAt_plain F _ _ (by rw [hop]; intro c hc'; cases hc')]
    simp [execOp, hop, resolve, invoke, builtin, hs, hx, hrun, Result.andThen]
    exact hK' _ _ (hK v1 w1 h1 hg' (by obtain ⟨A, c, e⟩ := Kd.R_slice h1; exact ⟨_, _, _, e⟩))
theorem set_farN {W : World} {k X i : Nat} {o : Obj} (h : W.heap[k]? = some o) (hne : k ≠ X) (u : Value) : (W.setCell ⟨X, i, none⟩ u).heap[k]? = some o := (Below.heap_setCell W ⟨X, i, none⟩ u k hne).trans h
/-- the world in the walk of Audit: the boxes, the flows, the cut, and the audit that is made -/
structure AX (w : World) (pv : Array Value) (F X : Nat) (vf vc v : Value) (m : Int) (fl : List Int) (c : List Bool) (W : World) : Prop where
  below : Below w.heap.size w W
  hp : W.heap[w.heap.size]? = some (.cells pv 41 (0, 0))
  ha : W.heap[w.heap.size + 1]? = some (.cells #[.slice none 0 0, .int .i64 0, .slice none 0 0] 48 (0, 0))
  he : W.heap[w.heap.size + 1 + 1]? = some (.cells #[.int .i64 0] 27 (0, 0))
  hf : W.heap[F]? = some (.cells #[vf] 23 (0, 0))
  hx : W.heap[X]? = some (.cells #[v, .int .i64 m, vc] 48 (0, 0))
  l1 : w.heap.size + 1 + 1 < F
  l2 : F < X
  rf : Kd.R (Kd.int .i64) 3 W w.heap.size (fun k => k < F) vf fl
  rc : Kd.R Kd.bool 4 W w.heap.size (fun k => k < F) vc c
section
variable {w W W' : World} {pv : Array Value} {F X T : Nat} {vf vc v v1 : Value} {m m' at_ at' : Int} {fl : List Int} {c : List Bool} {us us' : List S57}
theorem AX.keep (h : AX w pv F X vf vc v m fl c W) (hb : Below w.heap.size w W') (hk : ∀ k, k ≤ X → k < W.heap.size → W'.heap[k]? = W.heap[k]?) : AX w pv F X vf vc v m fl c W' := by
  have h1 := h.l1
  have h2 := h.l2
  have hX := blk_lt h.hx
  exact ⟨hb, (hk _ (by omega) (blk_lt h.hp)).trans h.hp, (hk _ (by omega) (blk_lt h.ha)).trans h.ha, (hk _ (by omega) (blk_lt h.he)).trans h.he, (hk _ (by omega) (blk_lt h.hf)).trans h.hf, (hk _ (by omega) hX).trans h.hx, h1, h2,
    Kd.R_step h.rf (fun k hk' hlt => hk k (by omega) hlt), Kd.R_step h.rc (fun k hk' hlt => hk k (by omega) hlt)⟩
theorem AX.after (h : AX w pv F X vf vc v m fl c W) (hb : Below W.heap.size W W') : AX w pv F X vf vc v m fl c W' :=
  h.keep (below_step h.below hb) fun k _ hlt => hb.block k hlt
theorem AX.put (h : AX w pv F X vf vc v m fl c W) (m' : Int) : AX w pv F X vf vc v m' fl c (W.setCell ⟨X, 1, none⟩ (.int .i64 m')) := by
  have h1 := h.l1
  have h2 := h.l2
  refine ⟨h.below.setCell (p := ⟨X, 1, none⟩) (by show w.heap.size ≤ X; omega) _, set_farN h.hp (by omega) _, set_farN h.ha (by omega) _, set_farN h.he (by omega) _, set_farN h.hf (by omega) _, row_setCell h.hx 1 _, h1, h2,
    Kd.R_far h.rf (fun k hk => by show k ≠ X; omega) _, Kd.R_far h.rc (fun k hk => by show k ≠ X; omega) _⟩
theorem AX.put0 (h : AX w pv F X vf vc v m fl c W) (v1 : Value) : AX w pv F X vf vc v1 m fl c (W.setCell ⟨X, 0, none⟩ v1) := by
  have h1 := h.l1
  have h2 := h.l2
  refine ⟨h.below.setCell (p := ⟨X, 0, none⟩) (by show w.heap.size ≤ X; omega) _, set_far h.hp (by omega) _, set_far h.ha (by omega) _, set_far h.he (by omega) _, set_far h.hf (by omega) _, row_setCell h.hx 0 _, h1, h2,
    Kd.R_far h.rf (fun k hk => by show k ≠ X; omega) _, Kd.R_far h.rc (fun k hk => by show k ≠ X; omega) _⟩
/-- .. with the place in the flows, and the uses -/
structure AE (w : World) (pv : Array Value) (F X T : Nat) (vf vc v : Value) (m : Int) (fl : List Int) (c : List Bool) (at_ : Int) (us : List S57) (W : World) : Prop where
  ax : AX w pv F X vf vc v m fl c W
  ht : W.heap[T]? = some (.cells #[.int .i64 at_] 3 (0, 0))
  l3 : X < T
  row : Kd.R k57 57 W w.heap.size (fun k => T < k) v us
theorem AE.after (h : AE w pv F X T vf vc v m fl c at_ us W) (hb : Below W.heap.size W W') : AE w pv F X T vf vc v m fl c at_ us W' :=
  ⟨h.ax.after hb, (hb.block _ (blk_lt h.ht)).trans h.ht, h.l3, Kd.R_below h.row hb⟩
theorem AE.tick (h : AE w pv F X T vf vc v m fl c at_ us W) (at' : Int) : AE w pv F X T vf vc v m fl c at' us (W.setCell ⟨T, 0, none⟩ (.int .i64 at')) := by
  have h1 := h.ax.l1
  have h2 := h.ax.l2
  have h3 := h.l3
  exact ⟨h.ax.keep (h.ax.below.setCell (p := ⟨T, 0, none⟩) (by show w.heap.size ≤ T; omega) _) (fun k hk _ => Below.heap_setCell W ⟨T, 0, none⟩ _ k (by show k ≠ T; omega)), set_own h.ht _, h3, Kd.R_far h.row (fun k hk => by show k ≠ T; omega) _⟩
theorem AE.own (h : AE w pv F X T vf vc v m fl c at_ us W) {row : Option Nat} (hg : W.grownBy W' row)
    (hr : ∀ r, row = some r → w.heap.size ≤ r ∧ ∃ o : Obj, W.heap[r]? = some o ∧ o.isCells = false) : AE w pv F X T vf vc v m fl c at_ us W' := by
  have hk : ∀ (k : Nat) (cs : Array Value) (t : TypeId), W.heap[k]? = some (.cells cs t (0, 0)) → W'.heap[k]? = some (.cells cs t (0, 0)) := fun k cs t hc =>
    (hg.block k (blk_lt hc) (fun e => by obtain ⟨_, o, ho, hno⟩ := hr k e.symm; rw [hc] at ho; cases ho; cases hno)).trans hc
  have hR : ∀ {α : Type} (d : Kd α) (t : Nat) (ok : Nat → Prop) (u : Value) (xs : List α), Kd.R d t W w.heap.size ok u xs → Kd.R d t W' w.heap.size ok u xs := fun d t ok u xs hh =>
    Kd.R_mono (Kd.R_step (Kd.R_bound hh) (fun k hk' _ => by
      obtain ⟨_, _, _, t', _, cs, hcs⟩ := hk'
      exact (hk k cs t' hcs).trans hcs.symm)) (fun _ hk' => hk'.1)
  have hb : Below w.heap.size w W' := h.ax.below.grown hg h.ax.below.size (fun k e => (hr k e).1)
  exact ⟨⟨hb, hk _ _ _ h.ax.hp, hk _ _ _ h.ax.ha, hk _ _ _ h.ax.he, hk _ _ _ h.ax.hf, hk _ _ _ h.ax.hx, h.ax.l1, h.ax.l2, hR _ _ _ _ _ h.ax.rf, hR _ _ _ _ _ h.ax.rc⟩, hk _ _ _ h.ht, h.l3, hR _ _ _ _ _ h.row⟩
/-- the uses have grown, and are stored -/
theorem AE.put (h : AE w pv F X T vf vc v m fl c at_ us W) (hg : W.grownBy W' v.ownBlock) (hr : Kd.R k57 57 W' w.heap.size (fun k => T < k) v1 us') (m' : Int) :
    AE w pv F X T vf vc v1 m' fl c at_ us' ((W'.setCell ⟨X, 0, none⟩ v1).setCell ⟨X, 1, none⟩ (.int .i64 m')) := by
  have h1 := h.ax.l1
  have h2 := h.ax.l2
  have h3 := h.l3
  have hne : ∀ k, k ≤ T → some k ≠ v.ownBlock := fun k hk e => by have := h.row.1 k e.symm; omega
  have hb := h.ax.below.grown hg h.ax.below.size (fun k e => by have := h.row.1 k e; omega)
  have hax := ((h.ax.keep hb (fun k hk hlt => hg.block k hlt (hne k (by omega)))).put0 v1).put m'
  refine ⟨hax, set_farN (set_farN ((hg.block _ (blk_lt h.ht) (hne T (Nat.le_refl _))).trans h.ht) (by omega) _) (by omega) _, h3, ?_⟩
  exact Kd.R_far (p := ⟨X, 1, none⟩) (Kd.R_far (p := ⟨X, 0, none⟩) hr (fun k hk => by show k ≠ X; omega) _) (fun k hk => by show k ≠ X; omega) _
theorem AE.round1 (h : AE w pv F X T vf vc v m fl c at_ us W) (u : Value) : (∀ N, KeepsFrom N W (W.setCell ⟨T, 0, none⟩ u)) ∧ KpQ w.heap.size (fun k => k = X ∨ k = T) W (W.setCell ⟨T, 0, none⟩ u) := by
  have h1 := h.ax.l1
  have h2 := h.ax.l2
  have h3 := h.l3
  exact ⟨fun N => (KeepsOthers.setCell _ _ _).from N, (Below.refl w.heap.size W).setCell (p := ⟨T, 0, none⟩) (by show w.heap.size ≤ T; omega) _, fun k cs t hk _ _ hc => set_far hc (fun e => hk (.inr e)) _⟩
theorem AE.round2 (h : AE w pv F X T vf vc v m fl c at_ us W) (hg : W.grownBy W' v.ownBlock) (u1 u2 : Value) : (∀ N, KeepsFrom N W ((W'.setCell ⟨X, 0, none⟩ u1).setCell ⟨X, 1, none⟩ u2)) ∧ KpQ w.heap.size (fun k => k = X ∨ k = T) W ((W'.setCell ⟨X, 0, none⟩ u1).setCell ⟨X, 1, none⟩ u2) := by
  have h1 := h.ax.l1
  have h2 := h.ax.l2
  have hb := (Kd.R_bound h.row).1
  have ht : ∀ k, v.ownBlock = some k → w.heap.size ≤ k ∧ ∃ cs, W.heap[k]? = some (.cells cs 57 (0, 0)) := fun k hk => by
    obtain ⟨_, h1, _, q, hq, cs, hcs⟩ := hb k hk
    have : q = 57 := List.mem_singleton.1 (show q ∈ [57] from hq)
    subst this; exact ⟨h1, cs, hcs⟩
  refine ⟨fun N => (((KeepsOthers.of_grownBy hg (fun j o hj ho => by obtain ⟨_, cs, hcs⟩ := ht j hj; rw [hcs] at ho; cases ho; rfl)).trans (KeepsOthers.setCell _ _ _)).trans (KeepsOthers.setCell _ _ _)).from N, ?_, ?_⟩
  · exact (((Below.refl w.heap.size W).grown hg h.ax.below.size (fun k e => (ht k e).1)).setCell (p := ⟨X, 0, none⟩) (by show w.heap.size ≤ X; omega) _).setCell (p := ⟨X, 1, none⟩) (by show w.heap.size ≤ X; omega) _
  · intro k cs t hk h61 h57 hc
    have : some k ≠ v.ownBlock := fun e => by obtain ⟨_, cs', hcs⟩ := ht k e.symm; rw [hcs] at hc; cases hc; exact h57 rfl
    exact set_farN (set_farN ((hg.block k (blk_lt hc) this).trans hc) (fun e => hk (.inl e)) _) (fun e => hk (.inl e)) _
end
/-- what Audit's answer is made of -/
theorem aud_open {n u e mn md : Int} {q : List S92} {l : List S44} (ha : askV n u e mn md q l = 0) (hl : l.length ≤ 100) {us : List S57} {m er : Int} {c : List Bool} (h : audV n u e mn md q l = (us, m, c, er)) :
    ∃ fl, flow_Max.f 1 (2 + (l.length : Int) + (q.length : Int)) (netE q l u) 0 (1 + (l.length : Int) + (q.length : Int)) = some (fl, c, 0) ∧ us = usesOf (prsTo q l l.length) (fl.drop l.length) ∧ m = lessL (totV q) (us.map S57.f2) ∧ er = 0 ∧ fl.length = l.length + (prsTo q l l.length).length + q.length := by
  obtain ⟨g1, g2, G⟩ := L20.gd_of ha
  obtain ⟨fl, c', hm, ho, hc⟩ := max_good 0 _ _ _ _ (L20.net_good G hl)
  have hr : runOut (2 + l.length + q.length) (netE q l u) 0 (1 + (l.length : Int) + (q.length : Int)) = (fl, c') := by
    have hm := hm
    unfold flow_Max.f at hm
    rw [check_good, if_pos (L20.net_good G hl)] at hm
    simp only [Option.bind_some, if_true, Option.some.injEq, Prod.mk.injEq] at hm
    rw [show (2 + (l.length : Int) + (q.length : Int)).toNat = 2 + l.length + q.length by omega] at hm
    exact Prod.ext hm.1 hm.2.1
  unfold audV at h
  rw [if_pos ha, hr] at h
  simp only [Prod.mk.injEq] at h
  obtain ⟨h1, h2, rfl, rfl⟩ := h
  obtain ⟨f1, f2, f3, f4, f5, f6⟩ := L20.flow_uses G hl ho
  exact ⟨fl, hm, h1.symm, by rw [← h2, h1], rfl, f6⟩
set_option maxRecDepth 100000 in
set_option maxHeartbeats 4000000 in
theorem audit_in (s0 : ByteArray) (i1 pu i3 i4 i5 : Int) (Aq : Option Addr) (cq : Nat) (q : List S92) (A1 : Option Addr) (c1 : Nat) (l : List S44) (w : World) (hq : Kd.C k92 w Aq q.length q) (hcq : q.length ≤ cq) (hl : Kd.C k44 w A1 l.length l) (hcl : l.length ≤ c1) (hl100 : l.length ≤ 100) (us : List S57) (m er : Int) (c : List Bool) (haud : audV i1 pu i3 i4 i5 q l = (us, m, c, er)) :
    CallsIn Fence.wide 3 Try.prog 32 #[.agg #[.string s0, .int .i64 i1, .int .i64 pu, .int .i64 i3, .int .i64 i4, .int .i64 i5, .slice Aq q.length cq], .slice A1 l.length c1] w
      fun e w' => ∃ v0 v2, e = .returned (.tuple #[.agg #[v0, .int .i64 m, v2], .int .i64 er]) ∧ Kd.R k57 57 w' w.heap.size (fun _ => True) v0 us ∧ Kd.R Kd.bool 4 w' w.heap.size (fun _ => True) v2 c ∧ Below w.heap.size w w' := by
  have hu41 := Try.underlying41
  have hu48 := Try.underlying48
  have hu92 := Try.underlying92
  have hu44 := Try.underlying44
  have hu57 := Try.underlying57
  have HQ := Aside0.mk hq
  have HL := Aside0.mk hl
  have HAUD := Aside0.mk haud
  have HB := Aside0.mk (show ∀ o o' o'', Below w.heap.size w (((w.alloc o).alloc o').alloc o'') from fun o o' o'' => below_alloc (below_alloc (below_alloc (Below.refl _ _) o) o') o'')
  have HNW := Aside0.mk (show ∀ W, Below w.heap.size w W → CallsIn Fence.wide 2 Try.prog 61 #[.agg #[.string s0, .int .i64 i1, .int .i64 pu, .int .i64 i3, .int .i64 i4, .int .i64 i5, .slice Aq q.length cq], .slice A1 l.length c1] W fun e w' => (askV i1 pu i3 i4 i5 q l ≠ 0 → e = .returned (.tuple #[.int .i64 0, .slice none 0 0, .int .i64 (askV i1 pu i3 i4 i5 q l)])) ∧
        (askV i1 pu i3 i4 i5 q l = 0 → ∃ v, e = .returned (.tuple #[.int .i64 (2 + (l.length : Int) + (q.length : Int)), v, .int .i64 0]) ∧ Kd.Q k61 61 w' W.heap.size (fun _ => True) v (netE q l pu)) ∧ Below W.heap.size W w' from fun W hb => callsIn_wide.2 (callsIn_wide.1 (network_in s0 i1 pu i3 i4 i5 Aq cq q A1 c1 l W (Kd.C_below hq hb) hcq (Kd.C_below hl hb) hcl hl100)))
  clear hq hl haud
  refine callsIn_of_wp_marks Try.func32 rfl trivial ?_ rfl
  simp only [Try.ntmps32, List.size_toArray, List.length_cons, List.length_nil, Nat.reduceAdd, Nat.reduceSub, Array.replicate_succ, Array.replicate_zero, List.push_toArray, List.append_toArray, List.nil_append, List.cons_append]
  gi_wp2_with fail
  refine ⟨trivial, (HNW.out _ (HB.out _ _ _)).mono ?_⟩
  rintro e W1 ⟨hbad, hgood, hb1⟩
  have z0 : W1.heap[w.heap.size]? = some (.cells #[.string s0, .int .i64 i1, .int .i64 pu, .int .i64 i3, .int .i64 i4, .int .i64 i5, .slice Aq q.length cq] 41 (0, 0)) := (hb1.block _ (by simp <;> omega)).trans ((Below.heap_alloc _ _ _ (by simp <;> omega)).trans ((Below.heap_alloc _ _ _ (by simp)).trans (heap_alloc_new w _)))
  have z1 : W1.heap[w.heap.size + 1]? = some (.cells #[.slice none 0 0, .int .i64 0, .slice none 0 0] 48 (0, 0)) := (hb1.block _ (by simp)).trans ((Below.heap_alloc _ _ _ (by simp)).trans (by have h_ := heap_alloc_new (w.alloc (Obj.cells #[.string s0, .int .i64 i1, .int .i64 pu, .int .i64 i3, .int .i64 i4, .int .i64 i5, .slice Aq q.length cq] 41)) (Obj.cells #[.slice none 0 0, .int .i64 0, .slice none 0 0] 48); rw [World.size_alloc] at h_; exact h_))
  have z2 : W1.heap[w.heap.size + 1 + 1]? = some (.cells #[.int .i64 0] 27 (0, 0)) := (hb1.block _ (by simp)).trans (by have h_ := heap_alloc_new ((w.alloc (Obj.cells #[.string s0, .int .i64 i1, .int .i64 pu, .int .i64 i3, .int .i64 i4, .int .i64 i5, .slice Aq q.length cq] 41)).alloc (Obj.cells #[.slice none 0 0, .int .i64 0, .slice none 0 0] 48)) (Obj.cells #[.int .i64 0] 27); simp only [World.size_alloc] at h_; exact h_)
  have hB1 : Below w.heap.size w W1 := (HB.out _ _ _).trans (hb1.mono (HB.out _ _ _).size)
  have Z0 := Aside0.mk z0
  have Z1 := Aside0.mk z1
  have Z2 := Aside0.mk z2
  have HB1 := Aside0.mk hB1
  have d2 := (blk_cell z2 0).trans (show _ = some _ from rfl)
  have g2 := blk_frozen z2 0
  clear hb1 HB HNW z0 z1 z2 hB1
  by_cases ha : askV i1 pu i3 i4 i5 q l = 0
  case neg =>
    obtain rfl := hbad ha
    have hv := HAUD.out
    unfold audV at hv
    rw [if_neg ha] at hv
    simp only [Prod.mk.injEq] at hv
    obtain ⟨rfl, rfl, rfl, hv⟩ := hv
    rw [hv] at ha ⊢
    have HNE := Aside0.mk ha
    clear ha hbad hgood hv HAUD
    gi_wp2_with fail
    refine ⟨trivial, (callsIn_wide.2 (try_bad er HNE.out _)).mono ?_⟩
    rintro e W2 ⟨rfl, rfl⟩
    have e0 := set_far Z0.out (show w.heap.size ≠ w.heap.size + 1 + 1 by omega) (.int .i64 er)
    have e1 := set_far Z1.out (show w.heap.size + 1 ≠ w.heap.size + 1 + 1 by omega) (.int .i64 er)
    have e2 := set_own Z2.out (.int .i64 er)
    have b2 := HB1.out.setCell (p := ⟨w.heap.size + 1 + 1, 0, none⟩) (by show w.heap.size ≤ w.heap.size + 1 + 1; omega) (.int .i64 er)
    obtain ⟨W3, hW3⟩ : ∃ W3, W1.setCell ⟨w.heap.size + 1 + 1, 0, none⟩ (.int .i64 er) = W3 := ⟨_, rfl⟩
    rw [hW3] at e0 e1 e2 b2 ⊢
    refine ⟨by simp, .inr ⟨(fun h => by cases h), Fn.func 59, #[.pointer (some ⟨w.heap.size + 1 + 1, 0, none⟩)], 59, #[.pointer (some ⟨w.heap.size + 1 + 1, 0, none⟩)], rfl, rfl, fun _ _ => trivial, (defer_fail (w.heap.size + 1 + 1) er er [] W3 2 e2).mono ?_⟩⟩
    rintro y u' w' ⟨rfl, rfl, rfl⟩
    have k1 := (Below.heap_alloc _ (.cells #[.int .i64 er] 113) _ (blk_lt (set_far e1 (show w.heap.size + 1 ≠ w.heap.size + 1 + 1 by omega) (.int .i64 er)))).trans (set_far e1 (show w.heap.size + 1 ≠ w.heap.size + 1 + 1 by omega) (.int .i64 er))
    have k2 := (Below.heap_alloc _ (.cells #[.int .i64 er] 113) _ (blk_lt (set_own e2 (.int .i64 er)))).trans (set_own e2 (.int .i64 er))
    have b3 : Below w.heap.size w ((W3.setCell ⟨w.heap.size + 1 + 1, 0, none⟩ (.int .i64 er)).alloc (.cells #[.int .i64 er] 113)) := (b2.setCell (p := ⟨w.heap.size + 1 + 1, 0, none⟩) (by show w.heap.size ≤ w.heap.size + 1 + 1; omega) (.int .i64 er)).alloc (by have := b2.size; simpa using this) _
    obtain ⟨W4, hW4⟩ : ∃ W4, (W3.setCell ⟨w.heap.size + 1 + 1, 0, none⟩ (.int .i64 er)).alloc (.cells #[.int .i64 er] 113) = W4 := ⟨_, rfl⟩
    rw [hW4] at k1 k2 b3 ⊢
    have r10 := (blk_cell k1 0).trans (show _ = some _ from rfl)
    have r11 := (blk_cell k1 1).trans (show _ = some _ from rfl)
    have r12 := (blk_cell k1 2).trans (show _ = some _ from rfl)
    have r2 := (blk_cell k2 0).trans (show _ = some _ from rfl)
    refine ⟨.tuple #[.agg #[.slice none 0 0, .int .i64 0, .slice none 0 0], .int .i64 er], ?_, .slice none 0 0, .slice none 0 0, rfl, Kd.R_nil _ _ _ _ _, Kd.R_nil _ _ _ _ _, b3⟩
    have hr : Try.f32.results = #[.cell 4 48, .cell 5 27] := rfl
    have hu := Try.underlying27
    simp [results, hr, go_sem, r10, r11, r12, r2, hu, hu48, loadVar]
  obtain ⟨v, rfl, hQ⟩ := hgood ha
  obtain ⟨fl, hmx, hus, hmm, rfl, hfl⟩ := aud_open ha hl100 HAUD.out
  obtain ⟨Av, cv, rfl, hle⟩ := Kd.Q_slice hQ
  have HC := Aside0.mk (Kd.Q_reads' (Kd.Q_set hQ Z2.out (fun t ht => by have : t = 61 := List.mem_singleton.1 ht; omega) 0 (.int .i64 0))).2.2
  have HMX := Aside0.mk hmx
  have HUS := Aside0.mk hus
  have HMM := Aside0.mk hmm
  have HFL := Aside0.mk hfl
  have HLE := Aside0.mk hle
  have HQ64 := Aside0.mk (ask_len ha)
  have hq64 : (q.length : Int) ≤ 64 := by have := ask_len ha; omega
  have hl100' : (l.length : Int) ≤ 100 := by omega
  clear hbad hgood hQ hmx hus hmm hfl ha HAUD hle
  have e2 := set_own Z2.out (.int .i64 0)
  have e1 := set_far Z1.out (show w.heap.size + 1 ≠ w.heap.size + 1 + 1 by omega) (.int .i64 0)
  have e0 := set_far Z0.out (show w.heap.size ≠ w.heap.size + 1 + 1 by omega) (.int .i64 0)
  have b2 := HB1.out.setCell (p := ⟨w.heap.size + 1 + 1, 0, none⟩) (by show w.heap.size ≤ w.heap.size + 1 + 1; omega) (.int .i64 0)
  gi_wp2_with fail
  refine ⟨trivial, (callsIn_wide.2 (try_ok _)).mono ?_⟩
  rintro e W2 ⟨rfl, rfl⟩
  gi_wp2_with fail
  rw [show 2 + (l.length : Int) + (q.length : Int) - 1 = 1 + (l.length : Int) + (q.length : Int) by omega]
  obtain ⟨W3, hW3⟩ : ∃ W3, W1.setCell ⟨w.heap.size + 1 + 1, 0, none⟩ (.int .i64 0) = W3 := ⟨_, rfl⟩
  have hC3 := HC.out
  rw [hW3] at e0 e1 e2 b2 hC3 ⊢
  refine ⟨trivial, (callsIn_wide.2 (flow_Max.calls 1 _ Av cv (netE q l pu) 0 _ fl c 0 W3 hC3 HLE.out HMX.out)).mono ?_⟩
  rintro e W4 ⟨vf, vc, rfl, hvf, hvc, hb4⟩
  obtain ⟨Af, cf, rfl⟩ := Kd.R_slice hvf
  obtain ⟨Ac, cc, rfl⟩ := Kd.R_slice hvc
  have k0 := (hb4.block _ (blk_lt e0)).trans e0
  have k1 := (hb4.block _ (blk_lt e1)).trans e1
  have k2 := (hb4.block _ (blk_lt e2)).trans e2
  have b4 := (below_step b2 hb4).setCell (p := ⟨w.heap.size + 1 + 1, 0, none⟩) (by show w.heap.size ≤ w.heap.size + 1 + 1; omega) (.int .i64 0)
  have hl3 : w.heap.size + 1 + 1 < W3.heap.size := blk_lt e2
  have rf4 : Kd.R (Kd.int .i64) 3 (W4.setCell ⟨w.heap.size + 1 + 1, 0, none⟩ (.int .i64 0)) w.heap.size (fun k => k < W4.heap.size) (.slice Af fl.length cf) fl := Kd.R_lower (Kd.R_mono (Kd.R_far (p := ⟨w.heap.size + 1 + 1, 0, none⟩) (Kd.R_bound hvf) (fun k hk => by show k ≠ w.heap.size + 1 + 1; have := hk.2.1; omega) (.int .i64 0)) (fun k hk => hk.2.2.1)) b2.size
  have rc4 : Kd.R Kd.bool 4 (W4.setCell ⟨w.heap.size + 1 + 1, 0, none⟩ (.int .i64 0)) w.heap.size (fun k => k < W4.heap.size) (.slice Ac c.length cc) c := Kd.R_lower (Kd.R_mono (Kd.R_far (p := ⟨w.heap.size + 1 + 1, 0, none⟩) (Kd.R_bound hvc) (fun k hk => by show k ≠ w.heap.size + 1 + 1; have := hk.2.1; omega) (.int .i64 0)) (fun k hk => hk.2.2.1)) b2.size
  have d2' := (blk_cell k2 0).trans (show _ = some _ from rfl)
  have g2' := blk_frozen k2 0
  have l2 := blk_lt k2
  have k0' := set_far k0 (show w.heap.size ≠ w.heap.size + 1 + 1 by omega) (.int .i64 0)
  have k1' := set_far k1 (show w.heap.size + 1 ≠ w.heap.size + 1 + 1 by omega) (.int .i64 0)
  have k2' := set_own k2 (.int .i64 0)
  obtain ⟨F, hF⟩ : ∃ F, W4.heap.size = F := ⟨_, rfl⟩
  have hF' : (W4.setCell ⟨w.heap.size + 1 + 1, 0, none⟩ (.int .i64 0)).heap.size = F := by rw [← hF]; simp
  rw [hF] at rf4 rc4
  have hax : ∀ X W6, Below F (W4.setCell ⟨w.heap.size + 1 + 1, 0, none⟩ (.int .i64 0)) W6 → W6.heap[F]? = some (.cells #[.slice Af fl.length cf] 23 (0, 0)) → W6.heap[X]? = some (.cells #[.slice none 0 0, .int .i64 0, .slice Ac c.length cc] 48 (0, 0)) → F < X → AX w #[.string s0, .int .i64 i1, .int .i64 pu, .int .i64 i3, .int .i64 i4, .int .i64 i5, .slice Aq q.length cq] F X (.slice Af fl.length cf) (.slice Ac c.length cc) (.slice none 0 0) 0 fl c W6 := fun X W6 h6 hf hx hFX => by
    have h6' : Below (W4.setCell ⟨w.heap.size + 1 + 1, 0, none⟩ (.int .i64 0)).heap.size (W4.setCell ⟨w.heap.size + 1 + 1, 0, none⟩ (.int .i64 0)) W6 := by rw [hF']; exact h6
    exact ⟨below_step b4 h6', (h6'.block _ (blk_lt k0')).trans k0', (h6'.block _ (blk_lt k1')).trans k1', (h6'.block _ (blk_lt k2')).trans k2', hf, hx, by omega, hFX, Kd.R_below rf4 h6', Kd.R_below rc4 h6'⟩
  have hF1 : w.heap.size + 1 + 1 ≠ F := by omega
  have hF2 : F ≠ w.heap.size + 1 + 1 := by omega
  have hF3 : w.heap.size + 1 + 1 < F := by omega
  have HAX := Aside0.mk hax
  have K2 := Aside0.mk k2
  have HF' := Aside0.mk hF'
  clear hvf hvc hb4 e0 e1 e2 b2 k0 k1 b4 rf4 rc4 hC3 hax k2 d2 g2 k0' k1' k2' hl3 hF' Z0 Z1 Z2 HB1 HC HMX
  gi_wp2_with fail
  refine ⟨trivial, (callsIn_wide.2 (try_ok _)).mono ?_⟩
  rintro e W5 ⟨rfl, rfl⟩
  obtain ⟨W5, hW5⟩ : ∃ W5, (W4.setCell ⟨w.heap.size + 1 + 1, 0, none⟩ (.int .i64 0)).alloc (.cells #[.slice Af fl.length cf] 23) = W5 := ⟨_, rfl⟩
  have h5F : W5.heap[F]? = some (.cells #[.slice Af fl.length cf] 23 (0, 0)) := by
    rw [← hW5, ← HF'.out]; exact heap_alloc_new _ _
  have hb5 : Below F (W4.setCell ⟨w.heap.size + 1 + 1, 0, none⟩ (.int .i64 0)) W5 := by
    rw [← hW5, ← HF'.out]; exact below_alloc (Below.refl _ _) _
  have hs5 : W5.heap.size = F + 1 := by rw [← hW5, ← HF'.out]; simp
  have HW5 := Aside0.mk (show AX w #[.string s0, .int .i64 i1, .int .i64 pu, .int .i64 i3, .int .i64 i4, .int .i64 i5, .slice Aq q.length cq] F (F + 1) (.slice Af fl.length cf) (.slice Ac c.length cc) (.slice none 0 0) 0 fl c (W5.alloc (.cells #[.slice none 0 0, .int .i64 0, .slice Ac c.length cc] 48)) from by
    have hba : Below W5.heap.size W5 (W5.alloc (.cells #[.slice none 0 0, .int .i64 0, .slice Ac c.length cc] 48)) := below_alloc (Below.refl _ _) _
    refine HAX.out (F + 1) _ (hb5.trans (hba.mono (by omega))) ((hba.block _ (blk_lt h5F)).trans h5F) ?_ (by omega)
    rw [← hs5]; exact heap_alloc_new _ _)
  rw [hW5]
  have l0 : w.heap.size < W5.heap.size := by have := HW5.out.l1; omega
  have p6 : W5.cell? ⟨w.heap.size, 6, none⟩ = some (.slice Aq q.length cq) := by
    have h0 := HW5.out.hp
    rw [Below.heap_alloc _ _ _ l0] at h0
    exact (blk_cell h0 6).trans rfl
  have l01 : w.heap.size < F + 1 := by omega
  have l02 : w.heap.size ≠ F + 1 := by omega
  have p6' : (W5.alloc (.cells #[.slice none 0 0, .int .i64 0, .slice Ac c.length cc] 48)).cell? ⟨w.heap.size, 6, none⟩ = some (.slice Aq q.length cq) := (blk_cell HW5.out.hp 6).trans rfl
  clear hW5 hb5 h5F d2' g2' l2 hF1 hF2 hF3 HAX HF' K2 hF
  gi_wp2_with fail
  clear p6 p6' l0 l01 l02
  gi_loopw [43] (fun i wr => ∃ k : Nat, k ≤ q.length ∧ i = .int .i64 k ∧ ∃ mm : Int, Aside0 ((q.drop k).foldl (fun n x => wrap64 (n + x.f1)) mm = totV q) ∧ Aside0 (AX w #[.string s0, .int .i64 i1, .int .i64 pu, .int .i64 i3, .int .i64 i4, .int .i64 i5, .slice Aq q.length cq] F (F + 1) (.slice Af fl.length cf) (.slice Ac c.length cc) (.slice none 0 0) mm fl c wr)) (fun i _ => q.length - (intOf i).toNat)
  case atStart => exact ⟨0, by omega, rfl, 0, ⟨rfl⟩, HW5⟩
  case round =>
    clear HW5
    obtain ⟨k, hkq, rfl, mm, HI, HN⟩ := hrel
    by_cases hlt : k < q.length
    · have b2 : decide (k < q.length) = true := decide_eq_true hlt
      obtain ⟨ad, A4, c4, A5, c5, e, x0, x1, x2, x3, x4, x5, g4l, g4, g5l, g5⟩ := at_T92 (Kd.C_below HQ.out HN.out.below) k (by omega) (by omega)
      cases e
      rw [Int.toNat_natCast] at x0 x1 x2 x3 x4 x5
      have hI := HI.out
      rw [List.drop_eq_getElem_cons hlt, List.foldl_cons, show q[k] = rd_T92 q k by simp [rd_T92, List.getD, hlt]] at hI
      obtain ⟨x, hx⟩ : ∃ x, rd_T92 q k = x := ⟨_, rfl⟩
      rw [hx] at x0 x1 x2 x3 x4 x5 hI
      have HI2 := Aside0.mk hI
      have y1 := (blk_cell HN.out.hx 1).trans (show _ = some _ from rfl)
      have z1 := blk_frozen HN.out.hx 1
      have lX := blk_lt HN.out.hx
      have HA := Aside0.mk ((HN.out.put (wrap64 (mm + x.f1))).after (below_alloc (Below.refl _ _) (Obj.cells #[.string x.f0, .int .i64 x.f1, .int .i64 x.f2, .bool x.f3, .slice A4 x.f4.length c4, .slice A5 x.f5.length c5] 92)))
      clear hx hI g4 g5 g4l g5l HI
      gi_wp2
      go_roundw
      case rel => exact ⟨k + 1, by omega, by simp, _, HI2, ⟨HA.out⟩⟩
      case measure => simp [intOf]; omega
    · have hk : k = q.length := by omega
      subst hk
      have b2 : decide (q.length < q.length) = false := decide_eq_false (by omega)
      have hI := HI.out
      rw [List.drop_length, List.foldl_nil] at hI
      subst hI
      have l0 := blk_lt HN.out.hp
      have p0 := (blk_cell HN.out.hp 0).trans (show _ = some _ from rfl)
      have p1 := (blk_cell HN.out.hp 1).trans (show _ = some _ from rfl)
      have p2 := (blk_cell HN.out.hp 2).trans (show _ = some _ from rfl)
      have p3 := (blk_cell HN.out.hp 3).trans (show _ = some _ from rfl)
      have p4 := (blk_cell HN.out.hp 4).trans (show _ = some _ from rfl)
      have p5 := (blk_cell HN.out.hp 5).trans (show _ = some _ from rfl)
      have p6 := (blk_cell HN.out.hp 6).trans (show _ = some _ from rfl)
      gi_wp2_with fail
      obtain ⟨T, hT⟩ : ∃ T, wr.heap.size = T := ⟨_, rfl⟩
      have hE6 : AE w #[.string s0, .int .i64 i1, .int .i64 pu, .int .i64 i3, .int .i64 i4, .int .i64 i5, .slice Aq q.length cq] F (F + 1) T (.slice Af fl.length cf) (.slice Ac c.length cc) (.slice none 0 0) (totV q) fl c (l.length : Int) [] (wr.alloc (.cells #[.int .i64 (l.length : Int)] 3)) :=
        ⟨HN.out.after (below_alloc (Below.refl _ _) _), by rw [← hT]; exact heap_alloc_new _ _, by rw [← hT]; exact blk_lt HN.out.hx, Kd.R_nil _ _ _ _ _⟩
      rw [hT]
      obtain ⟨W6, hW6⟩ : ∃ W6, wr.alloc (.cells #[.int .i64 (l.length : Int)] 3) = W6 := ⟨_, rfl⟩
      rw [hW6] at hE6 ⊢
      refine ⟨trivial, (pairs_in W6 s0 i1 pu i3 i4 i5 Aq q.length cq A1 l.length c1 2).mono ?_⟩
      rintro e W7 ⟨rfl, rfl⟩
      have HE6 := Aside0.mk hE6
      clear p0 p1 p2 p3 p4 p5 p6 hE6 hW6 hT l0 HN HI
      gi_wp2_with fail
      have hB8 : Below W6.heap.size W6 ((W6.alloc (Obj.cells #[.string s0, .int .i64 i1, .int .i64 pu, .int .i64 i3, .int .i64 i4, .int .i64 i5, .slice Aq q.length cq] 41)).alloc (Obj.cells #[.slice A1 l.length c1] 42)) := below_alloc (below_alloc (Below.refl _ _) _) _
      have hbp : ((W6.alloc (Obj.cells #[.string s0, .int .i64 i1, .int .i64 pu, .int .i64 i3, .int .i64 i4, .int .i64 i5, .slice Aq q.length cq] 41)).alloc (Obj.cells #[.slice A1 l.length c1] 42)).heap[W6.heap.size]? = some (.cells #[.string s0, .int .i64 i1, .int .i64 pu, .int .i64 i3, .int .i64 i4, .int .i64 i5, .slice Aq q.length cq] 41 (0, 0)) := (Below.heap_alloc _ _ _ (by simp)).trans (heap_alloc_new W6 _)
      have hbl : ((W6.alloc (Obj.cells #[.string s0, .int .i64 i1, .int .i64 pu, .int .i64 i3, .int .i64 i4, .int .i64 i5, .slice Aq q.length cq] 41)).alloc (Obj.cells #[.slice A1 l.length c1] 42)).heap[W6.heap.size + 1]? = some (.cells #[.slice A1 l.length c1] 42 (0, 0)) := by have h_ := heap_alloc_new (W6.alloc (Obj.cells #[.string s0, .int .i64 i1, .int .i64 pu, .int .i64 i3, .int .i64 i4, .int .i64 i5, .slice Aq q.length cq] 41)) (Obj.cells #[.slice A1 l.length c1] 42); rw [World.size_alloc] at h_; exact h_
      have hE8 := HE6.out.after hB8
      have hT6 := blk_lt HE6.out.ht
      have hFT := HE6.out.l3
      obtain ⟨W8, hW8⟩ : ∃ W8, (W6.alloc (Obj.cells #[.string s0, .int .i64 i1, .int .i64 pu, .int .i64 i3, .int .i64 i4, .int .i64 i5, .slice Aq q.length cq] 41)).alloc (Obj.cells #[.slice A1 l.length c1] 42) = W8 := ⟨_, rfl⟩
      rw [hW8] at hbp hbl hE8 ⊢
      have hs8 := hE8.ax.below.size
      have hlt8 := blk_lt hbl
      have BP := Aside0.mk hbp
      have BL := Aside0.mk hbl
      have HE8 := Aside0.mk hE8
      clear hW8 hB8 hbp hbl hE8 HE6
      refine wpIn_rangeFunc_ownG (α := PI q l) (encs := fun x => encP x.1) (Kp := KpQ w.heap.size (fun k => k = F + 1 ∨ k = T)) (S := fun ys => ys.map Subtype.val = prsTo q l l.length) (Sp := fun pre => pre.map Subtype.val <+: prsTo q l l.length) (N := (prsTo q l l.length).length) (w0 := W8)
        rfl (by decide) (gf := 78) rfl trivial (enters_of Try.func78 (by kernel_rfl) rfl)
        (fun l0 J Jx W hW hJ _ hY h0 => pairs1_in 2 w.heap.size l0 (W6.heap.size + 1) W6.heap.size (fun k => k = F + 1 ∨ k = T) (by decide) W A1 Aq c1 cq q l s0 i1 pu i3 i4 i5
          (fun W' hb => ⟨Kd.C_below HL.out ((HE8.out.ax.below.trans (hW.mono hs8)).trans hb), Kd.C_below HQ.out ((HE8.out.ax.below.trans (hW.mono hs8)).trans hb)⟩) HQ64.out hcq
          ((hW.block _ (blk_lt BL.out)).trans BL.out) ((hW.block _ (blk_lt BP.out)).trans BP.out) (by omega) (by omega) (fun k hk => by have := hW.size; omega) (by have := hW.size; omega) J Jx hY (fun pre W1 W2 hj hb => hJ pre W1 W2 none hj (grown_of_below hb) (fun r e => by cases e)) h0)
        KpQ.trans (fun W l o o' hl h hc _ => KpQ.put (by omega) h hc) (Below.refl _ _) (fun _ => rfl)
        (fun pre W => ∃ v, AE w #[.string s0, .int .i64 i1, .int .i64 pu, .int .i64 i3, .int .i64 i4, .int .i64 i5, .slice Aq q.length cq] F (F + 1) T (.slice Af fl.length cf) (.slice Ac c.length cc) v (lessL (totV q) ((usesOf (pre.map Subtype.val) (fl.drop l.length)).map S57.f2)) fl c ((l.length : Int) + (pre.length : Int)) (usesOf (pre.map Subtype.val) (fl.drop l.length)) W)
        (fun _ _ _ => False) ?hI (fun _ _ _ _ _ hs _ _ => hs) ⟨.slice none 0 0, by simpa [usesOf, uAll, lessL] using HE8.out⟩
        (fun x => { tmps := #[Value.agg #[Value.string s0, Value.int .i64 i1, Value.int .i64 pu, Value.int .i64 i3, Value.int .i64 i4, Value.int .i64 i5, Value.slice Aq q.length cq], Value.slice A1 l.length c1, Value.pointer (some ⟨w.heap.size, 0, none⟩), undef, Value.pointer (some ⟨w.heap.size + 1, 0, none⟩), Value.pointer (some ⟨w.heap.size + 1 + 1, 0, none⟩), Value.int .i64 (2 + l.length + q.length), Value.slice Av (netE q l pu).length cv, Value.pointer (some ⟨F, 0, none⟩), Value.slice Ac c.length cc, Value.pointer (some ⟨F + 1, 0, none⟩), undef, u12, Value.pointer (some ⟨T, 0, none⟩), .int .i64 x.1.1, .int .i64 x.1.2, undef, Value.func (Fn.func 59) #[] #[Value.pointer (some ⟨w.heap.size + 1 + 1, 0, none⟩)], Value.tuple #[Value.int .i64 (2 + l.length + q.length), Value.slice Av (netE q l pu).length cv, Value.int .i64 0], Value.agg #[Value.string s0, Value.int .i64 i1, Value.int .i64 pu, Value.int .i64 i3, Value.int .i64 i4, Value.int .i64 i5, Value.slice Aq q.length cq], Value.slice A1 l.length c1, Value.tuple #[Value.int .i64 (2 + l.length + q.length), Value.slice Av (netE q l pu).length cv, Value.int .i64 0], Value.int .i64 (2 + l.length + q.length), Value.slice Av (netE q l pu).length cv, Value.int .i64 0, Value.int .i64 0, Value.tuple #[], Value.tuple #[Value.slice Af fl.length cf, Value.slice Ac c.length cc, Value.int .i64 0], Value.int .i64 (2 + l.length + q.length), Value.slice Av (netE q l pu).length cv, Value.int .i64 (2 + l.length + q.length), Value.int .i64 (1 + l.length + q.length), Value.tuple #[Value.slice Af fl.length cf, Value.slice Ac c.length cc, Value.int .i64 0], Value.slice Af fl.length cf, Value.slice Ac c.length cc, Value.int .i64 0, Value.int .i64 0, Value.tuple #[], Value.slice Ac c.length cc, Value.agg #[Value.slice none 0 0, Value.int .i64 0, Value.slice Ac c.length cc], Value.pointer (some ⟨w.heap.size, 6, none⟩), Value.slice Aq q.length cq, Value.int .i64 q.length, Value.int .i64 q.length, Value.bool false, u45, u46, u47, u48, u49, u50, u51, u52, u53, Value.slice A1 l.length c1, Value.int .i64 l.length, Value.agg #[Value.string s0, Value.int .i64 i1, Value.int .i64 pu, Value.int .i64 i3, Value.int .i64 i4, Value.int .i64 i5, Value.slice Aq q.length cq], Value.slice A1 l.length c1, Value.func (Fn.func 78) #[] #[Value.pointer (some ⟨W6.heap.size + 1, 0, none⟩), Value.pointer (some ⟨W6.heap.size, 0, none⟩)], .int .i64 x.1.1, .int .i64 x.1.2, undef, undef, undef, undef, undef, undef, undef, undef, undef, undef, undef, undef, undef, undef, undef, undef, undef, undef, undef, undef, undef, undef, undef], defers := [] }) ?assign ?body ?done ?stop
      case hI =>
        rintro pre X Y row ⟨v', hs⟩ hg hr
        exact ⟨v', hs.own hg (fun r e => ⟨by have := (hr r e).1; omega, (hr r e).2⟩)⟩
      case assign =>
        intro l0 x W K hK
        unfold encP
        gi_wp2
        exact hK
      case body =>
        rintro l0 pre ⟨⟨y0, y1⟩, hmem⟩ W ⟨v', hn⟩ hpre
        have hfl := HFL.out
        have hpl := prsTo_len q l HQ64.out l.length
        have hsn := L20.uAll_snoc (y0, y1) (pre.map Subtype.val) (fl.drop l.length) (by rw [List.length_map, List.length_drop]; omega)
        rw [List.length_map] at hsn
        obtain ⟨f, hf⟩ : ∃ f, rd (fl.drop l.length) (pre.length : Int) = f := ⟨_, rfl⟩
        rw [hf] at hsn
        have hf2 : rd fl ((l.length : Int) + (pre.length : Int)) = f := by
          rw [← hf]; unfold rd
          rw [List.getD_eq_getElem?_getD, List.getD_eq_getElem?_getD, List.getElem?_drop, show ((l.length : Int) + (pre.length : Int)).toNat = l.length + (pre.length : Int).toNat by omega]
        obtain ⟨us0, hus0⟩ : ∃ us0, usesOf (pre.map Subtype.val) (fl.drop l.length) = us0 := ⟨_, rfl⟩
        rw [hus0] at hn
        have hlen0 : us0.length ≤ 6400 := by
          rw [← hus0]; unfold usesOf
          have h1 := List.length_filter_le (fun u : S57 => decide (0 < u.f2)) (uAll (pre.map Subtype.val) (fl.drop l.length))
          have h2 : ∀ (ps : List (Int × Int)) (g : List Int), (uAll ps g).length ≤ ps.length := by
            intro ps
            induction ps with
            | nil => intro g; simp [uAll]
            | cons p ps ih => intro g; cases g with
              | nil => simp [uAll]
              | cons f g => simp only [uAll, List.length_cons]; have := ih g; omega
          have h3 := h2 (pre.map Subtype.val) (fl.drop l.length)
          rw [List.length_map] at h3
          omega
        have hnew : usesOf ((pre ++ [(⟨(y0, y1), hmem⟩ : PI q l)]).map Subtype.val) (fl.drop l.length) = us0 ++ (if 0 < f then [⟨y0, y1, f⟩] else []) := by
          rw [← hus0]; unfold usesOf
          rw [List.map_append, List.map_cons, List.map_nil, hsn, List.filter_append]
          congr 1
          by_cases h0 : 0 < f
          · rw [if_pos h0, List.filter_cons_of_pos (by simpa using h0)]; rfl
          · rw [if_neg h0, List.filter_cons_of_neg (by simpa using h0)]; rfl
        have HNEW := Aside0.mk hnew
        obtain ⟨-, hcf, hCf⟩ := Kd.R_reads' hn.ax.rf
        obtain ⟨adk, e, z0⟩ := rd_atI hCf ((l.length : Int) + (pre.length : Int)) (by omega) (by omega)
        cases e
        rw [hf2, show ((l.length : Int) + (pre.length : Int)).toNat = l.length + pre.length by omega] at z0
        obtain ⟨Au, cu, rfl⟩ := Kd.R_slice hn.row
        have yF := (blk_cell hn.ax.hf 0).trans (show _ = some _ from rfl)
        have yT := (blk_cell hn.ht 0).trans (show _ = some _ from rfl)
        have zT := blk_frozen hn.ht 0
        have x0 := (blk_cell hn.ax.hx 0).trans (show _ = some _ from rfl)
        have x1 := (blk_cell hn.ax.hx 1).trans (show _ = some _ from rfl)
        have g0 : ((l.length : Int) + (pre.length : Int) < (fl.length : Int)) := by omega
        have g1 : (0 : Int) ≤ (l.length : Int) + (pre.length : Int) := by omega
        have g2 : (l.length : Int) + (pre.length : Int) ≤ 100000 := by omega
        have HN := Aside0.mk hn
        have HL0 := Aside0.mk hlen0
        have HPL := Aside0.mk hpre
        clear hn hsn hf hf2 hus0 hnew hcf hCf hlen0 hpre hpl hfl
        by_cases hpos : 0 < f
        · have b3 : decide (0 < f) = true := decide_eq_true hpos
          have hn := HN.out
          have HF := Aside0.mk (show ∀ j, W.heap.size ≤ j → T < j from fun j hj => by have := blk_lt hn.ht; omega)
          have HLN := Aside0.mk (show (us0.length + 1) * 24 ≤ 140737488355328 by have := HL0.out; omega)
          have HOW := Aside0.mk (show ∀ k, k ≤ T → some k ≠ (Value.slice Au us0.length cu).ownBlock from fun k hk e => by have := HN.out.row.1 _ e.symm; omega)
          rw [if_pos hpos] at HNEW
          have n1 : F + 1 ≠ T := by omega
          have n2 : T ≠ F + 1 := by omega
          clear hn
          gi_wp2_with (gi_at_builtin; refine RIn_app k57 46 57 (.agg #[.int .i64 0, .int .i64 0, .int .i64 0]) 24 Try.underlying46 info57 rfl (by decide) (by omega) rfl (.tmp 68) (.tmp 73) rfl w.heap.size (.slice Au us0.length cu) us0 ⟨y0, y1, f⟩ [.int .i64 y0, .int .i64 y1, .int .i64 f] (fun j => T < j) rfl ?ad (k57_mkM _ _ _ ⟨y0, y1, f⟩) HF.out HN.out.row HN.out.ax.below.size HLN.out ?_; (case ad => rfl); intro v1 w1 hR1 hg1 hform; obtain ⟨Av1, mv1, cv1, rfl⟩ := hform; have hX1 := (hg1.block _ (blk_lt HN.out.ax.hx) (HOW.out _ (by omega))).trans HN.out.ax.hx; have hT1 := (hg1.block _ (blk_lt HN.out.ht) (HOW.out _ (Nat.le_refl _))).trans HN.out.ht; have u0 := (blk_cell hX1 0).trans (show _ = some _ from rfl); have u1 := (blk_cell hX1 1).trans (show _ = some _ from rfl); have s0' := blk_frozen hX1 0; have s1' := blk_frozen hX1 1; have uT := (blk_cell hT1 0).trans (show _ = some _ from rfl); have sT := blk_frozen hT1 0; have HPUT := Aside0.mk ((HN.out.put hg1 hR1 (wrap64 (lessL (totV q) (us0.map S57.f2) - f))).tick ((l.length : Int) + (pre.length : Int) + 1)); have HRA := Aside0.mk (HN.out.round2 hg1 (.slice Av1 mv1 cv1) (.int .i64 (wrap64 (lessL (totV q) (us0.map S57.f2) - f)))); have HRB := Aside0.mk ((HN.out.put hg1 hR1 (wrap64 (lessL (totV q) (us0.map S57.f2) - f))).round1 (.int .i64 ((l.length : Int) + (pre.length : Int) + 1))); clear hX1 hT1 hR1 hg1)
          have hp := HPUT.out
          refine ⟨(HRA.out.1 _).trans (HRB.out.1 _), HRA.out.2.trans HRB.out.2, .slice Av1 mv1 cv1, ?_⟩
          rw [HNEW.out, List.map_append, List.map_cons, List.map_nil, lessL_snoc, show (l.length : Int) + ((pre ++ [(⟨(y0, y1), hmem⟩ : PI q l)]).length : Int) = (l.length : Int) + (pre.length : Int) + 1 by simp; omega]
          exact hp
        · have b3 : decide (0 < f) = false := decide_eq_false hpos
          have HA := Aside0.mk (HN.out.tick ((l.length : Int) + (pre.length : Int) + 1))
          have HRD := Aside0.mk (HN.out.round1 (.int .i64 ((l.length : Int) + (pre.length : Int) + 1)))
          rw [if_neg hpos, List.append_nil] at HNEW
          gi_wp2
          refine ⟨HRD.out.1 _, HRD.out.2, .slice Au us0.length cu, ?_⟩
          rw [HNEW.out, show (l.length : Int) + ((pre ++ [(⟨(y0, y1), hmem⟩ : PI q l)]).length : Int) = (l.length : Int) + (pre.length : Int) + 1 by simp; omega]
          exact HA.out
      case done =>
        rintro D ys W hD hys ⟨v', hn⟩ hK
        have hys : ys.map Subtype.val = prsTo q l l.length := hys
        rw [hys, ← HUS.out, ← HMM.out] at hn
        obtain ⟨Au, cu, rfl⟩ := Kd.R_slice hn.row
        have x0 := (blk_cell hn.ax.hx 0).trans (show _ = some _ from rfl)
        have x1 := (blk_cell hn.ax.hx 1).trans (show _ = some _ from rfl)
        have x2 := (blk_cell hn.ax.hx 2).trans (show _ = some _ from rfl)
        have a0 := (blk_cell hn.ax.ha 0).trans (show _ = some _ from rfl)
        have a1 := (blk_cell hn.ax.ha 1).trans (show _ = some _ from rfl)
        have a2 := (blk_cell hn.ax.ha 2).trans (show _ = some _ from rfl)
        have z0 := blk_frozen hn.ax.ha 0
        have z1 := blk_frozen hn.ax.ha 1
        have z2 := blk_frozen hn.ax.ha 2
        have e0 := (blk_cell hn.ax.he 0).trans (show _ = some _ from rfl)
        have f0 := blk_frozen hn.ax.he 0
        have HN := Aside0.mk hn
        have HK := Aside0.mk hK
        have h1 := hn.ax.l1
        have n1 : w.heap.size + 1 ≠ F + 1 := by omega
        have n2 : F + 1 ≠ w.heap.size + 1 := by omega
        clear hn hys hK
        gi_wp2
        clear x0 x1 x2 a0 a1 a2 z0 z1 z2 e0 f0
        have hn := HN.out
        have h2 := hn.ax.l2
        have h3 := hn.l3
        have hlT := blk_lt HE8.out.ht
        have far : ∀ (k : Nat) (o : Obj), k ≠ w.heap.size + 1 → k ≠ w.heap.size + 1 + 1 → W.heap[k]? = some o → ((((W.setCell ⟨w.heap.size + 1, 0, none⟩ (.slice Au us.length cu)).setCell ⟨w.heap.size + 1, 1, none⟩ (.int .i64 m)).setCell ⟨w.heap.size + 1, 2, none⟩ (.slice Ac c.length cc)).setCell ⟨w.heap.size + 1 + 1, 0, none⟩ (.int .i64 0)).heap[k]? = some o := fun k o hk1 hk2 ho =>
          set_farN (set_farN (set_farN (set_farN ho hk1 _) hk1 _) hk1 _) hk2 _
        have k1 : ((((W.setCell ⟨w.heap.size + 1, 0, none⟩ (.slice Au us.length cu)).setCell ⟨w.heap.size + 1, 1, none⟩ (.int .i64 m)).setCell ⟨w.heap.size + 1, 2, none⟩ (.slice Ac c.length cc)).setCell ⟨w.heap.size + 1 + 1, 0, none⟩ (.int .i64 0)).heap[w.heap.size + 1]? = some (.cells #[(.slice Au us.length cu), .int .i64 m, (.slice Ac c.length cc)] 48 (0, 0)) :=
          set_farN (row_setCell (row_setCell (row_setCell hn.ax.ha 0 (.slice Au us.length cu)) 1 (.int .i64 m)) 2 (.slice Ac c.length cc)) (by omega) _
        have k2 : ((((W.setCell ⟨w.heap.size + 1, 0, none⟩ (.slice Au us.length cu)).setCell ⟨w.heap.size + 1, 1, none⟩ (.int .i64 m)).setCell ⟨w.heap.size + 1, 2, none⟩ (.slice Ac c.length cc)).setCell ⟨w.heap.size + 1 + 1, 0, none⟩ (.int .i64 0)).heap[w.heap.size + 1 + 1]? = some (.cells #[.int .i64 0] 27 (0, 0)) :=
          set_own (set_farN (set_farN (set_farN hn.ax.he (by omega) _) (by omega) _) (by omega) _) _
        have kD := far D _ (by omega) (by omega) HK.out
        have b9 : Below w.heap.size w ((((W.setCell ⟨w.heap.size + 1, 0, none⟩ (.slice Au us.length cu)).setCell ⟨w.heap.size + 1, 1, none⟩ (.int .i64 m)).setCell ⟨w.heap.size + 1, 2, none⟩ (.slice Ac c.length cc)).setCell ⟨w.heap.size + 1 + 1, 0, none⟩ (.int .i64 0)) :=
          (((hn.ax.below.setCell (p := ⟨w.heap.size + 1, 0, none⟩) (by show w.heap.size ≤ w.heap.size + 1; omega) _).setCell (p := ⟨w.heap.size + 1, 1, none⟩) (by show w.heap.size ≤ w.heap.size + 1; omega) _).setCell (p := ⟨w.heap.size + 1, 2, none⟩) (by show w.heap.size ≤ w.heap.size + 1; omega) _).setCell (p := ⟨w.heap.size + 1 + 1, 0, none⟩) (by show w.heap.size ≤ w.heap.size + 1 + 1; omega) _
        have hR : ∀ {α : Type} (d : Kd α) (t : Nat) (ok : Nat → Prop) (u : Value) (xs : List α), (∀ q, q ∈ t :: d.E → q ≠ 48) → (∀ q, q ∈ t :: d.E → q ≠ 27) → Kd.R d t W w.heap.size ok u xs → Kd.R d t ((((W.setCell ⟨w.heap.size + 1, 0, none⟩ (.slice Au us.length cu)).setCell ⟨w.heap.size + 1, 1, none⟩ (.int .i64 m)).setCell ⟨w.heap.size + 1, 2, none⟩ (.slice Ac c.length cc)).setCell ⟨w.heap.size + 1 + 1, 0, none⟩ (.int .i64 0)) w.heap.size (fun _ => True) u xs := fun d t ok u xs q1 q2 hh =>
          Kd.R_mono (Kd.R_far (p := ⟨w.heap.size + 1 + 1, 0, none⟩) (Kd.R_far (p := ⟨w.heap.size + 1, 2, none⟩) (Kd.R_far (p := ⟨w.heap.size + 1, 1, none⟩) (Kd.R_far (p := ⟨w.heap.size + 1, 0, none⟩) (Kd.R_types (Kd.R_types hh hn.ax.ha q1) hn.ax.he q2) (fun _ hk => hk.1.2) _) (fun _ hk => hk.1.2) _) (fun _ hk => hk.1.2) _) (fun _ hk => hk.2) _) (fun _ _ => trivial)
        have r1 := hR k57 57 _ _ _ (fun q hq => by have : q = 57 := List.mem_singleton.1 hq; omega) (fun q hq => by have : q = 57 := List.mem_singleton.1 hq; omega) hn.row
        have r2 := hR Kd.bool 4 _ _ _ (fun q hq => by have : q = 4 := List.mem_singleton.1 hq; omega) (fun q hq => by have : q = 4 := List.mem_singleton.1 hq; omega) hn.ax.rc
        obtain ⟨W9, hW9⟩ : ∃ W9, (((W.setCell ⟨w.heap.size + 1, 0, none⟩ (.slice Au us.length cu)).setCell ⟨w.heap.size + 1, 1, none⟩ (.int .i64 m)).setCell ⟨w.heap.size + 1, 2, none⟩ (.slice Ac c.length cc)).setCell ⟨w.heap.size + 1 + 1, 0, none⟩ (.int .i64 0) = W9 := ⟨_, rfl⟩
        rw [hW9] at k1 k2 kD b9 r1 r2 ⊢
        clear hR far
        refine ⟨by simp, .inl ⟨_, _, rfl, run_takeDeferred kD, ?_⟩⟩
        refine ⟨by simp, .inr ⟨(fun h => by cases h), Fn.func 59, #[.pointer (some ⟨w.heap.size + 1 + 1, 0, none⟩)], 59, #[.pointer (some ⟨w.heap.size + 1 + 1, 0, none⟩)], rfl, rfl, fun _ _ => trivial, (defer_idle ⟨w.heap.size + 1 + 1, 0, none⟩ (W9.putObj D (.deferred none)) 2).mono ?_⟩⟩
        rintro y u' w' ⟨rfl, rfl, rfl⟩
        have hg := grownBy_putObj' W9 D (.deferred none)
        have k1' := (World.putObj_heap_other (o := .deferred none) (show w.heap.size + 1 ≠ D by omega)).trans k1
        have k2' := (World.putObj_heap_other (o := .deferred none) (show w.heap.size + 1 + 1 ≠ D by omega)).trans k2
        have c10 := (blk_cell k1' 0).trans (show _ = some _ from rfl)
        have c11 := (blk_cell k1' 1).trans (show _ = some _ from rfl)
        have c12 := (blk_cell k1' 2).trans (show _ = some _ from rfl)
        have c20 := (blk_cell k2' 0).trans (show _ = some _ from rfl)
        have hR' : ∀ {α : Type} (d : Kd α) (t : Nat) (ok : Nat → Prop) (u : Value) (xs : List α), Kd.R d t W9 w.heap.size ok u xs → Kd.R d t (W9.putObj D (.deferred none)) w.heap.size ok u xs := fun d t ok u xs hh =>
          Kd.R_mono (Kd.R_step (Kd.R_bound hh) (fun k hk' _ => by
            obtain ⟨_, _, _, t', _, cs, hcs⟩ := hk'
            exact World.putObj_heap_other (fun e => by subst e; rw [kD] at hcs; cases hcs))) (fun _ hk' => hk'.1)
        refine ⟨.tuple #[.agg #[(.slice Au us.length cu), .int .i64 m, (.slice Ac c.length cc)], .int .i64 0], ?_, (.slice Au us.length cu), (.slice Ac c.length cc), rfl, hR' _ _ _ _ _ r1, hR' _ _ _ _ _ r2, b9.grown hg b9.size (fun k e => by cases e; omega)⟩
        have hr : Try.f32.results = #[.cell 4 48, .cell 5 27] := rfl
        have hu := Try.underlying27
        simp [results, hr, go_sem, c10, c11, c12, c20, hu, hu48, loadVar]
      case stop =>
        rintro D cc' pre W _ _ h _
        exact h.elim
noncomputable def degree_Audit.f (k : Nat) (a0_0 : ByteArray) (a0_1 a0_2 a0_3 a0_4 a0_5 : Int) (l0_6 : List S92) (l1 : List S44) : Option (List S57 × Int × List Bool × Int) := if l1.length ≤ 100 then some (audV a0_1 a0_2 a0_3 a0_4 a0_5 l0_6 l1) else none
theorem degree_Audit.calls (k : Nat) (a0_0 : ByteArray) (a0_1 a0_2 a0_3 a0_4 a0_5 : Int) (A0_6 : Option Addr) (c0_6 : Nat) (l0_6 : List S92) (A1 : Option Addr) (c1 : Nat) (l1 : List S44) (r1 : List S57) (r2 : Int) (r3 : List Bool) (r4 : Int) (w : World)
    (hr0_6 : Kd.C k92 w A0_6 l0_6.length l0_6) (hc0_6 : l0_6.length ≤ c0_6) (hr1 : Kd.C k44 w A1 l1.length l1) (hc1 : l1.length ≤ c1) (h : degree_Audit.f k a0_0 a0_1 a0_2 a0_3 a0_4 a0_5 l0_6 l1 = some (r1, r2, r3, r4)) :
    Calls Try.prog 32 #[.agg #[.string a0_0, .int .i64 a0_1, .int .i64 a0_2, .int .i64 a0_3, .int .i64 a0_4, .int .i64 a0_5, .slice A0_6 l0_6.length c0_6], .slice A1 l1.length c1] w
      fun e w' => ∃ v0_ v1_ : Value, e = .returned (.tuple #[.agg #[v0_, .int .i64 r2, v1_], .int .i64 r4]) ∧ Kd.R k57 57 w' w.heap.size (fun _ => True) v0_ r1 ∧ Kd.R Kd.bool 4 w' w.heap.size (fun _ => True) v1_ r3 ∧ Below w.heap.size w w' := by
  unfold degree_Audit.f at h
  split at h
  · rename_i hl
    exact callsIn_wide.1 (audit_in a0_0 a0_1 a0_2 a0_3 a0_4 a0_5 A0_6 c0_6 l0_6 A1 c1 l1 w hr0_6 hc0_6 hr1 hc1 hl r1 r2 r4 r3 (Option.some.inj h))
  · cases h
end Go.Proofs.Ytadeidhefjifaaa.Px
end
