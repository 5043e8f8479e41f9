/- What the search finds, and what it means for the flow: no program in sight. -/
import Derived.Test.YtadeidhefjifaaaHEnd
import Derived.Test.YtadeidhefjifaaaHAlong
import Derived.Test.YtadeidhefjifaaaHNew
import Derived.Test.YtadeidhefjifaaaFlowMath
set_option linter.unusedVariables false
set_option linter.unusedSimpArgs false
namespace Go.Proofs.Ytadeidhefjifaaa.Px
open Go.RowKit Go.Shelf Go.Proofs.YtadeidhefjifaaaW.PrintWords Go.Proofs.YtadeidhefjifaaaW.PrintLast Go.Proofs.YtadeidhefjifaaaW.PrintMore
/-! the residual edges that begin at each node -/
theorem addAt_getD (a : List (List Int)) (u y v : Int) (h0 : 0 ≤ u) (h1 : u < a.length) (v0 : 0 ≤ v) : (addAt a u y).getD v.toNat [] = if u = v then a.getD v.toNat [] ++ [y] else a.getD v.toNat [] := by
  unfold addAt
  by_cases e : u = v
  · subst e; rw [if_pos rfl, getD_set_self _ _ _ _ (by omega)]
  · rw [if_neg e, getD_set_ne _ _ _ _ _ (by omega)]
theorem addAt_length (a : List (List Int)) (u y : Int) : (addAt a u y).length = a.length := by simp [addAt]
abbrev GoodL (n : Int) (l : List S61) : Prop := FlowM.Ends S61.f0 S61.f1 S61.f2 n l
theorem adjOf_length : ∀ (l : List S61) (i : Int) (a : List (List Int)), (adjOf l i a).length = a.length
  | [], _, _ => rfl
  | x :: l, i, a => by rw [adjOf, adjOf_length l, adjStep, addAt_length, addAt_length]
theorem adjOf_len : ∀ (l : List S61) (i : Int) (a : List (List Int)) (k : Nat), (∀ j, (a.getD j []).length ≤ k) → ∀ j, ((adjOf l i a).getD j []).length ≤ k + 2 * l.length
  | [], _, _, k, h, j => h j
  | x :: l, i, a, k, h, j => by
    rw [adjOf]
    have := adjOf_len l (i + 1) (adjStep a x i) (k + 1 + 1) (fun j => addAt_len _ _ _ _ (fun j => addAt_len _ _ _ _ h j) j) j
    simp only [List.length_cons]; omega
theorem adjOf_mem (n : Int) (v r : Int) (v0 : 0 ≤ v) : ∀ (l : List S61) (i : Int) (a : List (List Int)), (∀ x ∈ l, (0 ≤ x.f0 ∧ x.f0 < n) ∧ (0 ≤ x.f1 ∧ x.f1 < n)) → (a.length : Int) = n →
    (r ∈ (adjOf l i a).getD v.toNat [] ↔ r ∈ a.getD v.toNat [] ∨ ∃ (j : Nat) (x : S61), l[j]? = some x ∧ ((r = 2 * (i + j) ∧ x.f0 = v) ∨ (r = 2 * (i + j) + 1 ∧ x.f1 = v)))
  | [], i, a, hx, ha => by simp [adjOf]
  | x :: l, i, a, hx, ha => by
    obtain ⟨⟨a0, a1⟩, b0, b1⟩ := hx x (by simp)
    rw [adjOf, adjOf_mem n v r v0 l (i + 1) _ (fun y hy => hx y (by simp [hy])) (by rw [adjStep, addAt_length, addAt_length]; exact ha), adjStep,
      addAt_getD _ _ _ _ b0 (by rw [addAt_length]; omega) v0, addAt_getD _ _ _ _ a0 (by omega) v0]
    have e1 : (∃ (j : Nat) (y : S61), (x :: l)[j]? = some y ∧ ((r = 2 * (i + j) ∧ y.f0 = v) ∨ (r = 2 * (i + j) + 1 ∧ y.f1 = v))) ↔
        ((r = 2 * i ∧ x.f0 = v) ∨ (r = 2 * i + 1 ∧ x.f1 = v)) ∨ ∃ (j : Nat) (y : S61), l[j]? = some y ∧ ((r = 2 * (i + 1 + j) ∧ y.f0 = v) ∨ (r = 2 * (i + 1 + j) + 1 ∧ y.f1 = v)) := by
      constructor
      · rintro ⟨j, y, hy, h⟩
        cases j with
        | zero => simp at hy; subst hy; exact .inl (by simpa using h)
        | succ j => exact .inr ⟨j, y, by simpa using hy, by rw [show i + 1 + (j : Int) = i + ((j + 1 : Nat) : Int) by omega]; exact h⟩
      · rintro (h | ⟨j, y, hy, h⟩)
        · exact ⟨0, x, rfl, by simpa using h⟩
        · exact ⟨j + 1, y, by simpa using hy, by rw [show i + ((j + 1 : Nat) : Int) = i + 1 + (j : Int) by omega]; exact h⟩
    rw [e1]
    generalize (∃ (j : Nat) (y : S61), l[j]? = some y ∧ ((r = 2 * (i + 1 + j) ∧ y.f0 = v) ∨ (r = 2 * (i + 1 + j) + 1 ∧ y.f1 = v))) = X
    by_cases h1 : x.f1 = v <;> by_cases h0 : x.f0 = v <;> simp [h1, h0] <;> (try constructor) <;> (try (intro h; rcases h with (h | h | h) | h <;> simp_all)) <;> simp_all [or_assoc]
/-- the residual edges at a node -/
abbrev adjG (n : Nat) (l : List S61) : List (List Int) := adjOf l 0 (List.replicate n [])
theorem rdT_some (l : List S61) (j : Nat) (x : S61) (h : l[j]? = some x) : rd_T61 l j = x := by simp [rd_T61, List.getD, h]
theorem rdT_mem (l : List S61) (i : Int) (h0 : 0 ≤ i) (h1 : i < l.length) : rd_T61 l i ∈ l := by
  rw [← rd_mem l i h0 h1]; exact List.getElem_mem _
theorem adj_iff (n : Nat) (l : List S61) (hg : GoodL n l) (v r : Int) (v0 : 0 ≤ v) : r ∈ (adjG n l).getD v.toNat [] ↔ 0 ≤ r ∧ r < 2 * l.length ∧ begR l r = v := by
  rw [adjOf_mem n v r v0 l 0 _ (fun x hx => ⟨(hg x hx).1, (hg x hx).2.1⟩) (by simp), repl_nil]
  constructor
  · rintro (h | ⟨j, x, hj, h⟩)
    · cases h
    · have hlt : j < l.length := (List.getElem?_eq_some_iff.1 hj).1
      have hx := rdT_some l j x hj
      rcases h with ⟨rfl, hv⟩ | ⟨rfl, hv⟩
      · refine ⟨by omega, by omega, ?_⟩
        unfold begR; rw [if_pos (by omega), show 2 * ((0 : Int) + j) / 2 = j by omega, hx, hv]
      · refine ⟨by omega, by omega, ?_⟩
        unfold begR; rw [if_neg (by omega), show (2 * ((0 : Int) + j) + 1) / 2 = j by omega, hx, hv]
  · rintro ⟨h0, h1, hb⟩
    refine .inr ⟨(r / 2).toNat, rd_T61 l (r / 2), ?_, ?_⟩
    · have : (r / 2).toNat < l.length := by omega
      rw [List.getElem?_eq_getElem this, rd_mem l (r / 2) (by omega) (by omega)]
    · unfold begR at hb
      by_cases hp : r % 2 = 0
      · rw [if_pos hp] at hb; exact .inl ⟨by omega, hb⟩
      · rw [if_neg hp] at hb; exact .inr ⟨by omega, hb⟩
theorem adj_lens (n : Nat) (l : List S61) (v : Int) : ((adjG n l).getD v.toNat []).length ≤ 2 * l.length := by
  have := adjOf_len l 0 (List.replicate n []) 0 (fun j => by rw [repl_nil]; simp) v.toNat
  show ((adjOf l 0 (List.replicate n [])).getD v.toNat []).length ≤ _
  omega
theorem endR_in (n : Nat) (l : List S61) (hg : GoodL n l) (r : Int) (h0 : 0 ≤ r) (h1 : r < 2 * l.length) : 0 ≤ endR l r ∧ endR l r < n := by
  have := hg _ (rdT_mem l (r / 2) (by omega) (by omega))
  unfold endR; split
  · exact this.2.1
  · exact this.1
theorem begR_in (n : Nat) (l : List S61) (hg : GoodL n l) (r : Int) (h0 : 0 ≤ r) (h1 : r < 2 * l.length) : 0 ≤ begR l r ∧ begR l r < n := by
  have := hg _ (rdT_mem l (r / 2) (by omega) (by omega))
  unfold begR; split
  · exact this.1
  · exact this.2.1
theorem begR_ne (n : Nat) (l : List S61) (hg : GoodL n l) (r : Int) (h0 : 0 ≤ r) (h1 : r < 2 * l.length) : begR l r ≠ endR l r := by
  have := (hg _ (rdT_mem l (r / 2) (by omega) (by omega))).2.2.1
  unfold begR endR; split
  · exact this
  · exact fun e => this e.symm
/-- the usable ones at a node -/
abbrev useG (n : Nat) (l : List S61) (fl : List Int) (v : Int) : List (RE n) := useL l fl n ((adjG n l).getD v.toNat [])
theorem use_iff (n : Nat) (l : List S61) (fl : List Int) (hg : GoodL n l) (v : Int) (v0 : 0 ≤ v) (x : RE n) : x ∈ useG n l fl v ↔ 0 ≤ x.1.1 ∧ x.1.1 < 2 * l.length ∧ begR l x.1.1 = v ∧ capR l fl x.1.1 > 0 ∧ x.1.2 = endR l x.1.1 := by
  constructor
  · intro h
    obtain ⟨h1, h2, h3⟩ := useL_mem h
    obtain ⟨a, b, c⟩ := (adj_iff n l hg v _ v0).1 h1
    exact ⟨a, b, c, h2, h3⟩
  · rintro ⟨a, b, c, d, e⟩
    have := (adj_iff n l hg v _ v0).2 ⟨a, b, c⟩
    unfold useG useL
    refine List.mem_filterMap.2 ⟨x.1.1, this, ?_⟩
    have he := endR_in n l hg _ a b
    rw [dif_pos ⟨d, he⟩]
    congr 1
    apply Subtype.ext
    exact Prod.ext rfl e.symm
/-! what the search finds -/
/-- the residual edges with room along which v was reached, last first -/
def GP (n : Nat) (l : List S61) (fl b : List Int) (frm : Int) : Int → List Int → Prop
  | v, [] => v = frm
  | v, r :: rs => (v ≠ frm ∧ (0 ≤ v ∧ v < n) ∧ r = rd b v ∧ 0 ≤ r ∧ r < 2 * l.length ∧ capR l fl r > 0 ∧ endR l r = v) ∧ GP n l fl b frm (begR l r) rs
theorem GP.path {n : Nat} {l : List S61} {fl b : List Int} {frm : Int} (hb : b.length = n) : ∀ {p : List Int} {v : Int}, GP n l fl b frm v p → isPath l b frm v p
  | [], v, h => h
  | r :: rs, v, h => ⟨⟨h.1.1, h.1.2.1.1, by rw [hb]; exact h.1.2.1.2, h.1.2.2.1, h.1.2.2.2.1, h.1.2.2.2.2.1⟩, GP.path hb h.2⟩
theorem GP.keep {n : Nat} {l : List S61} {fl b b' : List Int} {frm : Int} (hk : ∀ u : Int, 0 ≤ u → u < n → 0 ≤ rd b u → rd b' u = rd b u) : ∀ {p : List Int} {v : Int}, GP n l fl b frm v p → GP n l fl b' frm v p
  | [], v, h => h
  | r :: rs, v, h => ⟨⟨h.1.1, h.1.2.1, by rw [hk v h.1.2.1.1 h.1.2.1.2 (by have := h.1.2.2.1; have := h.1.2.2.2.1; omega)]; exact h.1.2.2.1, h.1.2.2.2⟩, GP.keep hk h.2⟩
theorem GP.det {n : Nat} {l : List S61} {fl b : List Int} {frm : Int} : ∀ {p q : List Int} {v : Int}, GP n l fl b frm v p → GP n l fl b frm v q → p = q
  | [], [], v, _, _ => rfl
  | [], _ :: _, v, h, k => absurd h k.1.1
  | _ :: _, [], v, h, k => absurd k h.1.1
  | r :: rs, s :: ss, v, h, k => by
    have : r = s := h.1.2.2.1.trans k.1.2.2.1.symm
    subst this
    rw [GP.det h.2 k.2]
theorem GP.suffix {n : Nat} {l : List S61} {fl b : List Int} {frm : Int} : ∀ {pre : List Int} {r : Int} {rs : List Int} {v : Int}, GP n l fl b frm v (pre ++ r :: rs) → GP n l fl b frm (endR l r) (r :: rs)
  | [], r, rs, v, h => by have := h.1.2.2.2.2.2.2; rw [this]; exact h
  | _ :: pre, r, rs, v, h => GP.suffix (pre := pre) h.2
theorem GP.mem {n : Nat} {l : List S61} {fl b : List Int} {frm : Int} : ∀ {p : List Int} {v : Int}, GP n l fl b frm v p → ∀ r ∈ p, 0 ≤ r ∧ r < 2 * l.length ∧ capR l fl r > 0
  | [], v, h, r, hr => by cases hr
  | s :: ss, v, h, r, hr => by
    rcases List.mem_cons.1 hr with rfl | hr
    · exact ⟨h.1.2.2.2.1, h.1.2.2.2.2.1, h.1.2.2.2.2.2.1⟩
    · exact GP.mem h.2 r hr
/-- no edge twice, nor in both directions -/
theorem GP.nodup {n : Nat} {l : List S61} {fl b : List Int} {frm : Int} : ∀ {p : List Int} {v : Int}, GP n l fl b frm v p → (p.map (· / 2)).Nodup
  | [], v, h => List.nodup_nil
  | r :: rs, v, h => by
    rw [List.map_cons, List.nodup_cons]
    refine ⟨fun hm => ?_, GP.nodup h.2⟩
    obtain ⟨s, hs, he⟩ := List.mem_map.1 hm
    obtain ⟨pre, suf, rfl⟩ := List.append_of_mem hs
    have hsuf := GP.suffix h.2
    have hr := h.1
    by_cases hrs : s = r
    · subst hrs
      rw [hr.2.2.2.2.2.2] at hsuf
      have := congrArg List.length (GP.det h hsuf)
      simp at this; omega
    · have hbe : begR l s = endR l r := by
        unfold begR endR
        have h1 := hr.2.2.2.1
        have h2 := hsuf.1.2.2.2.1
        rw [he]
        by_cases hp : r % 2 = 0
        · rw [if_pos hp, if_neg (by omega)]
        · rw [if_neg hp, if_pos (by omega)]
      have h2 := hsuf.2
      rw [hbe, hr.2.2.2.2.2.2] at h2
      have := congrArg List.length (GP.det h h2)
      simp at this; omega
theorem rd_set {b : List Int} {n : Nat} (hb : b.length = n) (u x v : Int) (u0 : 0 ≤ u) (u1 : u < n) (v0 : 0 ≤ v) : rd (b.set u.toNat x) v = if v = u then x else rd b v := by
  unfold rd
  by_cases e : v = u
  · subst e; rw [if_pos rfl]; simp [List.getD, show v.toNat < b.length by omega]
  · rw [if_neg e]; exact getD_set_ne _ _ _ _ _ (by omega)
/-- what a search keeps: every node that was met has a path -/
structure SInv (n : Nat) (l : List S61) (fl : List Int) (frm : Int) (b q : List Int) : Prop where
  len : b.length = n
  root : 0 ≤ rd b frm
  path : ∀ v : Int, 0 ≤ v → v < n → 0 ≤ rd b v → ∃ p, GP n l fl b frm v p
  que : ∀ x ∈ q, (0 ≤ x ∧ x < n) ∧ 0 ≤ rd b x
/-- a node whose usable edges all lead to nodes that were met -/
def Shut (n : Nat) (l : List S61) (fl b : List Int) (v : Int) : Prop := ∀ x ∈ useG n l fl v, 0 ≤ rd b x.1.2
theorem scan_inv (n : Nat) (l : List S61) (hg : GoodL n l) (fl : List Int) (frm tt : Int) (v : Int) (v0 : 0 ≤ v) (v1 : v < n) : ∀ (es : List (RE n)) (b q b' q' : List Int) (s : Bool), (∀ x ∈ es, x ∈ useG n l fl v) →
    SInv n l fl frm b q → 0 ≤ rd b v → scanU tt b q es = (b', q', s) →
    SInv n l fl frm b' q' ∧ (∀ u : Int, 0 ≤ u → u < n → 0 ≤ rd b u → rd b' u = rd b u) ∧ (s = true → 0 ≤ rd b' tt) ∧ (s = false → (∀ x ∈ es, 0 ≤ rd b' x.1.2) ∧ (∀ x ∈ q, x ∈ q') ∧ ∀ u : Int, 0 ≤ u → u < n → 0 ≤ rd b' u → 0 ≤ rd b u ∨ u ∈ q')
  | [], b, q, b', q', s, hes, hI, hv, h => by
    simp [scanU] at h; obtain ⟨rfl, rfl, rfl⟩ := h
    exact ⟨hI, fun _ _ _ _ => rfl, fun h => (by cases h), fun _ => ⟨fun x hx => by (cases hx), fun x hx => hx, fun u _ _ hu => .inl hu⟩⟩
  | x :: es, b, q, b', q', s, hes, hI, hv, h => by
    have hx := (use_iff n l fl hg v v0 x).1 (hes x (by simp))
    by_cases h0 : 0 ≤ rd b x.1.2
    · rw [scan_old _ _ _ _ _ h0] at h
      obtain ⟨i1, i2, i3, i4⟩ := scan_inv n l hg fl frm tt v v0 v1 es b q b' q' s (fun y hy => hes y (by simp [hy])) hI hv h
      refine ⟨i1, i2, i3, fun hs => ⟨fun y hy => ?_, (i4 hs).2⟩⟩
      rcases List.mem_cons.1 hy with rfl | hy
      · rw [i2 _ y.2.1 y.2.2 h0]; exact h0
      · exact (i4 hs).1 y hy
    · have hk : ∀ u : Int, 0 ≤ u → u < n → 0 ≤ rd b u → rd (b.set x.1.2.toNat x.1.1) u = rd b u := fun u u0 u1 hu => by
        rw [rd_set hI.len _ _ _ x.2.1 x.2.2 u0, if_neg (fun e => h0 (by rw [← e]; exact hu))]
      have hself : rd (b.set x.1.2.toNat x.1.1) x.1.2 = x.1.1 := by rw [rd_set hI.len _ _ _ x.2.1 x.2.2 x.2.1, if_pos rfl]
      have hpath : ∀ u : Int, 0 ≤ u → u < n → 0 ≤ rd (b.set x.1.2.toNat x.1.1) u → ∃ p, GP n l fl (b.set x.1.2.toNat x.1.1) frm u p := fun u u0 u1 hu => by
        by_cases e : u = x.1.2
        · subst e
          obtain ⟨p, hp⟩ := hI.path v v0 v1 hv
          refine ⟨x.1.1 :: p, ⟨fun e => h0 (by rw [e]; exact hI.root), ⟨u0, u1⟩, hself.symm, hx.1, hx.2.1, hx.2.2.2.1, hx.2.2.2.2.symm⟩, ?_⟩
          rw [hx.2.2.1]; exact hp.keep hk
        · rw [rd_set hI.len _ _ _ x.2.1 x.2.2 u0, if_neg e] at hu
          obtain ⟨p, hp⟩ := hI.path u u0 u1 hu
          exact ⟨p, hp.keep hk⟩
      have hroot : 0 ≤ rd (b.set x.1.2.toNat x.1.1) frm := by
        by_cases e : frm = x.1.2
        · exact absurd (by rw [← e]; exact hI.root) h0
        · by_cases hf : 0 ≤ frm
          · rw [rd_set hI.len _ _ _ x.2.1 x.2.2 hf, if_neg e]; exact hI.root
          · have h1 : rd (b.set x.1.2.toNat x.1.1) frm = rd (b.set x.1.2.toNat x.1.1) 0 := by unfold rd; rw [show frm.toNat = (0 : Int).toNat by omega]
            have h2 : rd b frm = rd b 0 := by unfold rd; rw [show frm.toNat = (0 : Int).toNat by omega]
            rw [h1, rd_set hI.len _ _ _ x.2.1 x.2.2 (Int.le_refl 0)]
            have := hI.root
            split
            · exact hx.1
            · rw [h2] at this; exact this
      have hself0 : 0 ≤ rd (b.set x.1.2.toNat x.1.1) x.1.2 := by rw [hself]; exact hx.1
      by_cases h2 : x.1.2 = tt
      · rw [scan_hit _ _ _ _ _ h0 h2] at h
        simp at h; obtain ⟨rfl, rfl, rfl⟩ := h
        exact ⟨⟨by simp [hI.len], hroot, hpath, fun y hy => ⟨(hI.que y hy).1, by rw [hk y (hI.que y hy).1.1 (hI.que y hy).1.2 (hI.que y hy).2]; exact (hI.que y hy).2⟩⟩, hk, fun _ => by rw [← h2]; exact hself0, fun h => by cases h⟩
      · rw [scan_new _ _ _ _ _ h0 h2] at h
        have hI2 : SInv n l fl frm (b.set x.1.2.toNat x.1.1) (q ++ [x.1.2]) := ⟨by simp [hI.len], hroot, hpath, fun y hy => by
          rcases List.mem_append.1 hy with hy | hy
          · exact ⟨(hI.que y hy).1, by rw [hk y (hI.que y hy).1.1 (hI.que y hy).1.2 (hI.que y hy).2]; exact (hI.que y hy).2⟩
          · obtain rfl := List.mem_singleton.1 hy; exact ⟨x.2, hself0⟩⟩
        obtain ⟨i1, i2, i3, i4⟩ := scan_inv n l hg fl frm tt v v0 v1 es _ _ b' q' s (fun y hy => hes y (by simp [hy])) hI2 (by rw [hk v v0 v1 hv]; exact hv) h
        refine ⟨i1, fun u u0 u1 hu => by rw [i2 u u0 u1 (by rw [hk u u0 u1 hu]; exact hu), hk u u0 u1 hu], i3, fun hs => ⟨fun y hy => ?_, fun y hy => (i4 hs).2.1 y (by simp [hy]), fun u u0 u1 hu => ?_⟩⟩
        · rcases List.mem_cons.1 hy with rfl | hy
          · rw [i2 _ y.2.1 y.2.2 hself0]; exact hself0
          · exact (i4 hs).1 y hy
        · rcases (i4 hs).2.2 u u0 u1 hu with hu2 | hu2
          · by_cases e : u = x.1.2
            · exact .inr ((i4 hs).2.1 u (by simp [e]))
            · rw [rd_set hI.len _ _ _ x.2.1 x.2.2 u0, if_neg e] at hu2; exact .inl hu2
          · exact .inr hu2
/-- what a search has found -/
theorem bfs_inv (n : Nat) (l : List S61) (hg : GoodL n l) (fl : List Int) (frm tt : Int) : ∀ (k : Nat) (b q bys : List Int), SInv n l fl frm b q → (∀ v : Int, 0 ≤ v → v < n → 0 ≤ rd b v → v ∈ q ∨ Shut n l fl b v) →
    bfs tt (useG n l fl) k b q = some bys →
    bys.length = n ∧ 0 ≤ rd bys frm ∧ (∀ v : Int, 0 ≤ v → v < n → 0 ≤ rd bys v → ∃ p, GP n l fl bys frm v p) ∧ (rd bys tt < 0 → ∀ v : Int, 0 ≤ v → v < n → 0 ≤ rd bys v → Shut n l fl bys v)
  | 0, b, q, bys, hI, hS, h => by simp [bfs] at h
  | k + 1, b, [], bys, hI, hS, h => by
    simp [bfs] at h; subst h
    exact ⟨hI.len, hI.root, hI.path, fun _ v v0 v1 hv => by rcases hS v v0 v1 hv with h | h; · cases h
                                                            · exact h⟩
  | k + 1, b, v :: q, bys, hI, hS, h => by
    obtain ⟨⟨v0, v1⟩, hv⟩ := hI.que v (by simp)
    obtain ⟨b', q', s, hs⟩ : ∃ b' q' s, scanU tt b q (useG n l fl v) = (b', q', s) := ⟨_, _, _, rfl⟩
    obtain ⟨i1, i2, i3, i4⟩ := scan_inv n l hg fl frm tt v v0 v1 _ b q b' q' s (fun x hx => hx) ⟨hI.len, hI.root, hI.path, fun x hx => hI.que x (by simp [hx])⟩ hv hs
    simp only [bfs, hs] at h
    cases s with
    | true =>
      simp at h; subst h
      exact ⟨i1.len, i1.root, i1.path, fun ht => by have := i3 rfl; omega⟩
    | false =>
      simp at h
      refine bfs_inv n l hg fl frm tt k b' q' bys i1 (fun u u0 u1 hu => ?_) h
      obtain ⟨j1, j2, j3⟩ := i4 rfl
      rcases j3 u u0 u1 hu with h1 | h1
      · rcases hS u u0 u1 h1 with h2 | h2
        · rcases List.mem_cons.1 h2 with rfl | h2
          · exact .inr j1
          · exact .inl (j2 u h2)
        · exact .inr fun x hx => by rw [i2 _ x.2.1 x.2.2 (h2 x hx)]; exact h2 x hx
      · exact .inl h1
/-- a search ends -/
theorem bfs_ends (n : Nat) (l : List S61) (hg : GoodL n l) (fl : List Int) (tt : Int) : ∀ (g : Nat) (b q : List Int), b.length = n → (∀ x ∈ q, 0 ≤ x ∧ x < (n : Int)) → 2 * unset b + q.length ≤ g → ∃ k bys, bfs tt (useG n l fl) k b q = some bys
  | g, b, [], hb, hq, hm => ⟨1, b, rfl⟩
  | 0, b, v :: q, hb, hq, hm => by simp at hm
  | g + 1, b, v :: q, hb, hq, hm => by
    obtain ⟨b', q', s, hs⟩ : ∃ b' q' s, scanU tt b q (useG n l fl v) = (b', q', s) := ⟨_, _, _, rfl⟩
    obtain ⟨f1, f2, f3⟩ := scan_facts tt _ b q b' q' s hs hb (fun x hx => hq x (by simp [hx])) (fun e he => ((use_iff n l fl hg v (hq v (by simp)).1 e).1 he).1)
    cases s with
    | true => exact ⟨1, b', by simp [bfs, hs]⟩
    | false =>
      obtain ⟨k, bys, h⟩ := bfs_ends n l hg fl tt g b' q' f1 f2 (by simp at hm; omega)
      exact ⟨k + 1, bys, by simpa [bfs, hs] using h⟩
/-- one answer -/
theorem bfs_det (tt : Int) {n : Nat} (use : Int → List (RE n)) : ∀ (k k' : Nat) (b q r r' : List Int), bfs tt use k b q = some r → bfs tt use k' b q = some r' → r = r'
  | 0, _, _, _, _, _, h, _ => by simp [bfs] at h
  | _ + 1, 0, _, _, _, _, _, h => by simp [bfs] at h
  | k + 1, k' + 1, b, [], r, r', h, h' => by simp [bfs] at h h'; exact h.symm.trans h'
  | k + 1, k' + 1, b, v :: q, r, r', h, h' => by
    simp only [bfs] at h h'
    split at h
    · rename_i hc; rw [if_pos hc] at h'; simp at h h'; exact h.symm.trans h'
    · rename_i hc; rw [if_neg hc] at h'; exact bfs_det tt use k k' _ _ r r' h h'
end Go.Proofs.Ytadeidhefjifaaa.Px
