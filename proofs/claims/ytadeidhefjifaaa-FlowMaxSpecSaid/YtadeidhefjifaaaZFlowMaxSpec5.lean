/- Parts of the proof of FlowMaxSpec, put together from several texts (words that the printing program wrote for this claim, walks, plain facts): the declarations that this law needs. -/
import Derived.Test.YtadeidhefjifaaaZFlowMaxSpec4
section
set_option linter.unusedVariables false
set_option linter.unusedSimpArgs false
namespace Go.Proofs.Ytadeidhefjifaaa.Px
open Go.RowKit Go.Shelf Go.Proofs.YtadeidhefjifaaaW.PrintWords Go.Proofs.YtadeidhefjifaaaW.PrintLast Go.Proofs.YtadeidhefjifaaaW.PrintMore
/-- flows within the capacities, by index -/
def Bd (l : List S61) (fl : List Int) : Prop := fl.length = l.length ∧ ∀ i : Int, 0 ≤ i → i < l.length → 0 ≤ rd fl i ∧ rd fl i ≤ (rd_T61 l i).f2
theorem bd_iff : ∀ (l : List S61) (fl : List Int), FlowM.Bnd S61.f2 l fl ↔ Bd l fl
  | [], [] => ⟨fun _ => ⟨rfl, fun i h0 h1 => by simp at h1; omega⟩, fun _ => True.intro⟩
  | [], _ :: _ => ⟨fun h => h.elim, fun h => by simpa using h.1⟩
  | _ :: _, [] => ⟨fun h => h.elim, fun h => by simpa using h.1⟩
  | x :: l, f :: fl => by
    have ih := bd_iff l fl
    constructor
    · rintro ⟨h1, h2⟩
      obtain ⟨e, h2⟩ := ih.1 h2
      refine ⟨by simp [e], fun i i0 i1 => ?_⟩
      by_cases hi : i = 0
      · subst hi; exact h1
      · obtain ⟨j, rfl⟩ : ∃ j : Nat, i = (j : Int) + 1 := ⟨(i - 1).toNat, by omega⟩
        have := h2 j (by omega) (by simp at i1; omega)
        have e1 : ((j : Int) + 1).toNat = j + 1 := by omega
        simpa [rd, rd_T61, List.getD, e1] using this
    · rintro ⟨e, h⟩
      refine ⟨h 0 (by omega) (by simp), ih.2 ⟨by simpa using e, fun i i0 i1 => ?_⟩⟩
      have := h (i + 1) (by omega) (by simp; omega)
      have e1 : (i + 1).toNat = i.toNat + 1 := by omega
      simpa [rd, rd_T61, List.getD, e1] using this
theorem closed_iff (C : Int → Bool) : ∀ (l : List S61) (fl : List Int), fl.length = l.length → (FlowM.Closed S61.f0 S61.f1 S61.f2 C l fl ↔ ∀ i : Int, 0 ≤ i → i < l.length →
    (C (rd_T61 l i).f0 = true → C (rd_T61 l i).f1 = false → rd fl i = (rd_T61 l i).f2) ∧ (C (rd_T61 l i).f1 = true → C (rd_T61 l i).f0 = false → rd fl i = 0))
  | [], [], _ => ⟨fun _ i h0 h1 => by simp at h1; omega, fun _ => True.intro⟩
  | [], _ :: _, h => by simp at h
  | _ :: _, [], h => by simp at h
  | x :: l, f :: fl, hl => by
    have ih := closed_iff C l fl (by simpa using hl)
    constructor
    · rintro ⟨h1, h2⟩ i i0 i1
      have h2 := ih.1 h2
      by_cases hi : i = 0
      · subst hi; exact h1
      · obtain ⟨j, rfl⟩ : ∃ j : Nat, i = (j : Int) + 1 := ⟨(i - 1).toNat, by omega⟩
        have := h2 j (by omega) (by simp at i1; omega)
        have e1 : ((j : Int) + 1).toNat = j + 1 := by omega
        simpa [rd, rd_T61, List.getD, e1] using this
    · intro h
      refine ⟨h 0 (by omega) (by simp), ih.2 fun i i0 i1 => ?_⟩
      have := h (i + 1) (by omega) (by simp; omega)
      have e1 : (i + 1).toNat = i.toNat + 1 := by omega
      simpa [rd, rd_T61, List.getD, e1] using this
abbrev outsG (l : List S61) (fl : List Int) (v : Int) : Int := FlowM.outs S61.f0 S61.f1 l fl v
theorem outs_set : ∀ (l : List S61) (fl : List Int) (i : Nat) (y v : Int), fl.length = l.length → i < l.length →
    outsG l (fl.set i y) v = outsG l fl v + ((if (rd_T61 l i).f0 = v then y - rd fl i else 0) - (if (rd_T61 l i).f1 = v then y - rd fl i else 0))
  | [], fl, i, y, v, _, h => by simp at h
  | _ :: _, [], i, y, v, h, _ => by simp at h
  | x :: l, f :: fl, 0, y, v, hl, h => by
    simp only [outsG, List.set_cons_zero, FlowM.outs, rd_T61, rd, List.getD]
    simp
    split <;> split <;> omega
  | x :: l, f :: fl, i + 1, y, v, hl, h => by
    have ih := outs_set l fl i y v (by simpa using hl) (by simpa using h)
    have e1 : rd_T61 (x :: l) ((i + 1 : Nat) : Int) = rd_T61 l i := by simp [rd_T61, List.getD]
    have e2 : rd (f :: fl) ((i + 1 : Nat) : Int) = rd fl i := by simp [rd, List.getD]
    rw [e1, e2]
    simp only [outsG, List.set_cons_succ, FlowM.outs] at ih ⊢
    rw [ih]; omega
theorem pushF_length (fl : List Int) (r m : Int) : (pushF fl r m).length = fl.length := by simp [pushF]
theorem rd_push (fl : List Int) (r m i : Int) (r0 : 0 ≤ r) (r1 : r < 2 * fl.length) (i0 : 0 ≤ i) : rd (pushF fl r m) i = if i = r / 2 then (if r % 2 = 1 then rd fl (r / 2) - m else rd fl (r / 2) + m) else rd fl i := by
  have := rd_set (b := fl) rfl (r / 2) (if r % 2 = 1 then rd fl (r / 2) - m else rd fl (r / 2) + m) i (by omega) (by omega) i0
  unfold pushF; exact this
theorem outs_push (l : List S61) (fl : List Int) (r m v : Int) (hl : fl.length = l.length) (r0 : 0 ≤ r) (r1 : r < 2 * l.length) :
    outsG l (pushF fl r m) v = outsG l fl v + ((if begR l r = v then m else 0) - (if endR l r = v then m else 0)) := by
  unfold pushF
  rw [outs_set l fl (r / 2).toNat _ v hl (by omega), Int.toNat_of_nonneg (by omega)]
  unfold begR endR
  by_cases hp : r % 2 = 0
  · have e2 : (if r % 2 = 1 then rd fl (r / 2) - m else rd fl (r / 2) + m) - rd fl (r / 2) = m := by rw [if_neg (by omega)]; omega
    rw [if_pos hp, if_pos hp, e2]
  · have e2 : (if r % 2 = 1 then rd fl (r / 2) - m else rd fl (r / 2) + m) - rd fl (r / 2) = -m := by rw [if_pos (by omega)]; omega
    rw [if_neg hp, if_neg hp, e2]; split <;> split <;> omega
/-- more flows along a path -/
def aug (fl : List Int) (p : List Int) (m : Int) : List Int := p.foldl (fun f r => pushF f r m) fl
/-- the least room along a path -/
def leastP (l : List S61) (fl : List Int) (p : List Int) : Int := p.foldl (fun m r => mn m (capR l fl r)) 1073741824
theorem mn_le (a b : Int) : mn a b ≤ a ∧ mn a b ≤ b ∧ (mn a b = a ∨ mn a b = b) := by
  unfold mn; split <;> omega
theorem fold_mn (g : Int → Int) : ∀ (p : List Int) (m0 : Int), p.foldl (fun m r => mn m (g r)) m0 ≤ m0 ∧ (∀ r ∈ p, p.foldl (fun m r => mn m (g r)) m0 ≤ g r) ∧ (1 ≤ m0 → (∀ r ∈ p, 1 ≤ g r) → 1 ≤ p.foldl (fun m r => mn m (g r)) m0)
  | [], m0 => ⟨Int.le_refl _, fun r h => (by cases h), fun h _ => h⟩
  | s :: p, m0 => by
    obtain ⟨a, b, c⟩ := mn_le m0 (g s)
    obtain ⟨i1, i2, i3⟩ := fold_mn g p (mn m0 (g s))
    simp only [List.foldl_cons]
    refine ⟨by omega, fun r hr => ?_, fun h1 h2 => i3 (by have := h2 s (by simp); omega) (fun r hr => h2 r (by simp [hr]))⟩
    rcases List.mem_cons.1 hr with rfl | hr
    · omega
    · exact i2 r hr
theorem leastP_ok {n : Nat} {l : List S61} {fl b : List Int} {frm v : Int} {p : List Int} (h : GP n l fl b frm v p) : 1 ≤ leastP l fl p ∧ leastP l fl p ≤ 1073741824 ∧ ∀ r ∈ p, leastP l fl p ≤ capR l fl r := by
  obtain ⟨a, b, c⟩ := fold_mn (capR l fl) p 1073741824
  exact ⟨c (by omega) (fun r hr => by have := (h.mem r hr).2.2; omega), a, b⟩
theorem cap_push {l : List S61} {fl : List Int} {r m s : Int} (hl : fl.length = l.length) (r0 : 0 ≤ r) (r1 : r < 2 * l.length) (s0 : 0 ≤ s) (hne : s / 2 ≠ r / 2) : capR l (pushF fl r m) s = capR l fl s := by
  unfold capR
  rw [rd_push fl r m (s / 2) r0 (by omega) (by omega), if_neg hne]
theorem bd_push {l : List S61} {fl : List Int} {r m : Int} (h : Bd l fl) (r0 : 0 ≤ r) (r1 : r < 2 * l.length) (m0 : 0 ≤ m) (hm : m ≤ capR l fl r) : Bd l (pushF fl r m) := by
  refine ⟨by rw [pushF_length]; exact h.1, fun i i0 i1 => ?_⟩
  rw [rd_push fl r m i r0 (by have := h.1; omega) i0]
  by_cases e : i = r / 2
  · subst e
    rw [if_pos rfl]
    have := h.2 (r / 2) i0 i1
    unfold capR at hm
    by_cases hp : r % 2 = 0
    · rw [if_pos hp] at hm; rw [if_neg (by omega)]; omega
    · rw [if_neg hp] at hm; rw [if_pos (by omega)]; omega
  · rw [if_neg e]; exact h.2 i i0 i1
theorem bd_aug {l : List S61} {m : Int} (m0 : 0 ≤ m) : ∀ (p : List Int) (fl : List Int), Bd l fl → (∀ r ∈ p, 0 ≤ r ∧ r < 2 * l.length ∧ m ≤ capR l fl r) → (p.map (· / 2)).Nodup → Bd l (aug fl p m)
  | [], fl, h, _, _ => h
  | r :: p, fl, h, hp, hn => by
    obtain ⟨a, b, c⟩ := hp r (by simp)
    rw [List.map_cons, List.nodup_cons] at hn
    refine bd_aug m0 p (pushF fl r m) (bd_push h a b m0 c) (fun s hs => ?_) hn.2
    obtain ⟨d, e, f⟩ := hp s (by simp [hs])
    refine ⟨d, e, ?_⟩
    rw [cap_push h.1 a b d (fun he => hn.1 (by rw [← he]; exact List.mem_map.2 ⟨s, hs, rfl⟩))]; exact f
theorem aug_append (fl p q : List Int) (m : Int) : aug fl (p ++ q) m = aug (aug fl p m) q m := by simp [aug]
theorem outs_aug {n : Nat} {l : List S61} {fl0 b : List Int} {frm : Int} (v m : Int) : ∀ (p : List Int) (x : Int) (fl : List Int), GP n l fl0 b frm x p → fl.length = l.length →
    outsG l (aug fl p m) v = outsG l fl v + ((if frm = v then m else 0) - (if x = v then m else 0))
  | [], x, fl, h, _ => by have : x = frm := h; subst this; show outsG l fl v = _; omega
  | r :: p, x, fl, h, hl => by
    show outsG l (aug (pushF fl r m) p m) v = _
    rw [outs_aug v m p (begR l r) (pushF fl r m) h.2 (by rw [pushF_length]; exact hl), outs_push l fl r m v hl h.1.2.2.2.1 h.1.2.2.2.2.1, h.1.2.2.2.2.2.2]
    omega
/-- a flow in a good network -/
abbrev FlowG (n : Nat) (l : List S61) (frm tt : Int) (fl : List Int) : Prop := FlowM.Flow S61.f0 S61.f1 S61.f2 n l frm tt fl
abbrev OptG (n : Nat) (l : List S61) (frm tt : Int) (fl : List Int) (C : Int → Bool) : Prop := FlowM.Opt S61.f0 S61.f1 S61.f2 n l frm tt fl C
theorem flow_okf {n : Nat} {l : List S61} {frm tt : Int} {fl : List Int} (hg : GoodL n l) (h : FlowG n l frm tt fl) : Okf l fl := fun i i0 i1 => by
  have := ((bd_iff l fl).1 h.bnd).2 i i0 i1
  have := (hg _ (rdT_mem l i i0 i1)).2.2.2
  omega
theorem flow_aug {n : Nat} {l : List S61} {frm tt : Int} {fl b p : List Int} (hne : frm ≠ tt) (h : FlowG n l frm tt fl) (hp : GP n l fl b frm tt p) : FlowG n l frm tt (aug fl p (leastP l fl p)) ∧ outsG l fl frm + 1 ≤ outsG l (aug fl p (leastP l fl p)) frm := by
  obtain ⟨a, _, c⟩ := leastP_ok hp
  have hb := (bd_iff l fl).1 h.bnd
  refine ⟨⟨(bd_iff l _).2 (bd_aug (by omega) p fl hb (fun r hr => ⟨(hp.mem r hr).1, (hp.mem r hr).2.1, c r hr⟩) hp.nodup), fun v v0 v1 h1 h2 => ?_⟩, ?_⟩
  · have := outs_aug v (leastP l fl p) p tt fl hp hb.1
    rw [if_neg (fun e => h1 e.symm), if_neg (fun e => h2 e.symm)] at this
    have h3 := h.cons v v0 v1 h1 h2
    simp only [outsG] at this
    omega
  · have := outs_aug frm (leastP l fl p) p tt fl hp hb.1
    rw [if_pos rfl, if_neg (fun e => hne e.symm)] at this
    omega
/-- where no path is left -/
theorem opt_of_done {n : Nat} {l : List S61} {frm tt : Int} {fl bys : List Int} (hg : GoodL n l) (h : FlowG n l frm tt fl) (f0 : 0 ≤ frm) (f1 : frm < n) (t0 : 0 ≤ tt) (t1 : tt < n)
    (hlen : bys.length = n) (hroot : 0 ≤ rd bys frm) (hpath : ∀ v : Int, 0 ≤ v → v < n → 0 ≤ rd bys v → ∃ p, GP n l fl bys frm v p) (hshut : ∀ v : Int, 0 ≤ v → v < n → 0 ≤ rd bys v → Shut n l fl bys v) (ht : rd bys tt < 0) :
    OptG n l frm tt fl (fun v => decide (0 ≤ rd bys v)) := by
  have hb := (bd_iff l fl).1 h.bnd
  have hsh : ∀ r : Int, 0 ≤ r → r < 2 * l.length → 0 ≤ rd bys (begR l r) → rd bys (endR l r) < 0 → capR l fl r ≤ 0 := fun r r0 r1 hv hu => by
    have hv2 := begR_in n l hg r r0 r1
    have he := endR_in n l hg r r0 r1
    by_cases hc : capR l fl r > 0
    · have := hshut _ hv2.1 hv2.2 hv ⟨(r, endR l r), he⟩ ((use_iff n l fl hg _ hv2.1 _).2 ⟨r0, r1, rfl, hc, rfl⟩)
      have : 0 ≤ rd bys (endR l r) := this
      omega
    · omega
  refine ⟨h, decide_eq_true hroot, decide_eq_false (by omega), (closed_iff _ l fl hb.1).2 fun i i0 i1 => ⟨fun h1 h2 => ?_, fun h1 h2 => ?_⟩, fun D hD hc v v0 v1 hv => ?_⟩
  · have h1 := of_decide_eq_true h1
    have h2 := of_decide_eq_false h2
    have := hsh (2 * i) (by omega) (by omega) (by unfold begR; rw [if_pos (by omega), show 2 * i / 2 = i by omega]; exact h1) (by unfold endR; rw [if_pos (by omega), show 2 * i / 2 = i by omega]; omega)
    unfold capR at this
    rw [if_pos (by omega), show 2 * i / 2 = i by omega] at this
    have := (hb.2 i i0 i1).2
    omega
  · have h1 := of_decide_eq_true h1
    have h2 := of_decide_eq_false h2
    have := hsh (2 * i + 1) (by omega) (by omega) (by unfold begR; rw [if_neg (by omega), show (2 * i + 1) / 2 = i by omega]; exact h1) (by unfold endR; rw [if_neg (by omega), show (2 * i + 1) / 2 = i by omega]; omega)
    unfold capR at this
    rw [if_neg (by omega), show (2 * i + 1) / 2 = i by omega] at this
    have := (hb.2 i i0 i1).1
    omega
  · obtain ⟨p, hp⟩ := hpath v v0 v1 (of_decide_eq_true hv)
    have hc := (closed_iff D l fl hb.1).1 hc
    clear hv v0 v1
    induction p generalizing v with
    | nil => have : v = frm := hp; rw [this]; exact hD
    | cons r p ih =>
      have hbd := ih _ hp.2
      obtain ⟨_, _, _, r0, r1, hcap, he⟩ := hp.1
      obtain ⟨c1, c2⟩ := hc (r / 2) (by omega) (by omega)
      cases hDv : D v with
      | true => rfl
      | false =>
        exfalso
        unfold begR at hbd
        unfold endR at he
        unfold capR at hcap
        by_cases hpar : r % 2 = 0
        · rw [if_pos hpar] at hbd he hcap
          have := c1 hbd (by rw [he]; exact hDv)
          omega
        · rw [if_neg hpar] at hbd he hcap
          have := c2 hbd (by rw [he]; exact hDv)
          omega
end Go.Proofs.Ytadeidhefjifaaa.Px
end
section
set_option linter.unusedVariables false
set_option linter.unusedSimpArgs false
namespace Go.Proofs.Ytadeidhefjifaaa.Px
open Go.RowKit Go.Shelf Go.Proofs.YtadeidhefjifaaaW.PrintWords Go.Proofs.YtadeidhefjifaaaW.PrintLast Go.Proofs.YtadeidhefjifaaaW.PrintMore
/-- the entries that a search begins with -/
abbrev bys0 (n : Nat) (l : List S61) (frm : Int) : List Int := (List.replicate n (-1)).set frm.toNat ((l.length : Int) * 2)
/-- what a search answers -/
def Srch (n : Nat) (l : List S61) (fl : List Int) (frm tt : Int) (bys : List Int) : Prop := ∃ k, bfs tt (useG n l fl) k (bys0 n l frm) [frm] = some bys
theorem rd_neg (n : Nat) (v : Int) (v0 : 0 ≤ v) (v1 : v < n) : rd (List.replicate n (-1)) v = -1 := by simp [rd, List.getD, show v.toNat < n by omega]
theorem rd_bys0 (n : Nat) (l : List S61) (frm v : Int) (f0 : 0 ≤ frm) (f1 : frm < n) (v0 : 0 ≤ v) (v1 : v < n) : rd (bys0 n l frm) v = if v = frm then (l.length : Int) * 2 else -1 := by
  rw [rd_set (n := n) (by simp) frm _ v f0 f1 v0, rd_neg n v v0 v1]
theorem sinv0 (n : Nat) (l : List S61) (fl : List Int) (frm : Int) (f0 : 0 ≤ frm) (f1 : frm < n) : SInv n l fl frm (bys0 n l frm) [frm] where
  len := by simp
  root := by rw [rd_bys0 n l frm frm f0 f1 f0 f1, if_pos rfl]; omega
  path := fun v v0 v1 h => by
    rw [rd_bys0 n l frm v f0 f1 v0 v1] at h
    by_cases e : v = frm
    · exact ⟨[], e⟩
    · rw [if_neg e] at h; omega
  que := fun x hx => by
    obtain rfl := List.mem_singleton.1 hx
    exact ⟨⟨f0, f1⟩, by rw [rd_bys0 n l x x f0 f1 f0 f1, if_pos rfl]; omega⟩
theorem srch_facts {n : Nat} {l : List S61} {fl : List Int} {frm tt : Int} {bys : List Int} (hg : GoodL n l) (f0 : 0 ≤ frm) (f1 : frm < n) (h : Srch n l fl frm tt bys) :
    bys.length = n ∧ 0 ≤ rd bys frm ∧ (∀ v : Int, 0 ≤ v → v < n → 0 ≤ rd bys v → ∃ p, GP n l fl bys frm v p) ∧ (rd bys tt < 0 → ∀ v : Int, 0 ≤ v → v < n → 0 ≤ rd bys v → Shut n l fl bys v) := by
  obtain ⟨k, hk⟩ := h
  refine bfs_inv n l hg fl frm tt k _ _ bys (sinv0 n l fl frm f0 f1) (fun v v0 v1 hv => .inl ?_) hk
  rw [rd_bys0 n l frm v f0 f1 v0 v1] at hv
  by_cases e : v = frm
  · simp [e]
  · rw [if_neg e] at hv; omega
theorem srch_ends (n : Nat) (l : List S61) (fl : List Int) (frm tt : Int) (hg : GoodL n l) (f0 : 0 ≤ frm) (f1 : frm < n) : ∃ bys, Srch n l fl frm tt bys := by
  obtain ⟨k, bys, h⟩ := bfs_ends n l hg fl tt _ (bys0 n l frm) [frm] (by simp) (fun x hx => by obtain rfl := List.mem_singleton.1 hx; exact ⟨f0, f1⟩) (Nat.le_refl _)
  exact ⟨bys, k, h⟩
theorem srch_det {n : Nat} {l : List S61} {fl : List Int} {frm tt : Int} {b b' : List Int} (h : Srch n l fl frm tt b) (h' : Srch n l fl frm tt b') : b = b' := by
  obtain ⟨k, h⟩ := h; obtain ⟨k', h'⟩ := h'
  exact bfs_det tt _ k k' _ _ _ _ h h'
/-- which nodes were met -/
def cutB (bys : List Int) : List Bool := bys.map fun r => decide (0 ≤ r)
/-- the rounds from a flow on, and what they come to -/
inductive Run (n : Nat) (l : List S61) (frm tt : Int) : List Int → List Int → List Bool → Prop
  | done {fl bys : List Int} : Srch n l fl frm tt bys → rd bys tt < 0 → Run n l frm tt fl fl (cutB bys)
  | step {fl bys p r : List Int} {c : List Bool} : Srch n l fl frm tt bys → 0 ≤ rd bys tt → GP n l fl bys frm tt p → Run n l frm tt (aug fl p (leastP l fl p)) r c → Run n l frm tt fl r c
theorem Run.det {n : Nat} {l : List S61} {frm tt : Int} {fl r r' : List Int} {c c' : List Bool} (h : Run n l frm tt fl r c) (h' : Run n l frm tt fl r' c') : r = r' ∧ c = c' := by
  induction h with
  | done hs ht =>
    cases h' with
    | done hs' ht' => exact ⟨rfl, by rw [srch_det hs hs']⟩
    | step hs' ht' _ _ => rw [srch_det hs hs'] at ht; omega
  | step hs ht hp _ ih =>
    cases h' with
    | done hs' ht' => rw [srch_det hs hs'] at ht; omega
    | step hs' ht' hp' h' =>
      obtain rfl := srch_det hs hs'
      obtain rfl := hp.det hp'
      exact ih h'
/-- a cut as a set of nodes -/
def Cof (c : List Bool) (v : Int) : Bool := c.getD v.toNat false
theorem cof_cut {n : Nat} {bys : List Int} (hl : bys.length = n) (v : Int) (v0 : 0 ≤ v) (v1 : v < n) : Cof (cutB bys) v = decide (0 ≤ rd bys v) := by
  simp [Cof, cutB, rd, List.getD, show v.toNat < bys.length by omega]
theorem opt_congr {n : Nat} {l : List S61} {frm tt : Int} {fl : List Int} {C D : Int → Bool} (hg : GoodL n l) (f0 : 0 ≤ frm) (f1 : frm < n) (t0 : 0 ≤ tt) (t1 : tt < n) (h : OptG n l frm tt fl C) (e : ∀ v : Int, 0 ≤ v → v < n → C v = D v) : OptG n l frm tt fl D := by
  have hb := (bd_iff l fl).1 h.flow.bnd
  refine ⟨h.flow, by rw [← e _ f0 f1]; exact h.hs, by rw [← e _ t0 t1]; exact h.ht, (closed_iff D l fl hb.1).2 fun i i0 i1 => ?_, fun X hX hc v v0 v1 hv => h.least X hX hc v v0 v1 (by rw [e v v0 v1]; exact hv)⟩
  have := (closed_iff C l fl hb.1).1 h.closed i i0 i1
  have hx := hg _ (rdT_mem l i i0 i1)
  rw [e _ hx.1.1 hx.1.2, e _ hx.2.1.1 hx.2.1.2] at this
  exact this
theorem Run.opt {n : Nat} {l : List S61} {frm tt : Int} {fl r : List Int} {c : List Bool} (hg : GoodL n l) (f0 : 0 ≤ frm) (f1 : frm < n) (t0 : 0 ≤ tt) (t1 : tt < n) (hne : frm ≠ tt) (h : Run n l frm tt fl r c) (hf : FlowG n l frm tt fl) : OptG n l frm tt r (Cof c) ∧ c.length = n := by
  induction h with
  | done hs ht =>
    obtain ⟨a, b, d, e⟩ := srch_facts hg f0 f1 hs
    exact ⟨opt_congr hg f0 f1 t0 t1 (opt_of_done hg hf f0 f1 t0 t1 a b d (e ht) ht) (fun v v0 v1 => (cof_cut a v v0 v1).symm), by simp [cutB, a]⟩
  | step hs ht hp _ ih => exact ih (flow_aug hne hf hp).1
theorem Run.ends (n : Nat) (l : List S61) (frm tt : Int) (hg : GoodL n l) (f0 : 0 ≤ frm) (f1 : frm < n) (t0 : 0 ≤ tt) (t1 : tt < n) (hne : frm ≠ tt) : ∀ (g : Nat) (fl : List Int), FlowG n l frm tt fl →
    (FlowM.cap S61.f0 S61.f1 S61.f2 (fun v => decide (v = frm)) l - outsG l fl frm).toNat ≤ g → ∃ r c, Run n l frm tt fl r c := by
  intro g
  induction g with
  | zero =>
    intro fl hf hg0
    obtain ⟨bys, hs⟩ := srch_ends n l fl frm tt hg f0 f1
    obtain ⟨a, b, d, e⟩ := srch_facts hg f0 f1 hs
    by_cases ht : rd bys tt < 0
    · exact ⟨_, _, .done hs ht⟩
    · obtain ⟨p, hp⟩ := d tt t0 t1 (by omega)
      obtain ⟨h1, h2⟩ := flow_aug hne hf hp
      have := FlowM.weak (C := fun v => decide (v = frm)) (by omega) hg h1 f0 f1 (by simp) (by simp; exact fun e => hne e.symm)
      simp only [outsG] at h2 hg0
      omega
  | succ g ih =>
    intro fl hf hg0
    obtain ⟨bys, hs⟩ := srch_ends n l fl frm tt hg f0 f1
    obtain ⟨a, b, d, e⟩ := srch_facts hg f0 f1 hs
    by_cases ht : rd bys tt < 0
    · exact ⟨_, _, .done hs ht⟩
    · obtain ⟨p, hp⟩ := d tt t0 t1 (by omega)
      obtain ⟨h1, h2⟩ := flow_aug hne hf hp
      obtain ⟨r, c, h⟩ := ih _ h1 (by simp only [outsG] at h2 hg0 ⊢; omega)
      exact ⟨r, c, .step hs (by omega) hp h⟩
theorem outs_zero : ∀ (l : List S61) (v : Int), outsG l (List.replicate l.length 0) v = 0
  | [], v => rfl
  | x :: l, v => by
    have := outs_zero l v
    simp only [outsG, List.length_cons, List.replicate_succ, FlowM.outs] at this ⊢
    rw [this]; simp
theorem flow_zero (n : Nat) (l : List S61) (frm tt : Int) (hg : GoodL n l) : FlowG n l frm tt (List.replicate l.length 0) where
  bnd := (bd_iff l _).2 ⟨by simp, fun i i0 i1 => by
    have := (hg _ (rdT_mem l i i0 i1)).2.2.2.1
    have e : rd (List.replicate l.length 0) i = 0 := by simp [rd, List.getD, show i.toNat < l.length by omega]
    rw [e]; omega⟩
  cons := fun v _ _ _ _ => outs_zero l v
open Classical in
/-- what the rounds come to -/
noncomputable def runOut (n : Nat) (l : List S61) (frm tt : Int) : List Int × List Bool := if h : ∃ x : List Int × List Bool, Run n l frm tt (List.replicate l.length 0) x.1 x.2 then Classical.choose h else ([], [])
theorem runOut_eq {n : Nat} {l : List S61} {frm tt : Int} {r : List Int} {c : List Bool} (h : Run n l frm tt (List.replicate l.length 0) r c) : runOut n l frm tt = (r, c) := by
  have hex : ∃ x : List Int × List Bool, Run n l frm tt (List.replicate l.length 0) x.1 x.2 := ⟨(r, c), h⟩
  unfold runOut
  rw [dif_pos hex]
  obtain ⟨a, b⟩ := Run.det (Classical.choose_spec hex) h
  exact Prod.ext a b
/-- a good network, and two different nodes of it -/
structure Good (a0 : Int) (l : List S61) (a2 a3 : Int) : Prop where
  n2 : 2 ≤ a0
  n4 : a0 ≤ 4096
  m : l.length ≤ 65536
  ends : GoodL a0 l
  f0 : 0 ≤ a2
  f1 : a2 < a0
  t0 : 0 ≤ a3
  t1 : a3 < a0
  ne : a2 ≠ a3
theorem badE_iff (n : Int) (x : S61) : badE n x = false ↔ ((0 ≤ x.f0 ∧ x.f0 < n) ∧ (0 ≤ x.f1 ∧ x.f1 < n) ∧ x.f0 ≠ x.f1 ∧ 0 ≤ x.f2 ∧ x.f2 ≤ 1073741824) := by
  simp only [badE, nodeB, Bool.or_eq_false_iff, Bool.not_eq_false', Bool.and_eq_true, decide_eq_true_eq, decide_eq_false_iff_not, beq_eq_false_iff_ne, ne_eq, Int.not_lt]
  constructor
  · rintro ⟨⟨⟨⟨h1, h2⟩, h3⟩, h4⟩, h5⟩; exact ⟨h1, h2, h3, h4, h5⟩
  · rintro ⟨h1, h2, h3, h4, h5⟩; exact ⟨⟨⟨⟨h1, h2⟩, h3⟩, h4⟩, h5⟩
theorem chkV_zero (n : Int) (l : List S61) : chkV n l = 0 ↔ 2 ≤ n ∧ n ≤ 4096 ∧ l.length ≤ 65536 ∧ GoodL n l := by
  unfold chkV
  by_cases h : n < 2 ∨ 4096 < n ∨ 65536 < (l.length : Int)
  · rw [if_pos h]; constructor
    · intro h; cases h
    · intro h2; omega
  · rw [if_neg h]
    by_cases h2 : l.any (badE n) = true
    · rw [if_pos h2]; constructor
      · intro h; cases h
      · rintro ⟨_, _, _, hg⟩
        obtain ⟨x, hx, hb⟩ := List.any_eq_true.1 h2
        have := (badE_iff n x).2 (hg x hx)
        rw [this] at hb; cases hb
    · rw [if_neg h2]
      refine ⟨fun _ => ⟨by omega, by omega, by omega, fun x hx => (badE_iff n x).1 ?_⟩, fun _ => rfl⟩
      cases hb : badE n x with
      | false => rfl
      | true => exact absurd (List.any_eq_true.2 ⟨x, hx, hb⟩) h2
theorem chkV_two (n : Int) (l : List S61) : chkV n l = 0 ∨ chkV n l = 180 := by unfold chkV; split; · exact .inr rfl
                                                                                split; · exact .inr rfl
                                                                                exact .inl rfl
/-- what check answers -/
theorem check_eq (k : Nat) (a0 : Int) (l : List S61) (a2 a3 : Int) : flow_check.f (k + 1) a0 l a2 a3 = some (if chkV a0 l = 0 ∧ 0 ≤ a2 ∧ a2 < a0 ∧ 0 ≤ a3 ∧ a3 < a0 ∧ a2 ≠ a3 then 0 else 180) := by
  have := chkV_two a0 l
  simp only [flow_check.f, flow_Check.f, flow_check.j0, Option.bind_some]
  by_cases h0 : chkV a0 l = 0
  · rw [if_pos h0]
    by_cases h1 : a2 < 0
    · rw [if_pos h1, if_pos trivial, if_neg (by omega)]
    · rw [if_neg h1]
      by_cases h2 : a2 ≥ a0
      · rw [if_pos h2, if_pos trivial, if_neg (by omega)]
      · rw [if_neg h2]
        by_cases h3 : a3 < 0
        · rw [if_pos h3, if_pos trivial, if_neg (by omega)]
        · rw [if_neg h3]
          by_cases h4 : a3 ≥ a0
          · rw [if_pos h4, if_pos trivial, if_neg (by omega)]
          · rw [if_neg h4]
            by_cases h5 : a2 = a3
            · rw [if_pos (beq_iff_eq.2 h5), if_neg (by omega)]
            · rw [if_neg (by simp [h5]), if_pos ⟨h0, by omega, by omega, by omega, by omega, h5⟩]
  · rw [if_neg h0, if_neg (fun h => h0 h.1)]
    have h1 : chkV a0 l = 180 := by omega
    rw [h1]
theorem good_iff (a0 : Int) (l : List S61) (a2 a3 : Int) : (chkV a0 l = 0 ∧ 0 ≤ a2 ∧ a2 < a0 ∧ 0 ≤ a3 ∧ a3 < a0 ∧ a2 ≠ a3) ↔ Good a0 l a2 a3 := by
  rw [chkV_zero]
  exact ⟨fun ⟨⟨a, b, c, d⟩, e, f, g, h, i⟩ => ⟨a, b, c, d, e, f, g, h, i⟩, fun h => ⟨⟨h.n2, h.n4, h.m, h.ends⟩, h.f0, h.f1, h.t0, h.t1, h.ne⟩⟩
open Classical in
theorem check_good (k : Nat) (a0 : Int) (l : List S61) (a2 a3 : Int) : flow_check.f (k + 1) a0 l a2 a3 = some (if Good a0 l a2 a3 then 0 else 180) := by
  rw [check_eq]
  congr 1
  by_cases h : Good a0 l a2 a3
  · rw [if_pos h, if_pos ((good_iff a0 l a2 a3).2 h)]
  · rw [if_neg h, if_neg (fun e => h ((good_iff a0 l a2 a3).1 e))]
noncomputable def flow_Max.f (k : Nat) (a0 : Int) (l1 : List S61) (a2 : Int) (a3 : Int) : Option (List Int × List Bool × Int) :=
  (flow_check.f k a0 l1 a2 a3).bind fun e => if e = 0 then some ((runOut a0.toNat l1 a2 a3).1, (runOut a0.toNat l1 a2 a3).2, 0) else some ([], [], e)
theorem flow_Max.mono : ∀ a0 a1 a2 a3 k, LeO (flow_Max.f k a0 a1 a2 a3) (flow_Max.f (k + 1) a0 a1 a2 a3) := fun a0 a1 a2 a3 k =>
  LeO.bind (flow_check.mono a0 a1 a2 a3 k) (fun _ => LeO.refl _)
/-- what Max answers: a flow and the least minimum cut -/
theorem max_good (k : Nat) (a0 : Int) (l : List S61) (a2 a3 : Int) (h : Good a0 l a2 a3) : ∃ fl c, flow_Max.f (k + 1) a0 l a2 a3 = some (fl, c, 0) ∧ FlowM.Opt S61.f0 S61.f1 S61.f2 a0 l a2 a3 fl (Cof c) ∧ (c.length : Int) = a0 := by
  obtain ⟨n, rfl⟩ := Int.eq_ofNat_of_zero_le (show 0 ≤ a0 by have := h.n2; omega)
  obtain ⟨r, c, hr⟩ := Run.ends n l a2 a3 h.ends h.f0 h.f1 h.t0 h.t1 h.ne _ _ (flow_zero n l a2 a3 h.ends) (Nat.le_refl _)
  obtain ⟨ho, hc⟩ := Run.opt h.ends h.f0 h.f1 h.t0 h.t1 h.ne hr (flow_zero n l a2 a3 h.ends)
  refine ⟨r, c, ?_, ho, by omega⟩
  unfold flow_Max.f
  rw [check_good, if_pos h]
  show some ((runOut (n : Int).toNat l a2 a3).1, (runOut (n : Int).toNat l a2 a3).2, (0 : Int)) = _
  rw [Int.toNat_natCast, runOut_eq hr]
theorem max_bad (k : Nat) (a0 : Int) (l : List S61) (a2 a3 : Int) (h : ¬ Good a0 l a2 a3) : flow_Max.f (k + 1) a0 l a2 a3 = some ([], [], 180) := by
  unfold flow_Max.f
  rw [check_good, if_neg h]; rfl
end Go.Proofs.Ytadeidhefjifaaa.Px
end
section
set_option linter.unusedVariables false
set_option linter.unusedSimpArgs false
namespace Go.Proofs.Ytadeidhefjifaaa.Px
open Go.RowKit Go.Shelf Go.Proofs.YtadeidhefjifaaaW.PrintWords Go.Proofs.YtadeidhefjifaaaW.PrintLast Go.Proofs.YtadeidhefjifaaaW.PrintMore
attribute [local go_sem] Oper.semAt_some
section
variable {w0 : World} {U : Nat} {w : World} {G : Nat} {A : Option Addr} {c : Nat} {l : List S61} {vF : Value} {fl : List Int} {vA : Value} {adj : List (List Int)}
/-- the head of the search's loop -/
def SI (w0 : World) (U : Nat) (w : World) (G : Nat) (A : Option Addr) (c : Nat) (l : List S61) (vF : Value) (fl : List Int) (vA : Value) (adj : List (List Int)) (P7 R n : Nat) (tt frm : Int) (b0 : List Int) (g : Nat) (a : Act) (W : World) : Prop :=
  ∃ u8 u9 u10 u11 u12 u13 u14 u15 u16 u17 u18 u19 u20 u21 u22 u23 u24 u25 u26 u27 u28 u29 u30 u31 u32 u33 u34 u35 u36 u37 u38 u39 u40 u41 u42 u43 u44 u45 u46 u47 u48 u49 u50 u51 u52 u53 u54 u55 u56 u57 u58 : Value, ∃ (bys q : List Int) (vq : Value) (Ds : List Nat), SW w0 U w.heap.size w W G A c l vF fl vA adj w.heap.size (w.heap.size + 1) P7 R n tt bys q vq ∧ MarksOK w.heap.size Ds W ∧
    (∀ k r, bfs tt (fun v => useL l fl n (adj.getD v.toNat [])) k bys q = some r → ∃ k', bfs tt (fun v => useL l fl n (adj.getD v.toNat [])) k' b0 [frm] = some r) ∧ (∀ x ∈ q, 0 ≤ x ∧ x < n) ∧ (g = 2 * unset bys + q.length ∧ g ≤ 2 * n + 1) ∧
    a = { tmps := #[.pointer (some ⟨G, 0, none⟩), .int .i64 frm, .int .i64 tt, undef, undef, .pointer (some ⟨w.heap.size, 0, none⟩), .pointer (some ⟨w.heap.size + 1, 0, none⟩), .pointer (some ⟨P7, 0, none⟩), u8, u9, u10, u11, u12, u13, u14, u15, u16, u17, u18, u19, u20, u21, u22, u23, u24, u25, u26, u27, u28, u29, u30, u31, u32, u33, u34, u35, u36, u37, u38, u39, u40, u41, u42, u43, u44, u45, u46, u47, u48, u49, u50, u51, u52, u53, u54, u55, u56, u57, u58], defers := Ds.map mark }
theorem SW.init {W5 : World} {R n : Nat} {tt frm : Int} (hN : NS w0 U w G A c l vF fl vA adj) (hU : U ≤ w.heap.size) (f0 : 0 ≤ frm) (f1 : frm < n)
    (h5 : W5.heap[w.heap.size]? = some (.cells #[.int .i64 tt] 3 (0, 0))) (h6 : W5.heap[w.heap.size + 1]? = some (.cells #[.slice (some ⟨R, 0, none⟩) n n] 23 (0, 0))) (hR : W5.heap[R]? = some (.cells (Array.replicate n (.int .i64 (-1))) 3 (0, 0)))
    (hRl : w.heap.size + 3 ≤ R) (hB : Below w.heap.size w W5) (m : Int) :
    SW w0 U w.heap.size w (((W5.setCell ⟨R, frm.toNat, none⟩ (.int .i64 m)).alloc (Obj.cells #[.int .i64 frm] 3)).alloc (Obj.cells #[.slice (some ⟨W5.heap.size, 0, none⟩) 1 1] 23)).drew G A c l vF fl vA adj
      w.heap.size (w.heap.size + 1) (W5.heap.size + 1) R n tt ((List.replicate n (-1)).set frm.toNat m) [frm] (.slice (some ⟨W5.heap.size, 0, none⟩) 1 1) := by
  have hsz : (W5.setCell ⟨R, frm.toNat, none⟩ (.int .i64 m)).heap.size = W5.heap.size := by simp
  obtain ⟨W6, hW6⟩ : ∃ W6, W5.setCell ⟨R, frm.toNat, none⟩ (.int .i64 m) = W6 := ⟨_, rfl⟩
  have far : ∀ k, k ≠ R → W6.heap[k]? = W5.heap[k]? := fun k hk => by rw [← hW6]; exact Below.heap_setCell W5 ⟨R, frm.toNat, none⟩ _ k hk
  have hR6 : W6.heap[R]? = some (.cells (((List.replicate n (-1)).set frm.toNat m).map (Value.int .i64)).toArray 3 (0, 0)) := by
    have hlt := lt_of_block hR
    rw [← hW6]
    show (W5.heap.modify R _)[R]? = _
    have h' : W5.heap[R] = .cells (Array.replicate n (.int .i64 (-1))) 3 (0, 0) := by simpa [Array.getElem?_eq_getElem hlt] using hR
    rw [Array.getElem?_eq_getElem (by simpa using hlt), Array.getElem_modify_self, h']
    show some (Obj.cells ((Array.replicate n (Value.int .i64 (-1))).setIfInBounds frm.toNat (.int .i64 m)) 3 (0, 0)) = _
    congr 1
    rw [show (Array.replicate n (Value.int .i64 (-1))).setIfInBounds frm.toNat (.int .i64 m) = (((List.replicate n (-1)).set frm.toNat m).map (Value.int .i64)).toArray from Array.toList_inj.1 (by simp [List.map_set])]
  have hB6 : Below w.heap.size w W6 := by rw [← hW6]; exact hB.setCell (p := ⟨R, frm.toNat, none⟩) (by simp; omega) _
  rw [hW6] at hsz ⊢
  obtain ⟨W8, hW8⟩ : ∃ W8, ((W6.alloc (Obj.cells #[.int .i64 frm] 3)).alloc (Obj.cells #[.slice (some ⟨W5.heap.size, 0, none⟩) 1 1] 23)).drew = W8 := ⟨_, rfl⟩
  have hb8 : Below W6.heap.size W6 W8 := by rw [← hW8]; exact below_drew (below_alloc (below_alloc (Below.refl _ _) _) _)
  have k7 : W8.heap[W5.heap.size + 1]? = some (Obj.cells #[.slice (some ⟨W5.heap.size, 0, none⟩) 1 1] 23) := by
    rw [← hW8, ← hsz]
    have := heap_alloc_new (W6.alloc (Obj.cells #[.int .i64 frm] 3)) (Obj.cells #[.slice (some ⟨W6.heap.size, 0, none⟩) 1 1] 23)
    show ((W6.alloc (Obj.cells #[.int .i64 frm] 3)).alloc (Obj.cells #[.slice (some ⟨W6.heap.size, 0, none⟩) 1 1] 23)).heap[W6.heap.size + 1]? = _
    simpa using this
  have kq : W8.heap[W5.heap.size]? = some (Obj.cells #[.int .i64 frm] 3) := by
    rw [← hW8, ← hsz]
    show ((W6.alloc (Obj.cells #[.int .i64 frm] 3)).alloc _).heap[W6.heap.size]? = _
    rw [Below.heap_alloc _ _ _ (by simp)]
    exact heap_alloc_new W6 _
  rw [hW8]
  have lR := lt_of_block hR
  have l6 := lt_of_block h6
  exact {
    net := (hN.below (hB6.mono hU)).below (hb8.mono (by have := hB6.size; omega))
    h5 := (hb8.block _ (by omega)).trans ((far _ (by omega)).trans h5)
    h6 := (hb8.block _ (by omega)).trans ((far _ (by omega)).trans h6)
    h7 := k7
    hR := (hb8.block _ (by omega)).trans hR6
    hn := by simp
    hq := Kd.Q_of_R (Kd.R_of_own ⟨by simp [encs], .inr ⟨W5.heap.size, 1, #[.int .i64 frm], rfl, by omega, kq, Nat.le_refl _, by unfold maxLen; omega, rfl, rfl⟩⟩ (fun k hk => by simp [Value.ownBlock] at hk; omega))
    b5 := Nat.le_refl _
    b6 := by omega
    b7 := by omega
    bR := by omega
    ne := by omega
    ne2 := by omega
    hB := hB6.trans (hb8.mono (by omega))
    hUB := hU }
section
variable {P5 P6 P7 R n : Nat} {tt : Int} {bys q : List Int} {vq : Value} {W : World} {Ds : List Nat} {b1 B : Nat} {x1 : Value}
theorem body_store (hS : SW w0 U B w W G A c l vF fl vA adj P5 P6 P7 R n tt bys q vq) (hM : MarksOK B Ds W) (hc : W.heap[b1]? = some (.cells #[x1] 76 (0, 0))) (u : Int) (h0 : 0 ≤ u) (h1 : u < n) (r : Int) :
    SW w0 U B w (W.setCell ⟨R, u.toNat, none⟩ (.int .i64 r)) G A c l vF fl vA adj P5 P6 P7 R n tt (bys.set u.toNat r) q vq ∧ MarksOK B Ds (W.setCell ⟨R, u.toNat, none⟩ (.int .i64 r)) ∧ (W.setCell ⟨R, u.toNat, none⟩ (.int .i64 r)).heap[b1]? = some (.cells #[x1] 76 (0, 0)) ∧
    (∀ N, KeepsFrom N W (W.setCell ⟨R, u.toNat, none⟩ (.int .i64 r))) ∧ KpS B b1 W (W.setCell ⟨R, u.toNat, none⟩ (.int .i64 r)) := by
  have far : ∀ k, k ≠ R → (W.setCell ⟨R, u.toNat, none⟩ (.int .i64 r)).heap[k]? = W.heap[k]? := fun k hk => Below.heap_setCell W ⟨R, u.toNat, none⟩ _ k hk
  have nb : b1 ≠ R := fun e => by have := hS.hR; rw [← e, hc] at this; simp at this
  refine ⟨hS.setBy u h0 h1 r, hM.keep fun D _ hk => (far D (fun e => by rw [e, hS.hR] at hk; cases hk)).trans hk, (far _ nb).trans hc, fun N => ⟨by simp, fun k o _ hk ho => (far k (fun e => by rw [e, hS.hR] at hk; cases hk; simp [Obj.isCells] at ho)).trans hk⟩, (Below.refl B W).setCell (p := ⟨R, u.toNat, none⟩) hS.bR _, fun cs t hk => (far _ nb).trans hk⟩
theorem body_append {W' : World} {v' : Value} {q' : List Int} (hS : SW w0 U B w W G A c l vF fl vA adj P5 P6 P7 R n tt bys q vq) (hM : MarksOK B Ds W) (hc : W.heap[b1]? = some (.cells #[x1] 76 (0, 0)))
    (hg : W.grownBy W' vq.ownBlock) (hQ : Kd.Q (Kd.int .i64) 3 W' B (fun k => k ≠ R ∧ k ≠ P5) v' q') :
    SW w0 U B w (W'.setCell ⟨P7, 0, none⟩ v') G A c l vF fl vA adj P5 P6 P7 R n tt bys q' v' ∧ MarksOK B Ds (W'.setCell ⟨P7, 0, none⟩ v') ∧ (W'.setCell ⟨P7, 0, none⟩ v').heap[b1]? = some (.cells #[x1] 76 (0, 0)) ∧
    (∀ N, KeepsFrom N W (W'.setCell ⟨P7, 0, none⟩ v')) ∧ KpS B b1 W (W'.setCell ⟨P7, 0, none⟩ v') := by
  have far : ∀ k, k ≠ P7 → (W'.setCell ⟨P7, 0, none⟩ v').heap[k]? = W'.heap[k]? := fun k hk => Below.heap_setCell W' ⟨P7, 0, none⟩ _ k hk
  have nb : b1 ≠ P7 := fun e => by have := hS.h7; rw [← e, hc] at this; simp at this
  have typ : ∀ k, vq.ownBlock = some k → ∃ cells, W.heap[k]? = some (.cells cells 3 (0, 0)) := fun k hk => Kd.Q_typed hS.hq k hk
  have keep : ∀ (k : Nat) (o : Obj), W.heap[k]? = some o → (∀ cells, o ≠ .cells cells 3 (0, 0)) → k ≠ P7 → (W'.setCell ⟨P7, 0, none⟩ v').heap[k]? = some o := fun k o hk ho h7 =>
    (far k h7).trans ((hg.block k (lt_of_block hk) (fun e => by obtain ⟨cells, hcc⟩ := typ k e.symm; rw [hk] at hcc; cases hcc; exact ho _ rfl)).trans hk)
  have hb : Below B W W' := (Below.refl _ _).grown hg hS.size (fun k hk => Kd.Q_base hS.hq k hk)
  refine ⟨hS.setQ hg hQ, hM.keep fun D _ hk => keep D _ hk (fun _ e => by cases e) (fun e => by rw [e, hS.h7] at hk; cases hk), keep b1 _ hc (fun cells e => by simp at e) nb,
    fun N => ⟨by have := hg.size; simpa using this, fun k o _ hk ho => keep k o hk (fun cells e => by rw [e] at ho; simp [Obj.isCells] at ho) (fun e => by rw [e, hS.h7] at hk; cases hk; simp [Obj.isCells] at ho)⟩,
    hb.setCell (p := ⟨P7, 0, none⟩) hS.b7 _, fun cs t hk => keep b1 _ hk (fun cells e => by rw [hc] at hk; cases hk; simp at e) nb⟩
theorem fr_of (hS : SW w0 U B w W G A c l vF fl vA adj P5 P6 P7 R n tt bys q vq) : ∀ k, W.heap.size ≤ k → k ≠ R ∧ k ≠ P5 := fun k hk =>
  ⟨fun e => by have := lt_of_block hS.hR; omega, fun e => by have := lt_of_block hS.h5; omega⟩
theorem ap_block {W' : World} (hS : SW w0 U B w W G A c l vF fl vA adj P5 P6 P7 R n tt bys q vq) (hg : W.grownBy W' vq.ownBlock) : W'.heap[P7]? = some (.cells #[vq] 23 (0, 0)) :=
  (hg.block P7 (lt_of_block hS.h7) (fun e => by obtain ⟨cells, hcc⟩ := Kd.Q_typed hS.hq _ e.symm; rw [hS.h7] at hcc; simp at hcc)).trans hS.h7
theorem ap_cell {W' : World} (hS : SW w0 U B w W G A c l vF fl vA adj P5 P6 P7 R n tt bys q vq) (hg : W.grownBy W' vq.ownBlock) : W'.cell? ⟨P7, 0, none⟩ = some vq :=
  (blk_cell (ap_block hS hg) 0).trans rfl
theorem ap_frozen {W' : World} (hS : SW w0 U B w W G A c l vF fl vA adj P5 P6 P7 R n tt bys q vq) (hg : W.grownBy W' vq.ownBlock) : W'.frozen? ⟨P7, 0, none⟩ = false :=
  blk_frozen (ap_block hS hg) 0
end
set_option maxRecDepth 100000 in
set_option maxHeartbeats 4000000 in
theorem search_in (n : Nat) (tt frm : Int) (hN : NS w0 U w G A c l vF fl vA adj) (hU : U ≤ w.heap.size) (hk : Okf l fl) (hn1 : 1 ≤ n) (hn2 : n ≤ 4096) (hadj : adj.length = n) (f0 : 0 ≤ frm) (f1 : frm < n)
    (he : ∀ r : Int, 0 ≤ r → r < 2 * l.length → 0 ≤ endR l r ∧ endR l r < n) (hr : ∀ v : Int, 0 ≤ v → v < n → ∀ r ∈ adj.getD v.toNat [], 0 ≤ r ∧ r < 2 * (l.length : Int)) (hrl : ∀ v : Int, 0 ≤ v → v < n → (adj.getD v.toNat []).length ≤ 2 * l.length) :
    CallsIn Fence.wide 3 Try.prog 49 #[.pointer (some ⟨G, 0, none⟩), .int .i64 frm, .int .i64 tt] w (SearchPost w n fun bys => ∃ k, bfs tt (fun v => useL l fl n (adj.getD v.toNat [])) k ((List.replicate n (-1)).set frm.toNat ((l.length : Int) * 2)) [frm] = some bys) := by
  have hu81 := Try.underlying81
  have hm : (l.length : Int) ≤ 65536 := by have := hN.hm; omega
  have g0 := (blk_cell hN.hG 0).trans (show _ = some _ from rfl)
  have g2 := (blk_cell hN.hG 2).trans (show _ = some _ from rfl)
  obtain ⟨Aa, ca, rfl, hca, hra⟩ := Kd.R_reads hN.hA
  rw [hadj] at g2
  have g2' := fun o1 o2 o3 => cell_lt (cell_lt (cell_lt g2 o1) o2) o3
  have HN := Aside0.mk hN
  have gl := hN.lt
  have HGL := Aside0.mk gl
  clear hra hca hN gl
  refine callsIn_of_wp_marks Try.func49 rfl trivial ?_ rfl
  simp only [Try.ntmps49, List.size_toArray, List.length_cons, List.length_nil, Nat.reduceAdd, Nat.reduceSub, Array.replicate_succ, Array.replicate_zero, List.push_toArray, List.append_toArray, List.nil_append, List.cons_append]
  gi_wp2
  refine wpIn_scope_straight ?_
  have HB3 := Aside0.mk (show ∀ o1 o2 o3, Below w.heap.size w (((w.alloc o1).alloc o2).alloc o3) from fun o1 o2 o3 => below_alloc (below_alloc (below_alloc (Below.refl _ _) o1) o2) o3)
  have HB5 := Aside0.mk (show ∀ o1 o2 o3, (((w.alloc o1).alloc o2).alloc o3).heap[w.heap.size]? = some o1 from fun o1 o2 o3 => blk3_0 w o1 o2 o3)
  have HB6 := Aside0.mk (show ∀ o1 o2 o3, (((w.alloc o1).alloc o2).alloc o3).heap[w.heap.size + 1]? = some o2 from fun o1 o2 o3 => blk3_1 w o1 o2 o3)
  have HB7 := Aside0.mk (show ∀ o1 o2 o3, (((w.alloc o1).alloc o2).alloc o3).heap[w.heap.size + 1 + 1]? = some o3 from fun o1 o2 o3 => blk3_2 w o1 o2 o3)
  gi_wp2_with fail
  obtain ⟨W3, hW3⟩ : ∃ W3, ((w.alloc (Obj.cells #[Value.int IntKind.i64 tt] 3)).alloc (Obj.cells #[Value.slice none 0 0] 23)).alloc (Obj.cells #[Value.int IntKind.i64 (-1)] 3) = W3 := ⟨_, rfl⟩
  rw [hW3]
  have q5 := HB5.out (Obj.cells #[Value.int IntKind.i64 tt] 3) (Obj.cells #[Value.slice none 0 0] 23) (Obj.cells #[Value.int IntKind.i64 (-1)] 3)
  have q6 := HB6.out (Obj.cells #[Value.int IntKind.i64 tt] 3) (Obj.cells #[Value.slice none 0 0] 23) (Obj.cells #[Value.int IntKind.i64 (-1)] 3)
  have q7 := HB7.out (Obj.cells #[Value.int IntKind.i64 tt] 3) (Obj.cells #[Value.slice none 0 0] 23) (Obj.cells #[Value.int IntKind.i64 (-1)] 3)
  have qb := HB3.out (Obj.cells #[Value.int IntKind.i64 tt] 3) (Obj.cells #[Value.slice none 0 0] 23) (Obj.cells #[Value.int IntKind.i64 (-1)] 3)
  rw [hW3] at q5 q6 q7 qb
  have qs : W3.heap.size = w.heap.size + 3 := by rw [← hW3]; simp
  have Q5 := Aside0.mk q5
  have Q6 := Aside0.mk q6
  have Q7 := Aside0.mk ((blk_cell q7 0).trans (show _ = some (Value.int .i64 (-1)) from rfl))
  have QB := Aside0.mk qb
  have QS := Aside0.mk qs
  clear hW3 q5 q6 q7 qb qs HB3 HB5 HB6 HB7 g2' g2
  refine ⟨trivial, (callsIn_wide.2 (repeat_calls W3 n (w.heap.size + 1 + 1) hn1 hn2 Q7.out)).mono ?_⟩
  rintro e w4 ⟨rfl, hr4, hb4⟩
  have R5 := Aside0.mk ((hb4.block _ (by rw [QS.out]; omega)).trans Q5.out)
  have r6 : w4.heap[w.heap.size + 1]? = _ := (hb4.block _ (by rw [QS.out]; omega)).trans Q6.out
  have s6 : w4.cell? ⟨w.heap.size + 1, 0, none⟩ = some (.slice none 0 0) := (blk_cell r6 0).trans rfl
  have z6 := blk_frozen r6 0
  have R6 := Aside0.mk r6
  have HR4 := Aside0.mk hr4
  have hw4 := QB.out.trans (hb4.mono (by rw [QS.out]; omega))
  have HB4 := Aside0.mk hw4
  clear hr4 hb4 r6 hw4
  obtain ⟨R, hR⟩ : ∃ R, W3.heap.size = R := ⟨_, rfl⟩
  have HRR := Aside0.mk hR
  rw [hR] at HR4
  rw [hR]
  gi_wp2_with fail
  obtain ⟨W5, hW5⟩ : ∃ W5, w4.setCell ⟨w.heap.size + 1, 0, none⟩ (.slice (some ⟨R, 0, none⟩) n n) = W5 := ⟨_, rfl⟩
  rw [hW5]
  have nR : R ≠ w.heap.size + 1 := by have := HRR.out; have := QS.out; omega
  have far : ∀ k, k ≠ w.heap.size + 1 → W5.heap[k]? = w4.heap[k]? := fun k hk => by rw [← hW5]; exact Below.heap_setCell w4 ⟨w.heap.size + 1, 0, none⟩ _ k hk
  have S6 : W5.heap[w.heap.size + 1]? = some (.cells #[.slice (some ⟨R, 0, none⟩) n n] 23 (0, 0)) := by rw [← hW5]; exact one_setCell R6.out
  have S5 := (far w.heap.size (by omega)).trans R5.out
  have SR := (far R nR).trans HR4.out
  have SG := (far G (by have := HGL.out; omega)).trans ((HB4.out.block G HGL.out).trans HN.out.hG)
  have SB : Below w.heap.size w W5 := by rw [← hW5]; exact HB4.out.setCell (p := ⟨w.heap.size + 1, 0, none⟩) (by simp) _
  have t0 : W5.cell? ⟨G, 0, none⟩ = some (.slice A l.length c) := (blk_cell SG 0).trans rfl
  have t6 : W5.cell? ⟨w.heap.size + 1, 0, none⟩ = some (.slice (some ⟨R, 0, none⟩) n n) := (blk_cell S6 0).trans rfl
  have tR : W5.cell? ⟨R, frm.toNat, none⟩ = some (.int .i64 (-1)) := by
    rw [blk_cell SR, Array.getElem?_replicate, if_pos (by omega)]
  have zR := blk_frozen SR frm.toNat
  have T5 := Aside0.mk S5
  have T6 := Aside0.mk S6
  have TR := Aside0.mk SR
  have TB := Aside0.mk SB
  have p0 : decide (0 ≤ frm) = true := decide_eq_true f0
  have p1 : decide (frm < (n : Int)) = true := decide_eq_true f1
  clear hW5 far S5 S6 SR SG SB s6 z6 hR
  gi_region
  gi_wp2_with fail
  have hSW := SW.init HN.out hU f0 f1 T5.out T6.out TR.out (show w.heap.size + 3 ≤ R by have := HRR.out; have := QS.out; omega) TB.out ((l.length : Int) * 2)
  obtain ⟨W8, hW8⟩ : ∃ W8, (((W5.setCell ⟨R, frm.toNat, none⟩ (.int .i64 ((l.length : Int) * 2))).alloc (Obj.cells #[.int .i64 frm] 3)).alloc (Obj.cells #[.slice (some ⟨W5.heap.size, 0, none⟩) 1 1] 23)).drew = W8 := ⟨_, rfl⟩
  rw [hW8] at hSW ⊢
  obtain ⟨P7, hP7⟩ : ∃ P7, W5.heap.size + 1 = P7 := ⟨_, rfl⟩
  rw [hP7] at hSW ⊢
  have HSW := Aside0.mk hSW
  clear hW8 hP7 hSW t0 t6 tR zR T5 T6 TR TB R5 R6 HR4 HB4 Q5 Q6 Q7 QB
  refine wpIn_label ?_
  gi_wp2_with fail
  refine wpIn_loop_g (SI w0 U w G A c l vF fl (.slice Aa adj.length ca) adj P7 R n tt frm ((List.replicate n (-1)).set frm.toNat ((l.length : Int) * 2))) (2 * unset ((List.replicate n (-1)).set frm.toNat ((l.length : Int) * 2)) + 1) ?start ?round
  case start =>
    refine ⟨_, _, _, _, _, _, _, _, _, _, _, _, _, _, _, _, _, _, _, _, _, _, _, _, _, _, _, _, _, _, _, _, _, _, _, _, _, _, _, _, _, _, _, _, _, _, _, _, _, _, _, _, _, _, [], HSW.out, ⟨List.nodup_nil, fun D hD => by cases hD⟩, ?_, ?_, ⟨rfl, ?_⟩, rfl⟩
    · intro k r hb; exact ⟨k, hb⟩
    · intro x hx; obtain rfl := List.mem_singleton.1 hx; exact ⟨f0, f1⟩
    · have : unset ((List.replicate n (-1)).set frm.toNat ((l.length : Int) * 2)) ≤ n := Nat.le_trans (List.length_filter_le _ _) (by simp)
      omega
  case round =>
    clear HSW
    intro g a W hI
    obtain ⟨u8, hI⟩ := hI
    obtain ⟨u9, hI⟩ := hI
    obtain ⟨u10, hI⟩ := hI
    obtain ⟨u11, hI⟩ := hI
    obtain ⟨u12, hI⟩ := hI
    obtain ⟨u13, hI⟩ := hI
    obtain ⟨u14, hI⟩ := hI
    obtain ⟨u15, hI⟩ := hI
    obtain ⟨u16, hI⟩ := hI
    obtain ⟨u17, hI⟩ := hI
    obtain ⟨u18, hI⟩ := hI
    obtain ⟨u19, hI⟩ := hI
    obtain ⟨u20, hI⟩ := hI
    obtain ⟨u21, hI⟩ := hI
    obtain ⟨u22, hI⟩ := hI
    obtain ⟨u23, hI⟩ := hI
    obtain ⟨u24, hI⟩ := hI
    obtain ⟨u25, hI⟩ := hI
    obtain ⟨u26, hI⟩ := hI
    obtain ⟨u27, hI⟩ := hI
    obtain ⟨u28, hI⟩ := hI
    obtain ⟨u29, hI⟩ := hI
    obtain ⟨u30, hI⟩ := hI
    obtain ⟨u31, hI⟩ := hI
    obtain ⟨u32, hI⟩ := hI
    obtain ⟨u33, hI⟩ := hI
    obtain ⟨u34, hI⟩ := hI
    obtain ⟨u35, hI⟩ := hI
    obtain ⟨u36, hI⟩ := hI
    obtain ⟨u37, hI⟩ := hI
    obtain ⟨u38, hI⟩ := hI
    obtain ⟨u39, hI⟩ := hI
    obtain ⟨u40, hI⟩ := hI
    obtain ⟨u41, hI⟩ := hI
    obtain ⟨u42, hI⟩ := hI
    obtain ⟨u43, hI⟩ := hI
    obtain ⟨u44, hI⟩ := hI
    obtain ⟨u45, hI⟩ := hI
    obtain ⟨u46, hI⟩ := hI
    obtain ⟨u47, hI⟩ := hI
    obtain ⟨u48, hI⟩ := hI
    obtain ⟨u49, hI⟩ := hI
    obtain ⟨u50, hI⟩ := hI
    obtain ⟨u51, hI⟩ := hI
    obtain ⟨u52, hI⟩ := hI
    obtain ⟨u53, hI⟩ := hI
    obtain ⟨u54, hI⟩ := hI
    obtain ⟨u55, hI⟩ := hI
    obtain ⟨u56, hI⟩ := hI
    obtain ⟨u57, hI⟩ := hI
    obtain ⟨u58, hI⟩ := hI
    obtain ⟨bys, q, vq, Ds, hS, hM, hb, hq, hg, rfl⟩ := hI
    have hS7 := (blk_cell hS.h7 0).trans (show _ = some vq from rfl)
    have z7 := blk_frozen hS.h7 0
    have HS := Aside0.mk hS
    have HM := Aside0.mk hM
    have HBF := Aside0.mk hb
    have HQ := Aside0.mk hq
    have HG := Aside0.mk hg
    clear hM hb hq hg
    cases q with
    | nil =>
      obtain ⟨Av, cv, rfl, hcv, hrv⟩ := Kd.Q_reads hS.hq
      have t6 : W.cell? ⟨w.heap.size + 1, 0, none⟩ = some (.slice (some ⟨R, 0, none⟩) n n) := (blk_cell hS.h6 0).trans rfl
      have z6 := blk_frozen hS.h6 0
      clear hS hrv hcv
      gi_wp2
      rw [Exit.noGoto_ret]
      refine search_end HS.out HM.out rfl ?_
      exact HBF.out 1 bys rfl
    | cons v q =>
      obtain ⟨gq, oq, cq, rfl, hq1, hq2, hq3⟩ := Kd.Q_form hS.hq (by simp)
      have hcell := (Kd.Q_cell 0 hS.hq 0 (by omega) (by simp)).1
      have hcell : W.cell? ⟨gq, oq, none⟩ = some (.int .i64 v) := by simpa [rdOf] using hcell
      have hcq := (Kd.Q_reads' hS.hq).2.1
      have HDR := Aside0.mk (Kd.Q_drop (k := 1) hS.hq (by simp))
      have hv := HQ.out v (by simp)
      clear hS
      gi_wp2_with fail
      case' inl =>
        have hdr := HDR.out
        simp only [h, if_true, Option.map_some, Addr.add, List.drop_succ_cons, List.drop_zero, List.length_cons, Nat.add_sub_cancel, Nat.sub_self] at hdr
        generalize hvq : Value.slice (some ⟨gq, oq, none⟩) q.length 0 = vq' at hdr ⊢
        generalize hvo : Value.slice (some ⟨gq, oq, none⟩) (q.length + 1) 1 = vo
        clear hvo
      case' inr =>
        have hdr := HDR.out
        simp only [h, if_false, Option.map_some, Addr.add, List.drop_succ_cons, List.drop_zero, List.length_cons, Nat.add_sub_cancel, show (1 : Nat) * (Kd.int .i64).sz = 1 from rfl, Nat.one_ne_zero] at hdr
        generalize hvq : Value.slice (some ⟨gq, oq + 1, none⟩) q.length (cq - 1) = vq' at hdr ⊢
        generalize hvo : Value.slice (some ⟨gq, oq, none⟩) (q.length + 1) cq = vo
        clear hvo
      all_goals (
        have hS1 := HS.out.setQ (W' := W) ⟨rfl, rfl, rfl, Nat.le_refl _, fun _ _ _ => rfl⟩ hdr
        have hM1 : MarksOK w.heap.size Ds (W.setCell ⟨P7, 0, none⟩ vq') := HM.out.keep fun D _ hk => (Below.heap_setCell W ⟨P7, 0, none⟩ _ D (fun e => by rw [e, HS.out.h7] at hk; cases hk)).trans hk
        obtain ⟨W1, hW1⟩ : ∃ W1, W.setCell ⟨P7, 0, none⟩ vq' = W1 := ⟨_, rfl⟩
        rw [hW1] at hS1 hM1 ⊢
        clear hW1 hdr hvq hS7 z7 hcell hcq HDR
        refine ⟨trivial, (usable_in (G := G) W1 v 2).mono ?_⟩
        rintro e W2 ⟨rfl, rfl⟩
        have hb : Below W1.heap.size W1 ((W1.alloc (.cells #[.pointer (some ⟨G, 0, none⟩)] 76)).alloc (.cells #[.int .i64 v] 3)) := below_alloc (below_alloc (Below.refl _ _) _) _
        have hS2 := hS1.below hS1.size hb
        have hM2 := hM1.keep (W' := (W1.alloc (.cells #[.pointer (some ⟨G, 0, none⟩)] 76)).alloc (.cells #[.int .i64 v] 3)) fun D _ hk => (hb.block D (lt_of_block hk)).trans hk
        have hc1 : ((W1.alloc (.cells #[.pointer (some ⟨G, 0, none⟩)] 76)).alloc (.cells #[.int .i64 v] 3)).heap[W1.heap.size]? = some (.cells #[.pointer (some ⟨G, 0, none⟩)] 76 (0, 0)) := by
          rw [Below.heap_alloc _ _ _ (by simp)]; exact heap_alloc_new _ _
        have hc2 : ((W1.alloc (.cells #[.pointer (some ⟨G, 0, none⟩)] 76)).alloc (.cells #[.int .i64 v] 3)).heap[W1.heap.size + 1]? = some (.cells #[.int .i64 v] 3 (0, 0)) := by
          have := heap_alloc_new (W1.alloc (.cells #[.pointer (some ⟨G, 0, none⟩)] 76)) (Obj.cells #[.int .i64 v] 3)
          simpa using this
        have hsz := hS1.size
        obtain ⟨W2, hW2⟩ : ∃ W2, (W1.alloc (.cells #[.pointer (some ⟨G, 0, none⟩)] 76)).alloc (.cells #[.int .i64 v] 3) = W2 := ⟨_, rfl⟩
        rw [hW2] at hS2 hM2 hc1 hc2 ⊢
        obtain ⟨b1, hb1⟩ : ∃ b1, W1.heap.size = b1 := ⟨_, rfl⟩
        rw [hb1] at hc1 hc2 hsz ⊢
        have HS2 := Aside0.mk hS2
        have HM2 := Aside0.mk hM2
        have HC1 := Aside0.mk hc1
        have HC2 := Aside0.mk hc2
        clear hS2 hM2 hS1 hM1 hc1 hc2 hb hW2 hb1 HM HS
        gi_wp2_with fail
        have hmd : ∀ D ∈ Ds, D < W2.heap.size := fun D hD => lt_of_block (HM2.out.2 D hD).2
        have hsz2 : b1 < W2.heap.size := lt_of_block HC1.out
        refine wpIn_rangeFunc_ownG (α := RE n) (encs := encRE n) (a₁ := (fun x => { tmps := #[.pointer (some ⟨G, 0, none⟩), .int .i64 frm, .int .i64 tt, undef, undef, .pointer (some ⟨w.heap.size, 0, none⟩), .pointer (some ⟨w.heap.size + 1, 0, none⟩), .pointer (some ⟨P7, 0, none⟩), .int .i64 v, .int .i64 x.1.1, .int .i64 x.1.2, u11, u12, u13, u14, u15, u16, u17, u18, u19, u20, u21, u22, u23, u24, u25, u26, u27, u28, vo, .int .i64 ((q.length : Int) + 1), .bool true, vo, .pointer (some ⟨gq, oq, none⟩), .int .i64 v, vo, vq', .pointer (some ⟨G, 0, none⟩), .int .i64 v, .func (.func 90) #[] #[.pointer (some ⟨b1, 0, none⟩), .pointer (some ⟨b1 + 1, 0, none⟩)], .int .i64 x.1.1, .int .i64 x.1.2, u42, u43, u44, u45, u46, u47, u48, u49, u50, u51, u52, u53, u54, u55, u56, u57, u58], defers := [] })) (I := fun pre W' => ∃ (bys' q' : List Int) (vq' : Value), scanU tt bys q pre = (bys', q', false) ∧ SW w0 U w.heap.size w W' G A c l vF fl (.slice Aa adj.length ca) adj w.heap.size (w.heap.size + 1) P7 R n tt bys' q' vq' ∧ MarksOK w.heap.size Ds W' ∧ W'.heap[b1]? = some (.cells #[.pointer (some ⟨G, 0, none⟩)] 76 (0, 0)))
          (Ix := fun cc pre W' => cc = .exit 0 ∧ ∃ (bys' q' : List Int) (vq' : Value), scanU tt bys q pre = (bys', q', true) ∧ SW w0 U w.heap.size w W' G A c l vF fl (.slice Aa adj.length ca) adj w.heap.size (w.heap.size + 1) P7 R n tt bys' q' vq' ∧ MarksOK w.heap.size Ds W')
          rfl (by decide) (gf := 90) rfl trivial (enters_of Try.func90 (by kernel_rfl) rfl)
          (usable_stops 2 n w.heap.size b1 (b1 + 1) (by decide) hU W2 HS2.out.net hk v hv.1 (by omega) he (adj.getD v.toNat []) rfl (hr v hv.1 hv.2) (by have := HS2.out.size; omega) HC1.out HC2.out) KpS.trans
          (fun W l o o' hl h _ _ => KpS.put (w := W2) (by omega) hsz2 hl h) (Below.refl _ _) (fun _ => rfl)
          ?hI ?hIx ⟨bys, q, vq', rfl, HS2.out, HM2.out, HC1.out⟩ ?assign ?body ?done ?stop
        case hI =>
          rintro pre X Y row ⟨bys', q', vq2, e, hS, hM, hc⟩ hg hrow
          exact ⟨bys', q', vq2, e, hS.own hg (fun r h => ⟨by have := (hrow r h).1; omega, (hrow r h).2⟩), hM.own hmd hg (fun r h => (hrow r h).1), (hg.block b1 (lt_of_block hc) (fun h => by have := (hrow b1 h.symm).1; omega)).trans hc⟩
        case hIx =>
          rintro cc pre X Y row ⟨ec, bys', q', vq2, e, hS, hM⟩ hg hrow
          exact ⟨ec, bys', q', vq2, e, hS.own hg (fun r h => ⟨by have := (hrow r h).1; omega, (hrow r h).2⟩), hM.own hmd hg (fun r h => (hrow r h).1)⟩
        case assign =>
          intro l0 x W K hK
          unfold encRE
          gi_wp2
          exact hK
        case body =>
          rintro l0 pre ⟨⟨r, u⟩, hu0, hu1⟩ W ⟨bys', q', vq2, hsc, hS, hM, hc⟩ hlen
          have hu0' : 0 ≤ u := hu0
          have hu1' : u < (n : Int) := hu1
          have p0 : decide (0 ≤ u) = true := decide_eq_true hu0'
          have p1 : decide (u < (n : Int)) = true := decide_eq_true hu1'
          obtain ⟨t1, t2, t3, t4, t5, t6⟩ := hS.cells u hu0 hu1
          have HX := Aside0.mk (show 0 ≤ u ∧ u < (n : Int) from ⟨hu0, hu1⟩)
          have HSI := Aside0.mk hS
          have HMI := Aside0.mk hM
          have HCI := Aside0.mk hc
          have HSC := Aside0.mk hsc
          have HLN := Aside0.mk hlen
          clear hS hM hc hsc hlen
          by_cases h0 : 0 ≤ rd bys' u
          · have b0 : decide (0 ≤ rd bys' u) = true := decide_eq_true h0
            have hx : scanU tt bys q (pre ++ [⟨(r, u), hu0, hu1⟩]) = (bys', q', false) := by rw [scan_append _ _ _ _ _ _ _ HSC.out]; simp [scanU, h0]
            have HXX := Aside0.mk hx
            clear h0 hx hu0' hu1'
            gi_wp2
            exact ⟨KeepsFrom.refl _ _, KpS.refl _ _ _, bys', q', vq2, HXX.out, HSI.out, HMI.out, HCI.out⟩
          · have b0 : decide (0 ≤ rd bys' u) = false := decide_eq_false h0
            obtain ⟨Av2, cv2, rfl, -, -⟩ := Kd.Q_reads HSI.out.hq
            have hbs := body_store HSI.out HMI.out HCI.out u hu0' hu1' r
            have s5 := hbs.1.cells u hu0' hu1'
            have s7 := s5.2.2.2.2.1
            have z7 := s5.2.2.2.2.2
            have s5 := s5.2.2.2.1
            have HBS := Aside0.mk hbs
            clear hbs
            by_cases ht : u = tt
            · have b1' : (u == tt) = true := beq_iff_eq.2 ht
              have hx : scanU tt bys q (pre ++ [⟨(r, u), hu0, hu1⟩]) = (bys'.set u.toNat r, q', true) := by rw [scan_append _ _ _ _ _ _ _ HSC.out]; exact scan_hit _ _ _ _ _ h0 ht
              have HXX := Aside0.mk hx
              clear h0 hx ht hu0' hu1'
              gi_wp2
              exact ⟨HBS.out.2.2.2.1 _, rfl, _, _, _, HXX.out, HBS.out.1, HBS.out.2.1⟩
            · have b1' : (u == tt) = false := beq_eq_false_iff_ne.2 ht
              have hx : scanU tt bys q (pre ++ [⟨(r, u), hu0, hu1⟩]) = (bys'.set u.toNat r, q' ++ [u], false) := by rw [scan_append _ _ _ _ _ _ _ HSC.out]; rw [scan_new _ _ _ _ _ h0 ht]; rfl
              have HXX := Aside0.mk hx
              clear h0 hx ht hu0' hu1'
              have hql : (q'.length + 1) * 8 ≤ 140737488355328 := by
                have e1 := scan_len tt _ _ _ _ _ _ HSC.out
                have e2 := useL_len l fl n (adj.getD v.toNat [])
                have e3 := hrl v hv.1 hv.2
                have e4 := HLN.out
                have e5 := HG.out.1
                have e6 := HG.out.2
                simp only [List.length_cons] at e5
                omega
              have HQL := Aside0.mk hql
              clear hql
              gi_wp2_with (gi_at_builtin; refine QIn_append rfl (.tmp 54) (.tmp 56) rfl w.heap.size (.slice Av2 q'.length cv2) q' u (fun k => k ≠ R ∧ k ≠ w.heap.size) rfl ?ad ?fr HBS.out.1.hq HBS.out.1.size HQL.out ?_; (case fr => exact fr_of HBS.out.1); (case ad => (rw [World.size_setCell]; rfl)); intro v1 w1 hQ1 hg1; obtain ⟨g1, o1, cc1, rfl, -, -, -⟩ := Kd.Q_form hQ1 (by simp); have HAP := Aside0.mk (body_append HBS.out.1 HBS.out.2.1 HBS.out.2.2.1 hg1 hQ1); have c7 := ap_cell HBS.out.1 hg1; have z8 := ap_frozen HBS.out.1 hg1; clear hQ1 hg1)
              have hap := HAP.out
              simp only [List.length_append, List.length_cons, List.length_nil, Nat.zero_add] at hap
              exact ⟨(HBS.out.2.2.2.1 _).trans (hap.2.2.2.1 _), HBS.out.2.2.2.2.trans hap.2.2.2.2, _, _, _, HXX.out, hap.1, hap.2.1, hap.2.2.1⟩
        case done =>
          rintro D xs W hD rfl ⟨bys', q', vq2, hsc, hS, hM, hc⟩ hK
          have hf := scan_facts tt _ _ _ _ _ _ hsc HS2.out.hn (fun x hx => HQ.out x (by simp [hx])) (fun e hm => (hr v hv.1 hv.2 _ (useL_mem hm).1).1)
          have e5 := HG.out.1
          have e6 := HG.out.2
          simp only [List.length_cons] at e5
          refine ⟨2 * unset bys' + q'.length, by omega, _, _, _, _, _, _, _, _, _, _, _, _, _, _, _, _, _, _, _, _, _, _, _, _, _, _, _, _, _, _, _, _, _, _, _, _, _, _, _, _, _, _, _, _, _, _, _, _, _, _, _, bys', q', vq2, D :: Ds, hS, ⟨List.nodup_cons.2 ⟨fun h => by have := hmd D h; omega, hM.1⟩, ?_⟩, ?_, hf.2.1, ⟨rfl, by omega⟩, rfl⟩
          · intro E hE
            rcases List.mem_cons.1 hE with rfl | hE
            · exact ⟨by omega, hK⟩
            · exact hM.2 E hE
          · intro k r hb
            exact HBF.out (k + 1) r (by rw [bfs, hsc]; simpa using hb)
        case stop =>
          rintro D cc pre W hD ⟨suf, hsuf⟩ ⟨rfl, bys', q', vq2, hsc, hS, hM⟩ hK
          have hx := scan_stop tt pre suf _ _ _ _ hsc
          rw [hsuf] at hx
          have hM' : MarksOK w.heap.size (D :: Ds) W := by
            refine ⟨List.nodup_cons.2 ⟨fun h => by have := hmd D h; omega, hM.1⟩, ?_⟩
            intro E hE
            rcases List.mem_cons.1 hE with rfl | hE
            · exact ⟨by omega, hK⟩
            · exact hM.2 E hE
          have hP : ∃ k, bfs tt (fun v => useL l fl n (adj.getD v.toNat [])) k ((List.replicate n (-1)).set frm.toNat ((l.length : Int) * 2)) [frm] = some bys' := HBF.out 1 bys' (by rw [bfs, hx]; rfl)
          have t6 : W.cell? ⟨w.heap.size + 1, 0, none⟩ = some (.slice (some ⟨R, 0, none⟩) n n) := (blk_cell hS.h6 0).trans rfl
          have z6 := blk_frozen hS.h6 0
          have HE := Aside0.mk hS
          have HME := Aside0.mk hM'
          have HP := Aside0.mk hP
          clear hS hM hM' hP hx hsc hK
          gi_wp2
          rw [Exit.noGoto_ret]
          exact search_end HE.out (Ds := D :: Ds) HME.out rfl HP.out)
theorem search_calls (n : Nat) (tt frm : Int) (hN : NS w0 U w G A c l vF fl vA adj) (hU : U ≤ w.heap.size) (hk : Okf l fl) (hn1 : 1 ≤ n) (hn2 : n ≤ 4096) (hadj : adj.length = n) (f0 : 0 ≤ frm) (f1 : frm < n)
    (he : ∀ r : Int, 0 ≤ r → r < 2 * l.length → 0 ≤ endR l r ∧ endR l r < n) (hr : ∀ v : Int, 0 ≤ v → v < n → ∀ r ∈ adj.getD v.toNat [], 0 ≤ r ∧ r < 2 * (l.length : Int)) (hrl : ∀ v : Int, 0 ≤ v → v < n → (adj.getD v.toNat []).length ≤ 2 * l.length) :
    Calls Try.prog 49 #[.pointer (some ⟨G, 0, none⟩), .int .i64 frm, .int .i64 tt] w (SearchPost w n fun bys => ∃ k, bfs tt (fun v => useL l fl n (adj.getD v.toNat [])) k ((List.replicate n (-1)).set frm.toNat ((l.length : Int) * 2)) [frm] = some bys) :=
  callsIn_wide.1 (search_in n tt frm hN hU hk hn1 hn2 hadj f0 f1 he hr hrl)
end
end Go.Proofs.Ytadeidhefjifaaa.Px
end
section
set_option linter.unusedVariables false
set_option linter.unusedSimpArgs false
namespace Go.Proofs.Ytadeidhefjifaaa.Px
open Go.RowKit Go.Shelf Go.Proofs.YtadeidhefjifaaaW.PrintWords Go.Proofs.YtadeidhefjifaaaW.PrintLast Go.Proofs.YtadeidhefjifaaaW.PrintMore
theorem madeZ (n : Nat) : (madeCells #[Value.int .i64 0] n).toList = List.replicate n (.int .i64 0) := by
  simp only [madeCells, Array.toList_map, Array.toList_range]
  apply List.ext_getElem
  · simp
  · intro i h1 h2; simp [Nat.mod_one]
theorem NS_of_NN {w0 W : World} {G F Ab : Nat} {A : Option Addr} {c : Nat} {l : List S61} {n : Nat} {vals : List Value} {adj : List (List Int)} (h : NN w0 W G F Ab A c l (madeCells #[.int .i64 0] l.length) n vals adj)
    (hE : Kd.C k61 w0 A l.length l) (hc : l.length ≤ c) (hm : l.length ≤ 65536) :
    NS w0 W.heap.size W G A c l (.slice (some ⟨F, 0, none⟩) l.length l.length) (List.replicate l.length 0) (.slice (some ⟨Ab, 0, none⟩) adj.length adj.length) adj := by
  have hlen := h.hlen
  have hO := h.hO
  obtain ⟨hvl, hob⟩ := hO
  have hAb : ∃ cells, W.heap[Ab]? = some (.cells cells 23 (0, 0)) := own_typed h.hO Ab rfl
  obtain ⟨cA, hAb⟩ := hAb
  have gf : F ≠ G := fun e => by have := h.hF; rw [e, h.hG] at this; simp at this
  have ga : Ab ≠ G := fun e => by rw [e, h.hG] at hAb; simp at hAb
  have fa : Ab ≠ F := fun e => by rw [e, h.hF] at hAb; simp at hAb
  exact {
    hG := by rw [hlen]; exact h.hG
    hB := h.bG
    hU := lt_of_block h.hG
    hW := h.hW
    hE0 := hE
    hc := hc
    hF := Kd.R_of_own ⟨by simp [encs], .inr ⟨F, l.length, _, by simp, h.bF, h.hF, by simp, by unfold maxLen; omega, by simp [size_madeCells], by rw [madeZ]; simp [encs]⟩⟩ (fun k hk => by simp [Value.ownBlock] at hk; subst hk; exact ⟨gf, lt_of_block h.hF⟩)
    hA := ⟨fun k hk => by simp [Value.ownBlock] at hk; subst hk; exact ⟨⟨ga, lt_of_block hAb⟩, by simp [Value.ownBlock]; exact fa⟩, vals, by rw [hlen]; exact h.hO, by rw [hvl, hlen]; simp [Kd.slice], fun j p hj => by
      have hjl : j < n := by rw [← hlen]; exact (List.getElem?_eq_some_iff.1 hj).1
      have hr := h.hrow j hjl
      have e1 : adj.getD j [] = p := by simp [List.getD, hj]
      have e2 : (vals.drop (j * 1)).take 1 = [vals.getD j undef] := by
        have : j < vals.length := by omega
        rw [Nat.mul_one, List.drop_eq_getElem_cons this, List.take_succ_cons, List.take_zero]
        simp only [List.getD, List.getElem?_eq_getElem this, Option.getD_some]
      rw [e1] at hr
      refine ⟨vals.getD j undef, e2, Kd.R_mono (Kd.R_bound hr) fun k hk => ?_⟩
      obtain ⟨kF, _, kl, q, hq, cells, hk⟩ := hk
      have hq : q = 3 := by simpa [Kd.int, Kd.scalar] using hq
      subst hq
      refine ⟨⟨⟨fun e => by rw [e, h.hG] at hk; simp at hk, kl⟩, ?_⟩, ?_⟩
      · simp [Value.ownBlock]; exact kF
      · simp [Value.ownBlock]; exact fun e => by rw [e, hAb] at hk; simp at hk⟩
    hl := by simp
    hm := hm }
end Go.Proofs.Ytadeidhefjifaaa.Px
end
section
set_option linter.unusedVariables false
set_option linter.unusedSimpArgs false
namespace Go.Proofs.Ytadeidhefjifaaa.Px
open Go.RowKit Go.Shelf Go.Proofs.YtadeidhefjifaaaW.PrintWords Go.Proofs.YtadeidhefjifaaaW.PrintLast Go.Proofs.YtadeidhefjifaaaW.PrintMore
/-- what a round of Max holds in memory -/
structure JB (w0 : World) (U : Nat) (W : World) (G : Nat) (A : Option Addr) (c : Nat) (l : List S61) (vF : Value) (fl : List Int) (vA : Value) (adj : List (List Int)) (b13 L R n : Nat) (bys : List Int) (m : Int) : Prop where
  net : NS w0 U W G A c l vF fl vA adj
  h12 : W.heap[U]? = some (.cells #[.pointer (some ⟨G, 0, none⟩)] 76 (0, 0))
  h13 : W.heap[b13]? = some (.cells #[.slice (some ⟨R, 0, none⟩) n n] 23 (0, 0))
  hL : W.heap[L]? = some (.cells #[.int .i64 m] 3 (0, 0))
  hR : W.heap[R]? = some (.cells (bys.map (Value.int .i64)).toArray 3 (0, 0))
  hlen : bys.length = n
  u13 : U ≤ b13
  uL : U ≤ L
  uR : U ≤ R
  ne : R ≠ L
section
variable {w0 : World} {U : Nat} {W W' : World} {G : Nat} {A : Option Addr} {c : Nat} {l : List S61} {vF : Value} {fl : List Int} {vA : Value} {adj : List (List Int)} {b13 L R n : Nat} {bys : List Int} {m : Int}
theorem blk_C {xs : List Int} (hR : W.heap[R]? = some (.cells (xs.map (Value.int .i64)).toArray 3 (0, 0))) (hn : xs.length ≤ maxLen) : Kd.C (Kd.int .i64) W (some ⟨R, 0, none⟩) xs.length xs :=
  (Kd.R_reads' (Kd.R_of_own (base := 0) (ok := fun _ => True) (v := .slice (some ⟨R, 0, none⟩) xs.length xs.length) (xs := xs) ⟨by simp [encs], .inr ⟨R, xs.length, _, rfl, by omega, hR, Nat.le_refl _, hn, by simp, by simp [encs, List.take_of_length_le]⟩⟩ (fun _ _ => True.intro))).2.2
theorem JB.draw (h : JB w0 U W G A c l vF fl vA adj b13 L R n bys m) (k : Nat) : JB w0 U (W.drewN k) G A c l vF fl vA adj b13 L R n bys m :=
  { h with net := h.net.below (pw_below_drewN (Below.refl _ _) k) }
theorem JB.size (h : JB w0 U W G A c l vF fl vA adj b13 L R n bys m) : U ≤ W.heap.size := Nat.le_of_lt (lt_of_block h.h12)
theorem JB.least (h : JB w0 U W G A c l vF fl vA adj b13 L R n bys m) (hg : W.grownBy W' (some L)) (m' : Int) (hL : W'.heap[L]? = some (.cells #[.int .i64 m'] 3 (0, 0))) : JB w0 U W' G A c l vF fl vA adj b13 L R n bys m' := by
  have n1 : U ≠ L := fun e => by have := h.h12; rw [e, h.hL] at this; simp at this
  have n2 : b13 ≠ L := fun e => by have := h.h13; rw [e, h.hL] at this; simp at this
  exact { h with
    net := h.net.below ((Below.refl _ _).grown hg h.size (fun k e => by cases e; exact h.uL))
    h12 := (hg.block _ (lt_of_block h.h12) (fun e => n1 (by simpa using e))).trans h.h12
    h13 := (hg.block _ (lt_of_block h.h13) (fun e => n2 (by simpa using e))).trans h.h13
    hL := hL
    hR := (hg.block _ (lt_of_block h.hR) (fun e => h.ne (by simpa using e))).trans h.hR }
theorem JB.push (h : JB w0 U W G A c l vF fl vA adj b13 L R n bys m) (hg : W.grownBy W' vF.ownBlock) {fl' : List Int} (hN : NS w0 U W' G A c l vF fl' vA adj) : JB w0 U W' G A c l vF fl' vA adj b13 L R n bys m := by
  have far : ∀ (k : Nat) (o : Obj), W.heap[k]? = some o → U ≤ k → W'.heap[k]? = some o := fun k o hk hu => (hg.block k (lt_of_block hk) (fun e => by have := (h.net.hF.1 k e.symm).2; omega)).trans hk
  exact { h with
    net := hN
    h12 := far _ _ h.h12 (Nat.le_refl _)
    h13 := far _ _ h.h13 h.u13
    hL := far _ _ h.hL h.uL
    hR := far _ _ h.hR h.uR }
/-- what along asks of the memory -/
theorem JB.asks (h : JB w0 U W G A c l vF fl vA adj b13 L R n bys m) (hn : n ≤ 4096) {bt bf : Nat} {tt frm : Int} (ht : w0.heap[bt]? = some (.cells #[.int .i64 tt] 3 (0, 0))) (hf : w0.heap[bf]? = some (.cells #[.int .i64 frm] 3 (0, 0))) :
    (∃ fl, NS w0 U W G A c l vF fl vA adj) ∧ W.cell? ⟨bt, 0, none⟩ = some (.int .i64 tt) ∧ W.cell? ⟨bf, 0, none⟩ = some (.int .i64 frm) ∧ W.cell? ⟨U, 0, none⟩ = some (.pointer (some ⟨G, 0, none⟩)) ∧ W.cell? ⟨b13, 0, none⟩ = some (.slice (some ⟨R, 0, none⟩) bys.length n) ∧ Kd.C (Kd.int .i64) W (some ⟨R, 0, none⟩) bys.length bys :=
  ⟨⟨fl, h.net⟩, (blk_cell ((h.net.hW.block _ (lt_of_block ht)).trans ht) 0).trans rfl, (blk_cell ((h.net.hW.block _ (lt_of_block hf)).trans hf) 0).trans rfl, (blk_cell h.h12 0).trans rfl, by rw [h.hlen]; exact (blk_cell h.h13 0).trans rfl, blk_C h.hR (by rw [h.hlen]; unfold maxLen; omega)⟩
end
section
variable {w0 : World} {U : Nat} {W : World} {G : Nat} {A : Option Addr} {c : Nat} {l : List S61} {vF : Value} {fl : List Int} {vA : Value} {adj : List (List Int)} {b13 L R n : Nat} {bys : List Int} {p : List Int} {tt frm : Int} {bt bf : Nat}
/-- the first walk along the path -/
theorem walk_least (hg : GoodL n l) (hf0 : FlowG n l frm tt fl) (hn : n ≤ 4096) (ht : w0.heap[bt]? = some (.cells #[.int .i64 tt] 3 (0, 0))) (hf : w0.heap[bf]? = some (.cells #[.int .i64 frm] 3 (0, 0))) (hp : GP n l fl bys frm tt p)
    (h : JB w0 U W G A c l vF fl vA adj b13 L R n bys 1073741824) :
    Calls Try.prog 50 #[.func (.func 52) #[] #[.pointer (some ⟨L, 0, none⟩), .pointer (some ⟨U, 0, none⟩)], .pointer (some ⟨bt, 0, none⟩), .pointer (some ⟨bf, 0, none⟩), .pointer (some ⟨U, 0, none⟩), .pointer (some ⟨b13, 0, none⟩)] W fun e w' =>
      e = .returned (.tuple #[]) ∧ JB w0 U w' G A c l vF fl vA adj b13 L R n bys (leastP l fl p) := by
  refine (along52 w0 U G A c l vF vA adj bt bf U b13 L U tt frm (some ⟨R, 0, none⟩) n bys p (fun pre w' => JB w0 U w' G A c l vF fl vA adj b13 L R n bys (leastP l fl pre))
    (fun pre w' h => h.asks hn ht hf) (fun pre w' k h => h.draw k) ?_ (hp.path h.hlen) W h).mono fun e w' h => h
  intro pre r rest w1 h1 hpe r0 r1
  refine (least_calls h1.net (flow_okf hg hf0) r r0 r1 L U (leastP l fl pre) h1.hL h1.h12).mono ?_
  rintro e w2 ⟨rfl, hL, hgr⟩
  refine ⟨rfl, h1.least hgr _ ?_⟩
  rw [hL]; simp [leastP]
/-- the second -/
theorem walk_push (hg : GoodL n l) (hf0 : FlowG n l frm tt fl) (hn : n ≤ 4096) (ht : w0.heap[bt]? = some (.cells #[.int .i64 tt] 3 (0, 0))) (hf : w0.heap[bf]? = some (.cells #[.int .i64 frm] 3 (0, 0))) (hp : GP n l fl bys frm tt p)
    (h : JB w0 U W G A c l vF fl vA adj b13 L R n bys (leastP l fl p)) :
    Calls Try.prog 50 #[.func (.func 54) #[] #[.pointer (some ⟨U, 0, none⟩), .pointer (some ⟨L, 0, none⟩)], .pointer (some ⟨bt, 0, none⟩), .pointer (some ⟨bf, 0, none⟩), .pointer (some ⟨U, 0, none⟩), .pointer (some ⟨b13, 0, none⟩)] W fun e w' =>
      e = .returned (.tuple #[]) ∧ JB w0 U w' G A c l vF (aug fl p (leastP l fl p)) vA adj b13 L R n bys (leastP l fl p) := by
  obtain ⟨m1, m2, m3⟩ := leastP_ok hp
  have hb := (bd_iff l fl).1 hf0.bnd
  refine (along54 w0 U G A c l vF vA adj bt bf U b13 U L tt frm (some ⟨R, 0, none⟩) n bys p (fun pre w' => JB w0 U w' G A c l vF (aug fl pre (leastP l fl p)) vA adj b13 L R n bys (leastP l fl p))
    (fun pre w' h => h.asks hn ht hf) (fun pre w' k h => h.draw k) ?_ (hp.path h.hlen) W h).mono fun e w' h => h
  intro pre r rest w1 h1 hpe r0 r1
  have hpre : ∀ s ∈ pre, 0 ≤ s ∧ s < 2 * l.length ∧ leastP l fl p ≤ capR l fl s := fun s hs => by
    have hs : s ∈ p := by rw [hpe]; simp [hs]
    exact ⟨(hp.mem s hs).1, (hp.mem s hs).2.1, m3 s hs⟩
  have hnd : (pre.map (· / 2)).Nodup := by
    have := hp.nodup
    rw [hpe, List.map_append] at this
    exact (List.nodup_append.1 this).1
  have hbd := (bd_aug (by omega) pre fl hb hpre hnd).2 (r / 2) (by omega) (by omega)
  have hcap := (hg _ (rdT_mem l (r / 2) (by omega) (by omega))).2.2.2.2
  refine (pushes_calls h1.net r (leastP l fl p) r0 r1 hbd.1 (by omega) (by omega) m2 L U h1.hL h1.h12).mono ?_
  rintro e w2 ⟨rfl, hN, hgr⟩
  refine ⟨rfl, h1.push hgr ?_⟩
  rw [aug_append]; exact hN
end
end Go.Proofs.Ytadeidhefjifaaa.Px
end
section
set_option linter.unusedVariables false
set_option linter.unusedSimpArgs false
namespace Go.Proofs.Ytadeidhefjifaaa.Px
open Go.RowKit Go.Shelf Go.Proofs.YtadeidhefjifaaaW.PrintWords Go.Proofs.YtadeidhefjifaaaW.PrintLast Go.Proofs.YtadeidhefjifaaaW.PrintMore
theorem check_ok {k : Nat} {a0 : Int} {l : List S61} {a2 a3 : Int} (h : flow_check.f k a0 l a2 a3 = some 0) : Good a0 l a2 a3 := by
  have := flow_check.mono a0 l a2 a3 k 0 h
  rw [check_good] at this
  split at this
  · assumption
  · simp at this
theorem row_setCell {W : World} {R : Nat} {cs : Array Value} {t : TypeId} (h : W.heap[R]? = some (.cells cs t (0, 0))) (i : Nat) (v : Value) : (W.setCell ⟨R, i, none⟩ v).heap[R]? = some (.cells (cs.setIfInBounds i v) t (0, 0)) := by
  have hlt := lt_of_block h
  show (W.heap.modify R _)[R]? = _
  have h' : W.heap[R] = .cells cs t (0, 0) := by simpa [Array.getElem?_eq_getElem hlt] using h
  rw [Array.getElem?_eq_getElem (by simpa using hlt), Array.getElem_modify_self, h']
  rfl
theorem blk2_1 (w : World) (o1 o2 : Obj) : ((w.alloc o1).alloc o2).heap[w.heap.size + 1]? = some o2 := by
  have := heap_alloc_new (w.alloc o1) o2
  simpa using this
theorem blk2_0 (w : World) (o1 o2 : Obj) : ((w.alloc o1).alloc o2).heap[w.heap.size]? = some o1 := by
  rw [Below.heap_alloc _ _ _ (by simp)]; exact heap_alloc_new _ _
set_option maxRecDepth 100000 in
set_option maxHeartbeats 4000000 in
theorem flow_Max.calls (k : Nat) (a0 : Int) (A1 : Option Addr) (c1 : Nat) (l1 : List S61) (a2 : Int) (a3 : Int) (r1 : List Int) (r2 : List Bool) (r3 : Int) (w : World) (hr1 : Kd.C k61 w A1 l1.length l1) (hc1 : l1.length ≤ c1) (h : flow_Max.f k a0 l1 a2 a3 = some (r1, r2, r3)) :
    Calls Try.prog 27 #[.int .i64 a0, .slice A1 l1.length c1, .int .i64 a2, .int .i64 a3] w fun e w' => ∃ v0_ v1_ : Value, e = .returned (.tuple #[v0_, v1_, .int .i64 r3]) ∧ Kd.R (Kd.int .i64) 3 w' w.heap.size (fun _ => True) v0_ r1 ∧ Kd.R Kd.bool 4 w' w.heap.size (fun _ => True) v1_ r2 ∧ Below w.heap.size w w' := by
  obtain ⟨e0, he0, hh⟩ := Option.bind_eq_some_iff.1 h
  have HR := Aside0.mk hr1
  have HC := Aside0.mk hc1
  have HE := Aside0.mk he0
  have H := Aside0.mk hh
  clear hr1 hc1 he0 hh h
  go_enter Try.func27, Try.ntmps27
  go_wp2_with fail
  have hb1 : Below w.heap.size w ((w.alloc (Obj.cells #[Value.int IntKind.i64 a2] 3)).alloc (Obj.cells #[Value.int IntKind.i64 a3] 3)) := below_alloc (below_alloc (Below.refl _ _) _) _
  have k6 := blk2_0 w (Obj.cells #[Value.int IntKind.i64 a2] 3) (Obj.cells #[Value.int IntKind.i64 a3] 3)
  have k7 := blk2_1 w (Obj.cells #[Value.int IntKind.i64 a2] 3) (Obj.cells #[Value.int IntKind.i64 a3] 3)
  obtain ⟨W1, hW1⟩ : ∃ W1, (w.alloc (Obj.cells #[Value.int IntKind.i64 a2] 3)).alloc (Obj.cells #[Value.int IntKind.i64 a3] 3) = W1 := ⟨_, rfl⟩
  rw [hW1] at hb1 k6 k7 ⊢
  clear hW1
  refine (flow_check.calls k a0 A1 c1 l1 a2 a3 e0 W1 (Kd.C_below HR.out hb1) HC.out HE.out).mono ?_
  rintro e W2 ⟨rfl, hb2⟩
  have HB := Aside0.mk (below_step hb1 hb2)
  have j6 := (hb2.block _ (lt_of_block k6)).trans k6
  have j7 := (hb2.block _ (lt_of_block k7)).trans k7
  have J6 := Aside0.mk j6
  have J7 := Aside0.mk j7
  clear hb1 hb2 k6 k7 j6 j7
  by_cases h0 : e0 = 0
  · subst h0
    have hg := check_ok HE.out
    have h := H.out
    rw [if_pos rfl] at h
    simp only [Option.some.injEq, Prod.mk.injEq] at h
    obtain ⟨hr1, hr2, rfl⟩ := h
    have HG := Aside0.mk hg
    have HO := Aside0.mk (And.intro hr1 hr2)
    clear hr1 hr2 hg
    obtain ⟨n, rfl⟩ := Int.eq_ofNat_of_zero_le (show 0 ≤ a0 by have := HG.out.n2; omega)
    have hn4 : n ≤ 4096 := by have := HG.out.n4; omega
    have hn2 : 2 ≤ n := by have := HG.out.n2; omega
    have hE2 := Kd.C_below HR.out HB.out
    go_wp2_with fail
    refine (newNetwork_calls W2 n A1 c1 l1 hE2 HC.out HG.out.m hn4 (fun x hx => ⟨(HG.out.ends x hx).1, (HG.out.ends x hx).2.1⟩)).mono ?_
    rintro e W3 ⟨G, F, Ab, rfl, vals, hNN⟩
    have hN3 := NS_of_NN hNN hE2 HC.out HG.out.m
    have had : (adjOf l1 0 (List.replicate n [])).length = n := by rw [adjOf_length]; simp
    rw [had] at hN3
    obtain ⟨vF, hvF⟩ : ∃ v, Value.slice (some ⟨F, 0, none⟩) l1.length l1.length = v := ⟨_, rfl⟩
    obtain ⟨vA, hvA⟩ : ∃ v, Value.slice (some ⟨Ab, 0, none⟩) n n = v := ⟨_, rfl⟩
    rw [hvF, hvA] at hN3
    obtain ⟨U, hU⟩ : ∃ U, W3.heap.size = U := ⟨_, rfl⟩
    rw [hU] at hN3
    have HN3 := Aside0.mk hN3
    have HU := Aside0.mk hU
    have HAD := Aside0.mk had
    clear hN3 hNN hvF hvA had hE2
    go_wp2_with fail
    have hb4 : Below U W3 (W3.alloc (Obj.cells #[Value.pointer (some ⟨G, 0, none⟩)] 76)) := by rw [← hU]; exact below_alloc (Below.refl _ _) _
    have hN4 := HN3.out.below hb4
    have h12 : (W3.alloc (Obj.cells #[Value.pointer (some ⟨G, 0, none⟩)] 76)).heap[U]? = some (Obj.cells #[Value.pointer (some ⟨G, 0, none⟩)] 76) := by rw [← hU]; exact heap_alloc_new _ _
    obtain ⟨W4, hW4⟩ : ∃ W4, W3.alloc (Obj.cells #[Value.pointer (some ⟨G, 0, none⟩)] 76) = W4 := ⟨_, rfl⟩
    rw [hW4] at hN4 h12 ⊢
    have J6' : W4.heap[w.heap.size]? = some (.cells #[.int .i64 a2] 3 (0, 0)) := (hN4.hW.block _ (lt_of_block J6.out)).trans J6.out
    have HN4 := Aside0.mk hN4
    have H12 := Aside0.mk h12
    have HO' := Aside0.mk (fun r c (h : Run n l1 a2 a3 (List.replicate l1.length 0) r c) => (show r1 = r ∧ r2 = c by
      have := runOut_eq h
      have ho := HO.out
      rw [Int.toNat_natCast, this] at ho
      exact ⟨ho.1.symm, ho.2.symm⟩))
    have HW4 := Aside0.mk (show U ≤ W4.heap.size from Nat.le_of_lt (lt_of_block h12))
    have hsz2 := hN4.hW.size
    clear hN4 h12 hb4 hW4 J6' HN3 hU HU HO hsz2
    go_loopg [] (FlowM.cap S61.f0 S61.f1 S61.f2 (fun v => decide (v = a2)) l1).toNat (fun g W => ∃ fl : List Int, Aside0 (NS W2 U W G A1 c1 l1 vF fl vA (adjG n l1)) ∧ Aside0 (W.heap[U]? = some (Obj.cells #[Value.pointer (some ⟨G, 0, none⟩)] 76 (0, 0))) ∧ Aside0 (FlowG n l1 a2 a3 fl) ∧ Aside0 (∀ r c, Run n l1 a2 a3 fl r c → Run n l1 a2 a3 (List.replicate l1.length 0) r c) ∧ Aside0 (g = (FlowM.cap S61.f0 S61.f1 S61.f2 (fun v => decide (v = a2)) l1 - outsG l1 fl a2).toNat))
    case atStart => exact ⟨_, HN4, H12, ⟨flow_zero n l1 a2 a3 HG.out.ends⟩, ⟨fun r c h => h⟩, ⟨by rw [outs_zero]; simp⟩⟩
    case round =>
      obtain ⟨fl, HN, H12r, HF, HRUN, HGG⟩ := hrel
      have hN := HN.out
      have c6 : wr.cell? ⟨w.heap.size, 0, none⟩ = some (.int .i64 a2) := (blk_cell ((hN.hW.block _ (lt_of_block J6.out)).trans J6.out) 0).trans rfl
      have c7 : wr.cell? ⟨w.heap.size + 1, 0, none⟩ = some (.int .i64 a3) := (blk_cell ((hN.hW.block _ (lt_of_block J7.out)).trans J7.out) 0).trans rfl
      have c12 : wr.cell? ⟨U, 0, none⟩ = some (.pointer (some ⟨G, 0, none⟩)) := (blk_cell H12r.out 0).trans rfl
      clear hN
      have hUr : U ≤ wr.heap.size := Nat.le_of_lt (lt_of_block H12r.out)
      have hn0 : ∀ v : Int, 0 ≤ v → v < n → ∀ r ∈ (adjG n l1).getD v.toNat [], 0 ≤ r ∧ r < 2 * (l1.length : Int) := fun v v0 v1 r hr => ⟨((adj_iff n l1 HG.out.ends v r v0).1 hr).1, ((adj_iff n l1 HG.out.ends v r v0).1 hr).2.1⟩
      have HS := Aside0.mk (search_calls n a3 a2 HN.out hUr (flow_okf HG.out.ends HF.out) (by omega) hn4 HAD.out HG.out.f0 HG.out.f1 (fun r r0 r1 => endR_in n l1 HG.out.ends r r0 r1) hn0 (fun v _ _ => adj_lens n l1 v))
      clear hn0
      go_wp2_with fail
      refine HS.out.mono ?_
      rintro e W5 ⟨R, bys, rfl, hR5, hlen, hb5, hRl, hs⟩
      have hs : Srch n l1 fl a2 a3 bys := hs
      have d6 := below_cell hb5 c6
      have d7 := below_cell hb5 c7
      have d12 := below_cell hb5 c12
      have h12 := (hb5.block _ (lt_of_block H12r.out)).trans H12r.out
      have hN5 := HN.out.below (hb5.mono hUr)
      have dR : W5.cell? ⟨R, a3.toNat, none⟩ = some (.int .i64 (rd bys a3)) := by
        have : a3.toNat < bys.length := by have := HG.out.t0; have := HG.out.t1; omega
        rw [blk_cell hR5]; simp [this, rd, List.getD]
      have f6 := cell_lt d6 (Obj.cells #[Value.slice (some ⟨R, 0, none⟩) n n] 23)
      have f7 := cell_lt d7 (Obj.cells #[Value.slice (some ⟨R, 0, none⟩) n n] 23)
      have f12 := cell_lt d12 (Obj.cells #[Value.slice (some ⟨R, 0, none⟩) n n] 23)
      have fR := cell_lt dR (Obj.cells #[Value.slice (some ⟨R, 0, none⟩) n n] 23)
      have h13 : (W5.alloc (Obj.cells #[Value.slice (some ⟨R, 0, none⟩) n n] 23)).heap[W5.heap.size]? = some (Obj.cells #[Value.slice (some ⟨R, 0, none⟩) n n] 23 (0, 0)) := heap_alloc_new _ _
      have f13 : (W5.alloc (Obj.cells #[Value.slice (some ⟨R, 0, none⟩) n n] 23)).cell? ⟨W5.heap.size, 0, none⟩ = some (.slice (some ⟨R, 0, none⟩) n n) := (blk_cell h13 0).trans rfl
      have hba : Below W5.heap.size W5 (W5.alloc (Obj.cells #[Value.slice (some ⟨R, 0, none⟩) n n] 23)) := below_alloc (Below.refl _ _) _
      have hU5 : U ≤ W5.heap.size := Nat.le_trans hUr hb5.size
      have hN6 := hN5.below (hba.mono hU5)
      have hR6 := (hba.block _ (lt_of_block hR5)).trans hR5
      have h12' := (hba.block _ (lt_of_block h12)).trans h12
      have HN6 := Aside0.mk hN6
      have HR6 := Aside0.mk hR6
      have H126 := Aside0.mk h12'
      have H136 := Aside0.mk h13
      have HS5 := Aside0.mk hs
      have HLN := Aside0.mk hlen
      have HRL := Aside0.mk hRl
      have HU5 := Aside0.mk hU5
      have HRW := Aside0.mk (lt_of_block hR5)
      have q0 := HG.out.t0
      have q1 := HG.out.t1
      clear hs hR5 hlen hb5 hRl h12 hN5 h13 hba hU5 hN6 hR6 h12' d6 d7 d12 dR c6 c7 c12 hUr HS
      by_cases hlt : rd bys a3 < 0
      · have b0 : decide (rd bys a3 < 0) = true := decide_eq_true hlt
        have HLT := Aside0.mk hlt
        clear hlt
        obtain ⟨cC, hcC⟩ : ∃ x, madeCells #[.bool false] n = x := ⟨_, rfl⟩
        have hmC : ∀ W : World, (Instr.makeSlice 24 (.int .i64 (n : Int)) (.int .i64 (n : Int))).run Try.prog W = .ok (.slice (some ⟨W.heap.size, 0, none⟩) n n) (W.alloc (.cells cC 4)) := fun W => by
          rw [← hcC]; exact run_make_row' 24 4 (.bool false) 1 Try.underlying24 info4 rfl .i64 .i64 n (by omega) (by omega) W
        have HCC := Aside0.mk hcC
        clear hcC
        go_wp2_with fail
        go_loopg [42] n (fun g v W => ∃ i : Nat, v = .int .i64 i ∧ i ≤ n ∧ Aside0 (Below (W5.heap.size + 1) (W5.alloc (Obj.cells #[Value.slice (some ⟨R, 0, none⟩) n n] 23)) W) ∧ Aside0 (∃ cs : Array Value, W.heap[W5.heap.size + 1]? = some (.cells cs 4 (0, 0)) ∧ cs.size = n ∧ ∀ j, j < i → cs[j]? = some (.bool (decide (0 ≤ rd bys j)))) ∧ Aside0 (g = n - i))
        case atStart =>
          have hb7 : Below (W5.heap.size + 1) (W5.alloc (Obj.cells #[Value.slice (some ⟨R, 0, none⟩) n n] 23)) ((W5.alloc (Obj.cells #[Value.slice (some ⟨R, 0, none⟩) n n] 23)).alloc (.cells cC 4)) := by
            have h := below_alloc (Below.refl (W5.alloc (Obj.cells #[Value.slice (some ⟨R, 0, none⟩) n n] 23)).heap.size (W5.alloc (Obj.cells #[Value.slice (some ⟨R, 0, none⟩) n n] 23))) (Obj.cells cC 4)
            rw [World.size_alloc] at h; exact h
          refine ⟨0, rfl, by omega, ⟨hb7⟩, ⟨⟨cC, blk2_1 _ _ _, by rw [← HCC.out]; simp [size_madeCells], fun j hj => by omega⟩⟩, ⟨by omega⟩⟩
        case round =>
          obtain ⟨i, rfl, hi, HB7, HCS, HGI⟩ := hrel
          have hu81 := Try.underlying81
          have hbw := HB7.out
          have e13 : wr.heap[W5.heap.size]? = some (Obj.cells #[Value.slice (some ⟨R, 0, none⟩) n n] 23 (0, 0)) := (hbw.block _ (by omega)).trans H136.out
          have eR : wr.heap[R]? = _ := (hbw.block _ (by have := HRW.out; omega)).trans HR6.out
          have eN := HN6.out.below (hbw.mono (by have := HU5.out; omega))
          have eG := (blk_cell eN.hG 1).trans (show _ = some vF from rfl)
          have e12 := (blk_cell ((hbw.block _ (by have := HU5.out; omega)).trans H126.out) 0).trans (show _ = some (Value.pointer (some ⟨G, 0, none⟩)) from rfl)
          by_cases hin : i < n
          · have b1 : decide (i < n) = true := decide_eq_true hin
            obtain ⟨cs, hcs, hcn, hcj⟩ := HCS.out
            have eRi : wr.cell? ⟨R, i, none⟩ = some (.int .i64 (rd bys i)) := by
              have : i < bys.length := by rw [HLN.out]; exact hin
              rw [blk_cell eR]; simp [this, rd, List.getD]
            have eC : ∃ v, wr.cell? ⟨W5.heap.size + 1, i, none⟩ = some v := by
              rw [blk_cell hcs]; exact ⟨_, Array.getElem?_eq_getElem (by omega)⟩
            obtain ⟨vC, eC⟩ := eC
            have zC := blk_frozen hcs i
            have HCN := Aside0.mk (And.intro hcs (And.intro hcn hcj))
            clear hbw e13 eR eN hcs hcn hcj
            go_wp2_with fail
            go_roundg (n - (i + 1))
            case measure => have := HGI.out; omega
            case rel =>
              obtain ⟨h1, h2, h3⟩ := HCN.out
              refine ⟨i + 1, by simp, by omega, ⟨HB7.out.setCell (p := ⟨W5.heap.size + 1, i, none⟩) (Nat.le_refl _) _⟩, ⟨⟨_, row_setCell h1 i _, by simp [h2], fun j hj => ?_⟩⟩, ⟨rfl⟩⟩
              by_cases e : j = i
              · subst e; simp [h2, hin]
              · rw [Array.getElem?_setIfInBounds_ne (fun h => e h.symm)]; exact h3 j (by omega)
          · have b1 : decide (i < n) = false := decide_eq_false hin
            have HNE := Aside0.mk eN
            clear hbw e13 eR eN
            go_wp2_with fail
            refine bodyPost_ret (results_tmp3 rfl _ _ _) rfl ?_
            obtain ⟨e1, e2⟩ := HO'.out fl (cutB bys) (HRUN.out fl (cutB bys) (.done HS5.out HLT.out))
            obtain rfl : i = n := by omega
            obtain ⟨cs, hcs, hcn, hcj⟩ := HCS.out
            have hcl : (cutB bys).length = i := by simp [cutB, HLN.out]
            have hle : w.heap.size ≤ W2.heap.size := HB.out.size
            have hw := HNE.out.hW
            have hu5 := HU5.out
            have hu2 : W2.heap.size ≤ U := Nat.le_of_lt (Nat.lt_of_le_of_lt HNE.out.hB HNE.out.hU)
            refine ⟨_, _, rfl, by rw [e1]; exact Kd.R_mono (Kd.R_lower HNE.out.hF hle) (fun _ _ => True.intro), ?_, below_step HB.out hw⟩
            rw [e2]
            refine Kd.R_of_own ⟨by simp [encs], .inr ⟨W5.heap.size + 1, i, cs, by rw [hcl]; rfl, by omega, hcs, by omega, by unfold maxLen; omega, by omega, ?_⟩⟩ (fun _ _ => True.intro)
            apply List.ext_getElem?
            intro j
            rw [hcl, Nat.mul_one, List.take_of_length_le (by simp [hcn]), Array.getElem?_toList]
            by_cases hj : j < i
            · rw [hcj j hj]
              have hj2 : j < bys.length := by rw [HLN.out]; exact hj
              simp [encs, cutB, hj2, rd, List.getD]
            · rw [Array.getElem?_eq_none (by omega)]
              exact (List.getElem?_eq_none (by show (encs Value.bool (cutB bys)).length ≤ j; unfold encs; rw [List.length_map, hcl]; omega)).symm
      · have b0 : decide (rd bys a3 < 0) = false := decide_eq_false hlt
        have HLT := Aside0.mk hlt
        clear hlt
        obtain ⟨p, hp⟩ := (srch_facts HG.out.ends HG.out.f0 HG.out.f1 HS5.out).2.2.1 a3 HG.out.t0 HG.out.t1 (by have := HLT.out; omega)
        have HP := Aside0.mk hp
        clear hp
        go_wp2_with fail
        have hJ : JB W2 U ((W5.alloc (Obj.cells #[Value.slice (some ⟨R, 0, none⟩) n n] 23)).alloc (Obj.cells #[Value.int .i64 1073741824] 3)) G A1 c1 l1 vF fl vA (adjG n l1) W5.heap.size (W5.heap.size + 1) R n bys 1073741824 := by
          have hb7 : Below (W5.alloc (Obj.cells #[Value.slice (some ⟨R, 0, none⟩) n n] 23)).heap.size (W5.alloc (Obj.cells #[Value.slice (some ⟨R, 0, none⟩) n n] 23)) ((W5.alloc (Obj.cells #[Value.slice (some ⟨R, 0, none⟩) n n] 23)).alloc (Obj.cells #[Value.int .i64 1073741824] 3)) := below_alloc (Below.refl _ _) _
          have u5 := HU5.out
          have hr := HRW.out
          exact {
            net := HN6.out.below (hb7.mono (by simp; omega))
            h12 := (hb7.block _ (lt_of_block H126.out)).trans H126.out
            h13 := (hb7.block _ (lt_of_block H136.out)).trans H136.out
            hL := blk2_1 _ _ _
            hR := (hb7.block _ (lt_of_block HR6.out)).trans HR6.out
            hlen := HLN.out
            u13 := u5
            uL := by omega
            uR := Nat.le_trans (Nat.le_of_lt (lt_of_block H12r.out)) HRL.out
            ne := by omega }
        refine (walk_least HG.out.ends HF.out hn4 J7.out J6.out HP.out hJ).mono ?_
        rintro e W8 ⟨rfl, hJ8⟩
        have HJ8 := Aside0.mk hJ8
        clear hJ hJ8
        go_wp2_with fail
        refine (walk_push HG.out.ends HF.out hn4 J7.out J6.out HP.out HJ8.out).mono ?_
        rintro e W9 ⟨rfl, hJ9⟩
        have HJ9 := Aside0.mk hJ9
        clear hJ9
        go_wp2_with fail
        go_roundg (FlowM.cap S61.f0 S61.f1 S61.f2 (fun v => decide (v = a2)) l1 - outsG l1 (aug fl p (leastP l1 fl p)) a2).toNat
        case measure =>
          have hg := HGG.out
          obtain ⟨h1, h2⟩ := flow_aug HG.out.ne HF.out HP.out
          have h3 := FlowM.weak (C := fun v => decide (v = a2)) (by omega) HG.out.ends h1 HG.out.f0 HG.out.f1 (by simp) (by simp; exact fun e => HG.out.ne e.symm)
          have h4 : FlowM.outs S61.f0 S61.f1 l1 (aug fl p (leastP l1 fl p)) a2 = outsG l1 (aug fl p (leastP l1 fl p)) a2 := rfl
          omega
        case rel => exact ⟨_, ⟨HJ9.out.net⟩, ⟨HJ9.out.h12⟩, ⟨(flow_aug HG.out.ne HF.out HP.out).1⟩, ⟨fun r c h => HRUN.out r c (.step HS5.out (by have := HLT.out; omega) HP.out h)⟩, ⟨rfl⟩⟩
  · have h := H.out
    rw [if_neg h0] at h
    simp only [Option.some.injEq, Prod.mk.injEq] at h
    obtain ⟨rfl, rfl, rfl⟩ := h
    have b0 : (e0 != 0) = true := by simp [h0]
    clear h0
    go_wp2_with fail
    refine bodyPost_ret (results_tmp3 rfl _ _ _) rfl ?_
    exact ⟨_, _, rfl, Kd.R_nil _ _ _ _ _, Kd.R_nil _ _ _ _ _, HB.out⟩
end Go.Proofs.Ytadeidhefjifaaa.Px
end
