/- A round of Max, and what the rounds come to: no program in sight. -/
import Derived.Test.YtadeidhefjifaaaHMaxM
set_option linter.unusedVariables false
set_option linter.unusedSimpArgs false
namespace Go.Proofs.Ytadeidhefjifaaa.Px
open Go.RowKit Go.Shelf Go.Proofs.YtadeidhefjifaaaW.PrintWords Go.Proofs.YtadeidhefjifaaaW.PrintLast Go.Proofs.YtadeidhefjifaaaW.PrintMore
/-- flows within the capacities, by index -/
def Bd (l : List S61) (fl : List Int) : Prop := fl.length = l.length ∧ ∀ i : Int, 0 ≤ i → i < l.length → 0 ≤ rd fl i ∧ rd fl i ≤ (rd_T61 l i).f2
theorem bd_iff : ∀ (l : List S61) (fl : List Int), FlowM.Bnd S61.f2 l fl ↔ Bd l fl
  | [], [] => ⟨fun _ => ⟨rfl, fun i h0 h1 => by simp at h1; omega⟩, fun _ => True.intro⟩
  | [], _ :: _ => ⟨fun h => h.elim, fun h => by simpa using h.1⟩
  | _ :: _, [] => ⟨fun h => h.elim, fun h => by simpa using h.1⟩
  | x :: l, f :: fl => by
    have ih := bd_iff l fl
    constructor
    · rintro ⟨h1, h2⟩
      obtain ⟨e, h2⟩ := ih.1 h2
      refine ⟨by simp [e], fun i i0 i1 => ?_⟩
      by_cases hi : i = 0
      · subst hi; exact h1
      · obtain ⟨j, rfl⟩ : ∃ j : Nat, i = (j : Int) + 1 := ⟨(i - 1).toNat, by omega⟩
        have := h2 j (by omega) (by simp at i1; omega)
        have e1 : ((j : Int) + 1).toNat = j + 1 := by omega
        simpa [rd, rd_T61, List.getD, e1] using this
    · rintro ⟨e, h⟩
      refine ⟨h 0 (by omega) (by simp), ih.2 ⟨by simpa using e, fun i i0 i1 => ?_⟩⟩
      have := h (i + 1) (by omega) (by simp; omega)
      have e1 : (i + 1).toNat = i.toNat + 1 := by omega
      simpa [rd, rd_T61, List.getD, e1] using this
theorem closed_iff (C : Int → Bool) : ∀ (l : List S61) (fl : List Int), fl.length = l.length → (FlowM.Closed S61.f0 S61.f1 S61.f2 C l fl ↔ ∀ i : Int, 0 ≤ i → i < l.length →
    (C (rd_T61 l i).f0 = true → C (rd_T61 l i).f1 = false → rd fl i = (rd_T61 l i).f2) ∧ (C (rd_T61 l i).f1 = true → C (rd_T61 l i).f0 = false → rd fl i = 0))
  | [], [], _ => ⟨fun _ i h0 h1 => by simp at h1; omega, fun _ => True.intro⟩
  | [], _ :: _, h => by simp at h
  | _ :: _, [], h => by simp at h
  | x :: l, f :: fl, hl => by
    have ih := closed_iff C l fl (by simpa using hl)
    constructor
    · rintro ⟨h1, h2⟩ i i0 i1
      have h2 := ih.1 h2
      by_cases hi : i = 0
      · subst hi; exact h1
      · obtain ⟨j, rfl⟩ : ∃ j : Nat, i = (j : Int) + 1 := ⟨(i - 1).toNat, by omega⟩
        have := h2 j (by omega) (by simp at i1; omega)
        have e1 : ((j : Int) + 1).toNat = j + 1 := by omega
        simpa [rd, rd_T61, List.getD, e1] using this
    · intro h
      refine ⟨h 0 (by omega) (by simp), ih.2 fun i i0 i1 => ?_⟩
      have := h (i + 1) (by omega) (by simp; omega)
      have e1 : (i + 1).toNat = i.toNat + 1 := by omega
      simpa [rd, rd_T61, List.getD, e1] using this
abbrev outsG (l : List S61) (fl : List Int) (v : Int) : Int := FlowM.outs S61.f0 S61.f1 l fl v
theorem outs_set : ∀ (l : List S61) (fl : List Int) (i : Nat) (y v : Int), fl.length = l.length → i < l.length →
    outsG l (fl.set i y) v = outsG l fl v + ((if (rd_T61 l i).f0 = v then y - rd fl i else 0) - (if (rd_T61 l i).f1 = v then y - rd fl i else 0))
  | [], fl, i, y, v, _, h => by simp at h
  | _ :: _, [], i, y, v, h, _ => by simp at h
  | x :: l, f :: fl, 0, y, v, hl, h => by
    simp only [outsG, List.set_cons_zero, FlowM.outs, rd_T61, rd, List.getD]
    simp
    split <;> split <;> omega
  | x :: l, f :: fl, i + 1, y, v, hl, h => by
    have ih := outs_set l fl i y v (by simpa using hl) (by simpa using h)
    have e1 : rd_T61 (x :: l) ((i + 1 : Nat) : Int) = rd_T61 l i := by simp [rd_T61, List.getD]
    have e2 : rd (f :: fl) ((i + 1 : Nat) : Int) = rd fl i := by simp [rd, List.getD]
    rw [e1, e2]
    simp only [outsG, List.set_cons_succ, FlowM.outs] at ih ⊢
    rw [ih]; omega
theorem pushF_length (fl : List Int) (r m : Int) : (pushF fl r m).length = fl.length := by simp [pushF]
theorem rd_push (fl : List Int) (r m i : Int) (r0 : 0 ≤ r) (r1 : r < 2 * fl.length) (i0 : 0 ≤ i) : rd (pushF fl r m) i = if i = r / 2 then (if r % 2 = 1 then rd fl (r / 2) - m else rd fl (r / 2) + m) else rd fl i := by
  have := rd_set (b := fl) rfl (r / 2) (if r % 2 = 1 then rd fl (r / 2) - m else rd fl (r / 2) + m) i (by omega) (by omega) i0
  unfold pushF; exact this
theorem outs_push (l : List S61) (fl : List Int) (r m v : Int) (hl : fl.length = l.length) (r0 : 0 ≤ r) (r1 : r < 2 * l.length) :
    outsG l (pushF fl r m) v = outsG l fl v + ((if begR l r = v then m else 0) - (if endR l r = v then m else 0)) := by
  unfold pushF
  rw [outs_set l fl (r / 2).toNat _ v hl (by omega), Int.toNat_of_nonneg (by omega)]
  unfold begR endR
  by_cases hp : r % 2 = 0
  · have e2 : (if r % 2 = 1 then rd fl (r / 2) - m else rd fl (r / 2) + m) - rd fl (r / 2) = m := by rw [if_neg (by omega)]; omega
    rw [if_pos hp, if_pos hp, e2]
  · have e2 : (if r % 2 = 1 then rd fl (r / 2) - m else rd fl (r / 2) + m) - rd fl (r / 2) = -m := by rw [if_pos (by omega)]; omega
    rw [if_neg hp, if_neg hp, e2]; split <;> split <;> omega
/-- more flows along a path -/
def aug (fl : List Int) (p : List Int) (m : Int) : List Int := p.foldl (fun f r => pushF f r m) fl
/-- the least room along a path -/
def leastP (l : List S61) (fl : List Int) (p : List Int) : Int := p.foldl (fun m r => mn m (capR l fl r)) 1073741824
theorem mn_le (a b : Int) : mn a b ≤ a ∧ mn a b ≤ b ∧ (mn a b = a ∨ mn a b = b) := by
  unfold mn; split <;> omega
theorem fold_mn (g : Int → Int) : ∀ (p : List Int) (m0 : Int), p.foldl (fun m r => mn m (g r)) m0 ≤ m0 ∧ (∀ r ∈ p, p.foldl (fun m r => mn m (g r)) m0 ≤ g r) ∧ (1 ≤ m0 → (∀ r ∈ p, 1 ≤ g r) → 1 ≤ p.foldl (fun m r => mn m (g r)) m0)
  | [], m0 => ⟨Int.le_refl _, fun r h => (by cases h), fun h _ => h⟩
  | s :: p, m0 => by
    obtain ⟨a, b, c⟩ := mn_le m0 (g s)
    obtain ⟨i1, i2, i3⟩ := fold_mn g p (mn m0 (g s))
    simp only [List.foldl_cons]
    refine ⟨by omega, fun r hr => ?_, fun h1 h2 => i3 (by have := h2 s (by simp); omega) (fun r hr => h2 r (by simp [hr]))⟩
    rcases List.mem_cons.1 hr with rfl | hr
    · omega
    · exact i2 r hr
theorem leastP_ok {n : Nat} {l : List S61} {fl b : List Int} {frm v : Int} {p : List Int} (h : GP n l fl b frm v p) : 1 ≤ leastP l fl p ∧ leastP l fl p ≤ 1073741824 ∧ ∀ r ∈ p, leastP l fl p ≤ capR l fl r := by
  obtain ⟨a, b, c⟩ := fold_mn (capR l fl) p 1073741824
  exact ⟨c (by omega) (fun r hr => by have := (h.mem r hr).2.2; omega), a, b⟩
theorem cap_push {l : List S61} {fl : List Int} {r m s : Int} (hl : fl.length = l.length) (r0 : 0 ≤ r) (r1 : r < 2 * l.length) (s0 : 0 ≤ s) (hne : s / 2 ≠ r / 2) : capR l (pushF fl r m) s = capR l fl s := by
  unfold capR
  rw [rd_push fl r m (s / 2) r0 (by omega) (by omega), if_neg hne]
theorem bd_push {l : List S61} {fl : List Int} {r m : Int} (h : Bd l fl) (r0 : 0 ≤ r) (r1 : r < 2 * l.length) (m0 : 0 ≤ m) (hm : m ≤ capR l fl r) : Bd l (pushF fl r m) := by
  refine ⟨by rw [pushF_length]; exact h.1, fun i i0 i1 => ?_⟩
  rw [rd_push fl r m i r0 (by have := h.1; omega) i0]
  by_cases e : i = r / 2
  · subst e
    rw [if_pos rfl]
    have := h.2 (r / 2) i0 i1
    unfold capR at hm
    by_cases hp : r % 2 = 0
    · rw [if_pos hp] at hm; rw [if_neg (by omega)]; omega
    · rw [if_neg hp] at hm; rw [if_pos (by omega)]; omega
  · rw [if_neg e]; exact h.2 i i0 i1
theorem bd_aug {l : List S61} {m : Int} (m0 : 0 ≤ m) : ∀ (p : List Int) (fl : List Int), Bd l fl → (∀ r ∈ p, 0 ≤ r ∧ r < 2 * l.length ∧ m ≤ capR l fl r) → (p.map (· / 2)).Nodup → Bd l (aug fl p m)
  | [], fl, h, _, _ => h
  | r :: p, fl, h, hp, hn => by
    obtain ⟨a, b, c⟩ := hp r (by simp)
    rw [List.map_cons, List.nodup_cons] at hn
    refine bd_aug m0 p (pushF fl r m) (bd_push h a b m0 c) (fun s hs => ?_) hn.2
    obtain ⟨d, e, f⟩ := hp s (by simp [hs])
    refine ⟨d, e, ?_⟩
    rw [cap_push h.1 a b d (fun he => hn.1 (by rw [← he]; exact List.mem_map.2 ⟨s, hs, rfl⟩))]; exact f
theorem aug_append (fl p q : List Int) (m : Int) : aug fl (p ++ q) m = aug (aug fl p m) q m := by simp [aug]
theorem aug_length : ∀ (p fl : List Int) (m : Int), (aug fl p m).length = fl.length
  | [], _, _ => rfl
  | r :: p, fl, m => by show (aug (pushF fl r m) p m).length = _; rw [aug_length, pushF_length]
theorem outs_aug {n : Nat} {l : List S61} {fl0 b : List Int} {frm : Int} (v m : Int) : ∀ (p : List Int) (x : Int) (fl : List Int), GP n l fl0 b frm x p → fl.length = l.length →
    outsG l (aug fl p m) v = outsG l fl v + ((if frm = v then m else 0) - (if x = v then m else 0))
  | [], x, fl, h, _ => by have : x = frm := h; subst this; show outsG l fl v = _; omega
  | r :: p, x, fl, h, hl => by
    show outsG l (aug (pushF fl r m) p m) v = _
    rw [outs_aug v m p (begR l r) (pushF fl r m) h.2 (by rw [pushF_length]; exact hl), outs_push l fl r m v hl h.1.2.2.2.1 h.1.2.2.2.2.1, h.1.2.2.2.2.2.2]
    omega
/-- a flow in a good network -/
abbrev FlowG (n : Nat) (l : List S61) (frm tt : Int) (fl : List Int) : Prop := FlowM.Flow S61.f0 S61.f1 S61.f2 n l frm tt fl
abbrev OptG (n : Nat) (l : List S61) (frm tt : Int) (fl : List Int) (C : Int → Bool) : Prop := FlowM.Opt S61.f0 S61.f1 S61.f2 n l frm tt fl C
theorem flow_okf {n : Nat} {l : List S61} {frm tt : Int} {fl : List Int} (hg : GoodL n l) (h : FlowG n l frm tt fl) : Okf l fl := fun i i0 i1 => by
  have := ((bd_iff l fl).1 h.bnd).2 i i0 i1
  have := (hg _ (rdT_mem l i i0 i1)).2.2.2
  omega
theorem flow_aug {n : Nat} {l : List S61} {frm tt : Int} {fl b p : List Int} (hne : frm ≠ tt) (h : FlowG n l frm tt fl) (hp : GP n l fl b frm tt p) : FlowG n l frm tt (aug fl p (leastP l fl p)) ∧ outsG l fl frm + 1 ≤ outsG l (aug fl p (leastP l fl p)) frm := by
  obtain ⟨a, _, c⟩ := leastP_ok hp
  have hb := (bd_iff l fl).1 h.bnd
  refine ⟨⟨(bd_iff l _).2 (bd_aug (by omega) p fl hb (fun r hr => ⟨(hp.mem r hr).1, (hp.mem r hr).2.1, c r hr⟩) hp.nodup), fun v v0 v1 h1 h2 => ?_⟩, ?_⟩
  · have := outs_aug v (leastP l fl p) p tt fl hp hb.1
    rw [if_neg (fun e => h1 e.symm), if_neg (fun e => h2 e.symm)] at this
    have h3 := h.cons v v0 v1 h1 h2
    simp only [outsG] at this
    omega
  · have := outs_aug frm (leastP l fl p) p tt fl hp hb.1
    rw [if_pos rfl, if_neg (fun e => hne e.symm)] at this
    omega
/-- where no path is left -/
theorem opt_of_done {n : Nat} {l : List S61} {frm tt : Int} {fl bys : List Int} (hg : GoodL n l) (h : FlowG n l frm tt fl) (f0 : 0 ≤ frm) (f1 : frm < n) (t0 : 0 ≤ tt) (t1 : tt < n)
    (hlen : bys.length = n) (hroot : 0 ≤ rd bys frm) (hpath : ∀ v : Int, 0 ≤ v → v < n → 0 ≤ rd bys v → ∃ p, GP n l fl bys frm v p) (hshut : ∀ v : Int, 0 ≤ v → v < n → 0 ≤ rd bys v → Shut n l fl bys v) (ht : rd bys tt < 0) :
    OptG n l frm tt fl (fun v => decide (0 ≤ rd bys v)) := by
  have hb := (bd_iff l fl).1 h.bnd
  have hsh : ∀ r : Int, 0 ≤ r → r < 2 * l.length → 0 ≤ rd bys (begR l r) → rd bys (endR l r) < 0 → capR l fl r ≤ 0 := fun r r0 r1 hv hu => by
    have hv2 := begR_in n l hg r r0 r1
    have he := endR_in n l hg r r0 r1
    by_cases hc : capR l fl r > 0
    · have := hshut _ hv2.1 hv2.2 hv ⟨(r, endR l r), he⟩ ((use_iff n l fl hg _ hv2.1 _).2 ⟨r0, r1, rfl, hc, rfl⟩)
      have : 0 ≤ rd bys (endR l r) := this
      omega
    · omega
  refine ⟨h, decide_eq_true hroot, decide_eq_false (by omega), (closed_iff _ l fl hb.1).2 fun i i0 i1 => ⟨fun h1 h2 => ?_, fun h1 h2 => ?_⟩, fun D hD hc v v0 v1 hv => ?_⟩
  · have h1 := of_decide_eq_true h1
    have h2 := of_decide_eq_false h2
    have := hsh (2 * i) (by omega) (by omega) (by unfold begR; rw [if_pos (by omega), show 2 * i / 2 = i by omega]; exact h1) (by unfold endR; rw [if_pos (by omega), show 2 * i / 2 = i by omega]; omega)
    unfold capR at this
    rw [if_pos (by omega), show 2 * i / 2 = i by omega] at this
    have := (hb.2 i i0 i1).2
    omega
  · have h1 := of_decide_eq_true h1
    have h2 := of_decide_eq_false h2
    have := hsh (2 * i + 1) (by omega) (by omega) (by unfold begR; rw [if_neg (by omega), show (2 * i + 1) / 2 = i by omega]; exact h1) (by unfold endR; rw [if_neg (by omega), show (2 * i + 1) / 2 = i by omega]; omega)
    unfold capR at this
    rw [if_neg (by omega), show (2 * i + 1) / 2 = i by omega] at this
    have := (hb.2 i i0 i1).1
    omega
  · obtain ⟨p, hp⟩ := hpath v v0 v1 (of_decide_eq_true hv)
    have hc := (closed_iff D l fl hb.1).1 hc
    clear hv v0 v1
    induction p generalizing v with
    | nil => have : v = frm := hp; rw [this]; exact hD
    | cons r p ih =>
      have hbd := ih _ hp.2
      obtain ⟨_, _, _, r0, r1, hcap, he⟩ := hp.1
      obtain ⟨c1, c2⟩ := hc (r / 2) (by omega) (by omega)
      cases hDv : D v with
      | true => rfl
      | false =>
        exfalso
        unfold begR at hbd
        unfold endR at he
        unfold capR at hcap
        by_cases hpar : r % 2 = 0
        · rw [if_pos hpar] at hbd he hcap
          have := c1 hbd (by rw [he]; exact hDv)
          omega
        · rw [if_neg hpar] at hbd he hcap
          have := c2 hbd (by rw [he]; exact hDv)
          omega
end Go.Proofs.Ytadeidhefjifaaa.Px
