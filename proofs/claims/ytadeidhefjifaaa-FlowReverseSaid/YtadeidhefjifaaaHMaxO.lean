/- What Max answers: no program in sight. -/
import Derived.Test.YtadeidhefjifaaaHMaxN
import Derived.Test.YtadeidhefjifaaaPx1
set_option linter.unusedVariables false
set_option linter.unusedSimpArgs false
namespace Go.Proofs.Ytadeidhefjifaaa.Px
open Go.RowKit Go.Shelf Go.Proofs.YtadeidhefjifaaaW.PrintWords Go.Proofs.YtadeidhefjifaaaW.PrintLast Go.Proofs.YtadeidhefjifaaaW.PrintMore
/-- the entries that a search begins with -/
abbrev bys0 (n : Nat) (l : List S61) (frm : Int) : List Int := (List.replicate n (-1)).set frm.toNat ((l.length : Int) * 2)
/-- what a search answers -/
def Srch (n : Nat) (l : List S61) (fl : List Int) (frm tt : Int) (bys : List Int) : Prop := ∃ k, bfs tt (useG n l fl) k (bys0 n l frm) [frm] = some bys
theorem rd_neg (n : Nat) (v : Int) (v0 : 0 ≤ v) (v1 : v < n) : rd (List.replicate n (-1)) v = -1 := by simp [rd, List.getD, show v.toNat < n by omega]
theorem rd_bys0 (n : Nat) (l : List S61) (frm v : Int) (f0 : 0 ≤ frm) (f1 : frm < n) (v0 : 0 ≤ v) (v1 : v < n) : rd (bys0 n l frm) v = if v = frm then (l.length : Int) * 2 else -1 := by
  rw [rd_set (n := n) (by simp) frm _ v f0 f1 v0, rd_neg n v v0 v1]
theorem sinv0 (n : Nat) (l : List S61) (fl : List Int) (frm : Int) (f0 : 0 ≤ frm) (f1 : frm < n) : SInv n l fl frm (bys0 n l frm) [frm] where
  len := by simp
  root := by rw [rd_bys0 n l frm frm f0 f1 f0 f1, if_pos rfl]; omega
  path := fun v v0 v1 h => by
    rw [rd_bys0 n l frm v f0 f1 v0 v1] at h
    by_cases e : v = frm
    · exact ⟨[], e⟩
    · rw [if_neg e] at h; omega
  que := fun x hx => by
    obtain rfl := List.mem_singleton.1 hx
    exact ⟨⟨f0, f1⟩, by rw [rd_bys0 n l x x f0 f1 f0 f1, if_pos rfl]; omega⟩
theorem srch_facts {n : Nat} {l : List S61} {fl : List Int} {frm tt : Int} {bys : List Int} (hg : GoodL n l) (f0 : 0 ≤ frm) (f1 : frm < n) (h : Srch n l fl frm tt bys) :
    bys.length = n ∧ 0 ≤ rd bys frm ∧ (∀ v : Int, 0 ≤ v → v < n → 0 ≤ rd bys v → ∃ p, GP n l fl bys frm v p) ∧ (rd bys tt < 0 → ∀ v : Int, 0 ≤ v → v < n → 0 ≤ rd bys v → Shut n l fl bys v) := by
  obtain ⟨k, hk⟩ := h
  refine bfs_inv n l hg fl frm tt k _ _ bys (sinv0 n l fl frm f0 f1) (fun v v0 v1 hv => .inl ?_) hk
  rw [rd_bys0 n l frm v f0 f1 v0 v1] at hv
  by_cases e : v = frm
  · simp [e]
  · rw [if_neg e] at hv; omega
theorem srch_ends (n : Nat) (l : List S61) (fl : List Int) (frm tt : Int) (hg : GoodL n l) (f0 : 0 ≤ frm) (f1 : frm < n) : ∃ bys, Srch n l fl frm tt bys := by
  obtain ⟨k, bys, h⟩ := bfs_ends n l hg fl tt _ (bys0 n l frm) [frm] (by simp) (fun x hx => by obtain rfl := List.mem_singleton.1 hx; exact ⟨f0, f1⟩) (Nat.le_refl _)
  exact ⟨bys, k, h⟩
theorem srch_det {n : Nat} {l : List S61} {fl : List Int} {frm tt : Int} {b b' : List Int} (h : Srch n l fl frm tt b) (h' : Srch n l fl frm tt b') : b = b' := by
  obtain ⟨k, h⟩ := h; obtain ⟨k', h'⟩ := h'
  exact bfs_det tt _ k k' _ _ _ _ h h'
/-- which nodes were met -/
def cutB (bys : List Int) : List Bool := bys.map fun r => decide (0 ≤ r)
/-- the rounds from a flow on, and what they come to -/
inductive Run (n : Nat) (l : List S61) (frm tt : Int) : List Int → List Int → List Bool → Prop
  | done {fl bys : List Int} : Srch n l fl frm tt bys → rd bys tt < 0 → Run n l frm tt fl fl (cutB bys)
  | step {fl bys p r : List Int} {c : List Bool} : Srch n l fl frm tt bys → 0 ≤ rd bys tt → GP n l fl bys frm tt p → Run n l frm tt (aug fl p (leastP l fl p)) r c → Run n l frm tt fl r c
theorem Run.det {n : Nat} {l : List S61} {frm tt : Int} {fl r r' : List Int} {c c' : List Bool} (h : Run n l frm tt fl r c) (h' : Run n l frm tt fl r' c') : r = r' ∧ c = c' := by
  induction h with
  | done hs ht =>
    cases h' with
    | done hs' ht' => exact ⟨rfl, by rw [srch_det hs hs']⟩
    | step hs' ht' _ _ => rw [srch_det hs hs'] at ht; omega
  | step hs ht hp _ ih =>
    cases h' with
    | done hs' ht' => rw [srch_det hs hs'] at ht; omega
    | step hs' ht' hp' h' =>
      obtain rfl := srch_det hs hs'
      obtain rfl := hp.det hp'
      exact ih h'
/-- a cut as a set of nodes -/
def Cof (c : List Bool) (v : Int) : Bool := c.getD v.toNat false
theorem cof_cut {n : Nat} {bys : List Int} (hl : bys.length = n) (v : Int) (v0 : 0 ≤ v) (v1 : v < n) : Cof (cutB bys) v = decide (0 ≤ rd bys v) := by
  simp [Cof, cutB, rd, List.getD, show v.toNat < bys.length by omega]
theorem opt_congr {n : Nat} {l : List S61} {frm tt : Int} {fl : List Int} {C D : Int → Bool} (hg : GoodL n l) (f0 : 0 ≤ frm) (f1 : frm < n) (t0 : 0 ≤ tt) (t1 : tt < n) (h : OptG n l frm tt fl C) (e : ∀ v : Int, 0 ≤ v → v < n → C v = D v) : OptG n l frm tt fl D := by
  have hb := (bd_iff l fl).1 h.flow.bnd
  refine ⟨h.flow, by rw [← e _ f0 f1]; exact h.hs, by rw [← e _ t0 t1]; exact h.ht, (closed_iff D l fl hb.1).2 fun i i0 i1 => ?_, fun X hX hc v v0 v1 hv => h.least X hX hc v v0 v1 (by rw [e v v0 v1]; exact hv)⟩
  have := (closed_iff C l fl hb.1).1 h.closed i i0 i1
  have hx := hg _ (rdT_mem l i i0 i1)
  rw [e _ hx.1.1 hx.1.2, e _ hx.2.1.1 hx.2.1.2] at this
  exact this
theorem Run.opt {n : Nat} {l : List S61} {frm tt : Int} {fl r : List Int} {c : List Bool} (hg : GoodL n l) (f0 : 0 ≤ frm) (f1 : frm < n) (t0 : 0 ≤ tt) (t1 : tt < n) (hne : frm ≠ tt) (h : Run n l frm tt fl r c) (hf : FlowG n l frm tt fl) : OptG n l frm tt r (Cof c) ∧ c.length = n := by
  induction h with
  | done hs ht =>
    obtain ⟨a, b, d, e⟩ := srch_facts hg f0 f1 hs
    exact ⟨opt_congr hg f0 f1 t0 t1 (opt_of_done hg hf f0 f1 t0 t1 a b d (e ht) ht) (fun v v0 v1 => (cof_cut a v v0 v1).symm), by simp [cutB, a]⟩
  | step hs ht hp _ ih => exact ih (flow_aug hne hf hp).1
theorem Run.ends (n : Nat) (l : List S61) (frm tt : Int) (hg : GoodL n l) (f0 : 0 ≤ frm) (f1 : frm < n) (t0 : 0 ≤ tt) (t1 : tt < n) (hne : frm ≠ tt) : ∀ (g : Nat) (fl : List Int), FlowG n l frm tt fl →
    (FlowM.cap S61.f0 S61.f1 S61.f2 (fun v => decide (v = frm)) l - outsG l fl frm).toNat ≤ g → ∃ r c, Run n l frm tt fl r c := by
  intro g
  induction g with
  | zero =>
    intro fl hf hg0
    obtain ⟨bys, hs⟩ := srch_ends n l fl frm tt hg f0 f1
    obtain ⟨a, b, d, e⟩ := srch_facts hg f0 f1 hs
    by_cases ht : rd bys tt < 0
    · exact ⟨_, _, .done hs ht⟩
    · obtain ⟨p, hp⟩ := d tt t0 t1 (by omega)
      obtain ⟨h1, h2⟩ := flow_aug hne hf hp
      have := FlowM.weak (C := fun v => decide (v = frm)) (by omega) hg h1 f0 f1 (by simp) (by simp; exact fun e => hne e.symm)
      simp only [outsG] at h2 hg0
      omega
  | succ g ih =>
    intro fl hf hg0
    obtain ⟨bys, hs⟩ := srch_ends n l fl frm tt hg f0 f1
    obtain ⟨a, b, d, e⟩ := srch_facts hg f0 f1 hs
    by_cases ht : rd bys tt < 0
    · exact ⟨_, _, .done hs ht⟩
    · obtain ⟨p, hp⟩ := d tt t0 t1 (by omega)
      obtain ⟨h1, h2⟩ := flow_aug hne hf hp
      obtain ⟨r, c, h⟩ := ih _ h1 (by simp only [outsG] at h2 hg0 ⊢; omega)
      exact ⟨r, c, .step hs (by omega) hp h⟩
theorem outs_zero : ∀ (l : List S61) (v : Int), outsG l (List.replicate l.length 0) v = 0
  | [], v => rfl
  | x :: l, v => by
    have := outs_zero l v
    simp only [outsG, List.length_cons, List.replicate_succ, FlowM.outs] at this ⊢
    rw [this]; simp
theorem flow_zero (n : Nat) (l : List S61) (frm tt : Int) (hg : GoodL n l) : FlowG n l frm tt (List.replicate l.length 0) where
  bnd := (bd_iff l _).2 ⟨by simp, fun i i0 i1 => by
    have := (hg _ (rdT_mem l i i0 i1)).2.2.2.1
    have e : rd (List.replicate l.length 0) i = 0 := by simp [rd, List.getD, show i.toNat < l.length by omega]
    rw [e]; omega⟩
  cons := fun v _ _ _ _ => outs_zero l v
open Classical in
/-- what the rounds come to -/
noncomputable def runOut (n : Nat) (l : List S61) (frm tt : Int) : List Int × List Bool := if h : ∃ x : List Int × List Bool, Run n l frm tt (List.replicate l.length 0) x.1 x.2 then Classical.choose h else ([], [])
theorem runOut_eq {n : Nat} {l : List S61} {frm tt : Int} {r : List Int} {c : List Bool} (h : Run n l frm tt (List.replicate l.length 0) r c) : runOut n l frm tt = (r, c) := by
  have hex : ∃ x : List Int × List Bool, Run n l frm tt (List.replicate l.length 0) x.1 x.2 := ⟨(r, c), h⟩
  unfold runOut
  rw [dif_pos hex]
  obtain ⟨a, b⟩ := Run.det (Classical.choose_spec hex) h
  exact Prod.ext a b
/-- a good network, and two different nodes of it -/
structure Good (a0 : Int) (l : List S61) (a2 a3 : Int) : Prop where
  n2 : 2 ≤ a0
  n4 : a0 ≤ 4096
  m : l.length ≤ 65536
  ends : GoodL a0 l
  f0 : 0 ≤ a2
  f1 : a2 < a0
  t0 : 0 ≤ a3
  t1 : a3 < a0
  ne : a2 ≠ a3
theorem badE_iff (n : Int) (x : S61) : badE n x = false ↔ ((0 ≤ x.f0 ∧ x.f0 < n) ∧ (0 ≤ x.f1 ∧ x.f1 < n) ∧ x.f0 ≠ x.f1 ∧ 0 ≤ x.f2 ∧ x.f2 ≤ 1073741824) := by
  simp only [badE, nodeB, Bool.or_eq_false_iff, Bool.not_eq_false', Bool.and_eq_true, decide_eq_true_eq, decide_eq_false_iff_not, beq_eq_false_iff_ne, ne_eq, Int.not_lt]
  constructor
  · rintro ⟨⟨⟨⟨h1, h2⟩, h3⟩, h4⟩, h5⟩; exact ⟨h1, h2, h3, h4, h5⟩
  · rintro ⟨h1, h2, h3, h4, h5⟩; exact ⟨⟨⟨⟨h1, h2⟩, h3⟩, h4⟩, h5⟩
theorem chkV_zero (n : Int) (l : List S61) : chkV n l = 0 ↔ 2 ≤ n ∧ n ≤ 4096 ∧ l.length ≤ 65536 ∧ GoodL n l := by
  unfold chkV
  by_cases h : n < 2 ∨ 4096 < n ∨ 65536 < (l.length : Int)
  · rw [if_pos h]; constructor
    · intro h; cases h
    · intro h2; omega
  · rw [if_neg h]
    by_cases h2 : l.any (badE n) = true
    · rw [if_pos h2]; constructor
      · intro h; cases h
      · rintro ⟨_, _, _, hg⟩
        obtain ⟨x, hx, hb⟩ := List.any_eq_true.1 h2
        have := (badE_iff n x).2 (hg x hx)
        rw [this] at hb; cases hb
    · rw [if_neg h2]
      refine ⟨fun _ => ⟨by omega, by omega, by omega, fun x hx => (badE_iff n x).1 ?_⟩, fun _ => rfl⟩
      cases hb : badE n x with
      | false => rfl
      | true => exact absurd (List.any_eq_true.2 ⟨x, hx, hb⟩) h2
theorem chkV_two (n : Int) (l : List S61) : chkV n l = 0 ∨ chkV n l = 180 := by unfold chkV; split; · exact .inr rfl
                                                                                split; · exact .inr rfl
                                                                                exact .inl rfl
/-- what check answers -/
theorem check_eq (k : Nat) (a0 : Int) (l : List S61) (a2 a3 : Int) : flow_check.f (k + 1) a0 l a2 a3 = some (if chkV a0 l = 0 ∧ 0 ≤ a2 ∧ a2 < a0 ∧ 0 ≤ a3 ∧ a3 < a0 ∧ a2 ≠ a3 then 0 else 180) := by
  have := chkV_two a0 l
  simp only [flow_check.f, flow_Check.f, flow_check.j0, Option.bind_some]
  by_cases h0 : chkV a0 l = 0
  · rw [if_pos h0]
    by_cases h1 : a2 < 0
    · rw [if_pos h1, if_pos trivial, if_neg (by omega)]
    · rw [if_neg h1]
      by_cases h2 : a2 ≥ a0
      · rw [if_pos h2, if_pos trivial, if_neg (by omega)]
      · rw [if_neg h2]
        by_cases h3 : a3 < 0
        · rw [if_pos h3, if_pos trivial, if_neg (by omega)]
        · rw [if_neg h3]
          by_cases h4 : a3 ≥ a0
          · rw [if_pos h4, if_pos trivial, if_neg (by omega)]
          · rw [if_neg h4]
            by_cases h5 : a2 = a3
            · rw [if_pos (beq_iff_eq.2 h5), if_neg (by omega)]
            · rw [if_neg (by simp [h5]), if_pos ⟨h0, by omega, by omega, by omega, by omega, h5⟩]
  · rw [if_neg h0, if_neg (fun h => h0 h.1)]
    have h1 : chkV a0 l = 180 := by omega
    rw [h1]
theorem good_iff (a0 : Int) (l : List S61) (a2 a3 : Int) : (chkV a0 l = 0 ∧ 0 ≤ a2 ∧ a2 < a0 ∧ 0 ≤ a3 ∧ a3 < a0 ∧ a2 ≠ a3) ↔ Good a0 l a2 a3 := by
  rw [chkV_zero]
  exact ⟨fun ⟨⟨a, b, c, d⟩, e, f, g, h, i⟩ => ⟨a, b, c, d, e, f, g, h, i⟩, fun h => ⟨⟨h.n2, h.n4, h.m, h.ends⟩, h.f0, h.f1, h.t0, h.t1, h.ne⟩⟩
open Classical in
theorem check_good (k : Nat) (a0 : Int) (l : List S61) (a2 a3 : Int) : flow_check.f (k + 1) a0 l a2 a3 = some (if Good a0 l a2 a3 then 0 else 180) := by
  rw [check_eq]
  congr 1
  by_cases h : Good a0 l a2 a3
  · rw [if_pos h, if_pos ((good_iff a0 l a2 a3).2 h)]
  · rw [if_neg h, if_neg (fun e => h ((good_iff a0 l a2 a3).1 e))]
noncomputable def flow_Max.f (k : Nat) (a0 : Int) (l1 : List S61) (a2 : Int) (a3 : Int) : Option (List Int × List Bool × Int) :=
  (flow_check.f k a0 l1 a2 a3).bind fun e => if e = 0 then some ((runOut a0.toNat l1 a2 a3).1, (runOut a0.toNat l1 a2 a3).2, 0) else some ([], [], e)
theorem flow_Max.mono : ∀ a0 a1 a2 a3 k, LeO (flow_Max.f k a0 a1 a2 a3) (flow_Max.f (k + 1) a0 a1 a2 a3) := fun a0 a1 a2 a3 k =>
  LeO.bind (flow_check.mono a0 a1 a2 a3 k) (fun _ => LeO.refl _)
/-- what Max answers: a flow and the least minimum cut -/
theorem max_good (k : Nat) (a0 : Int) (l : List S61) (a2 a3 : Int) (h : Good a0 l a2 a3) : ∃ fl c, flow_Max.f (k + 1) a0 l a2 a3 = some (fl, c, 0) ∧ FlowM.Opt S61.f0 S61.f1 S61.f2 a0 l a2 a3 fl (Cof c) ∧ (c.length : Int) = a0 := by
  obtain ⟨n, rfl⟩ := Int.eq_ofNat_of_zero_le (show 0 ≤ a0 by have := h.n2; omega)
  obtain ⟨r, c, hr⟩ := Run.ends n l a2 a3 h.ends h.f0 h.f1 h.t0 h.t1 h.ne _ _ (flow_zero n l a2 a3 h.ends) (Nat.le_refl _)
  obtain ⟨ho, hc⟩ := Run.opt h.ends h.f0 h.f1 h.t0 h.t1 h.ne hr (flow_zero n l a2 a3 h.ends)
  refine ⟨r, c, ?_, ho, by omega⟩
  unfold flow_Max.f
  rw [check_good, if_pos h]
  show some ((runOut (n : Int).toNat l a2 a3).1, (runOut (n : Int).toNat l a2 a3).2, (0 : Int)) = _
  rw [Int.toNat_natCast, runOut_eq hr]
theorem max_bad (k : Nat) (a0 : Int) (l : List S61) (a2 a3 : Int) (h : ¬ Good a0 l a2 a3) : flow_Max.f (k + 1) a0 l a2 a3 = some ([], [], 180) := by
  unfold flow_Max.f
  rw [check_good, if_neg h]; rfl
end Go.Proofs.Ytadeidhefjifaaa.Px
