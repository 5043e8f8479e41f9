/- FlowReverse answers true at every input, and leaves its arguments as they were. No condition. -/
import Derived.Test.YtadeidhefjifaaaRows
import Derived.Test.YtadeidhefjifaaaPx15
import Derived.Test.YtadeidhefjifaaaHFlow
import Derived.Test.YtadeidhefjifaaaHOpen
import Derived.WalkKit
import Derived.ProofKit
import Derived.OpenShut
import Derived.ShutString
import Derived.ChangeOld
import Derived.Below
import Derived.SizedLaws
namespace Go.Proofs.Ytadeidhefjifaaa.flowReverse
open Go.ChangeShapes Go.WideShapes Go.ChangeAt Go.RowKit Go.Proofs.Ytadeidhefjifaaa.Px
set_option linter.unusedVariables false
set_option linter.unusedSimpArgs false
theorem ev_mono {α : Type} {f : Nat → Option α} {r : α} {K : Nat} (h : f K = some r) (hm : ∀ k, Go.Proofs.YtadeidhefjifaaaW.PrintWords.LeO (f k) (f (k + 1))) : Ev f r := by
  refine ⟨K, fun k hk => ?_⟩
  induction k with
  | zero => have : K = 0 := by omega
            rw [← this]; exact h
  | succ k ih =>
    by_cases e : K = k + 1
    · rw [← e]; exact h
    · exact hm k r (ih (by omega))
theorem ev_max {n : Int} {l : List S61} {s t : Int} (h : Px.Good n l s t) : ∃ fl c, Ev (fun k => flow_Max.f k n l s t) (fl, c, 0) ∧ FlowM.Opt S61.f0 S61.f1 S61.f2 n l s t fl (Cof c) ∧ (c.length : Int) = n := by
  obtain ⟨fl, c, h1, h2, h3⟩ := max_good 0 n l s t h
  exact ⟨fl, c, ev_mono h1 (fun k => flow_Max.mono n l s t k), h2, h3⟩
theorem ev_max_bad {n : Int} {l : List S61} {s t : Int} (h : ¬ Px.Good n l s t) : Ev (fun k => flow_Max.f k n l s t) ([], [], 180) := Ev.step (Ev.of _) (fun k => max_bad k n l s t h)
theorem ev_value {n : Int} {l : List S61} {s t : Int} (h : Px.Good n l s t) : ∃ fl c, Ev (fun k => sizarlaw18_value.f k n l s t) (outsG l fl s, true) ∧ FlowM.Opt S61.f0 S61.f1 S61.f2 n l s t fl (Cof c) ∧ (c.length : Int) = n := by
  obtain ⟨fl, c, hm, ho, hc⟩ := ev_max h
  refine ⟨fl, c, ?_, ho, hc⟩
  unfold sizarlaw18_value.f
  refine Ev.bind hm (Ev.bind (flow_val n s t l fl) ?_)
  rw [val_pos h ho.flow]
  exact Ev.pos rfl ((Ev.of _).eq (by simp))
theorem ev_value_bad {n : Int} {l : List S61} {s t : Int} (h : ¬ Px.Good n l s t) : Ev (fun k => sizarlaw18_value.f k n l s t) (0, false) := by
  unfold sizarlaw18_value.f
  refine Ev.bind (ev_max_bad h) (Ev.bind (flow_val n s t l []) ?_)
  rw [val_neg (fun hh => h hh.1)]
  exact Ev.neg (by decide) (Ev.of _)
theorem bnd_outs : ∀ (l : List S61) (fl : List Int) (v : Int), (∀ x ∈ l, x.f2 ≤ 1073741824) → BndG l fl → -(1073741824 * (l.length : Int)) ≤ outsG l fl v ∧ outsG l fl v ≤ 1073741824 * (l.length : Int)
  | [], [], v, _, _ => by simp [outsG, FlowM.outs]
  | [], _ :: _, v, _, h => h.elim
  | _ :: _, [], v, _, h => h.elim
  | x :: l, f :: fl, v, hx, h => by
    have ih := bnd_outs l fl v (fun y hy => hx y (by simp [hy])) h.2
    have := hx x (by simp)
    have := h.1
    simp only [outsG, FlowM.outs, List.length_cons] at ih ⊢
    split <;> split <;> omega
/-- an edge in the opposite direction -/
def rv (x : S61) : S61 := ⟨x.f1, x.f0, x.f2⟩
theorem good_rv {n : Int} {l : List S61} {s t : Int} (h : Px.Good n l s t) : Px.Good n (l.map rv) t s := by
  refine ⟨h.n2, h.n4, by have := h.m; simpa using this, fun y hy => ?_, h.t0, h.t1, h.f0, h.f1, fun e => h.ne e.symm⟩
  obtain ⟨x, hx, rfl⟩ := List.mem_map.1 hy
  have := h.ends x hx
  exact ⟨this.2.1, this.1, fun e => this.2.2.1 e.symm, this.2.2.2⟩
theorem rv_rv (l : List S61) : (l.map rv).map rv = l := by rw [List.map_map]; exact List.map_id'' (fun x => rfl) l
theorem finish (n : Int) (l : List S61) (s t : Int) : Ev (fun k => (sizarlaw18_value.f k n l s t).bind fun bt495 => ((sizarlaw18_value.f k n (l.map rv) t s).bind fun bt497 => (if (bt495.2 == bt497.2) = true then (some (bt495.1 == bt497.1)) else (some false)))) true := by
  by_cases h : Px.Good n l s t
  · obtain ⟨fl, c, hv, ho, -⟩ := ev_value h
    obtain ⟨fl', c', hv', ho', -⟩ := ev_value (good_rv h)
    refine Ev.bind hv (Ev.bind hv' (Ev.pos rfl ((Ev.of _).eq (beq_iff_eq.2 ?_))))
    have g : FlowM.Opt S61.f1 S61.f0 S61.f2 n l t s fl' (Cof c') := FlowM.Opt_map rv ho'
    have e1 : outsG (l.map rv) fl' t = FlowM.outs S61.f1 S61.f0 l fl' t := FlowM.outs_map rv l fl' t
    have := FlowM.reverse ho g (by have := h.n2; omega) h.ends h.f0 h.f1 h.t0 h.t1 h.ne
    show outsG l fl s = outsG (l.map rv) fl' t
    rw [e1, this]
  · have h' : ¬ Px.Good n (l.map rv) t s := fun g => h (by have := good_rv g; rwa [rv_rv] at this)
    exact Ev.bind (ev_value_bad h) (Ev.bind (ev_value_bad h') (Ev.pos rfl (Ev.of _)))
theorem loop (n : Int) (l : List S61) (s t : Int) (hl : l.length ≤ 60) : ∀ (g : Nat) (i : Int), 0 ≤ i → i ≤ l.length → (l.length - i).toNat ≤ g →
    Ev (fun k => sizarlaw18_FlowReverse.l0 k n l s t ((l.take i.toNat).map rv) l (l.length : Int) i) true := by
  have hend : ∀ (i : Int), 0 ≤ i → ¬ i < l.length → Ev (fun k => sizarlaw18_FlowReverse.l0 k n l s t ((l.take i.toNat).map rv) l (l.length : Int) i) true := by
    intro i i0 hlt
    rw [List.take_of_length_le (by omega)]
    refine Ev.step ?_ (fun k => by rw [sizarlaw18_FlowReverse.l0])
    exact Ev.neg hlt (finish n l s t)
  intro g
  induction g with
  | zero => intro i i0 i1 hg; exact hend i i0 (by omega)
  | succ g ih =>
    intro i i0 i1 hg
    by_cases hlt : i < l.length
    · refine Ev.step ?_ (fun k => by rw [sizarlaw18_FlowReverse.l0])
      refine Ev.pos hlt (Ev.pos i0 (Ev.pos hlt (Ev.pos (by simp; omega) ?_)))
      have e : (l.take i.toNat).map rv ++ [(⟨(rd_T61 l i).f1, (rd_T61 l i).f0, (rd_T61 l i).f2⟩ : S61)] = (l.take (i + 1).toNat).map rv := by
        have hgi : rd_T61 l i = l[i.toNat]'(by omega) := by simp [rd_T61, List.getD, show i.toNat < l.length by omega]
        rw [show (i + 1).toNat = i.toNat + 1 by omega, List.take_succ_eq_append_getElem (show i.toNat < l.length by omega), List.map_append, ← hgi]; rfl
      rw [wrap_id (i + 1) (by omega) (by omega), e]
      exact ih (i + 1) (by omega) (by omega) (by omega)
    · exact hend i i0 hlt
theorem law (n : Int) (l : List S61) (s t : Int) : ∃ k, sizarlaw18_FlowReverse.f k n l s t = some true := by
  refine Ev.at ?_
  unfold sizarlaw18_FlowReverse.f
  refine Ev.bind (Ev.of true) (Ev.pos rfl ?_)
  have hF : ∃ b, sizarref18_Few.f n l = some b ∧ (b = true → l.length ≤ 60) := by
    unfold sizarref18_Few.f; split
    · exact ⟨_, rfl, fun h => by have := of_decide_eq_true h; omega⟩
    · exact ⟨_, rfl, fun h => by cases h⟩
  obtain ⟨b, hF, hlen⟩ := hF
  refine Ev.bind ((Ev.of b).congr fun _ => hF) ?_
  cases b with
  | false => exact Ev.neg (by decide) (Ev.of _)
  | true =>
    have := loop n l s t (hlen rfl) _ 0 (by omega) (by omega) (Nat.le_refl _)
    exact Ev.pos rfl this
theorem own : ownKnob Try.prog.godebug = none := by kernel_rfl
theorem laidOut : laidOutB Try.prog = true := by kernel_rfl
set_option maxRecDepth 100000 in
theorem lifted (os : Os) (started : os.Started) (H : Type) (enc : TypeId × Value → H) :
    ReturnsInHanded {} Try.checked os 11 .any (Rows.flowReverseSpec.pre6 enc Try.prog Try.f11 Rows.flowReverseRow.domain false) (Rows.flowReverseSpec.post enc Try.prog Try.f11 false true false false) := by
  refine returnsInHanded_of_change_sized (C := Try.checked) own started (by kernel_rfl) Try.func11
    (ChangeSpec.witness6 (enc := enc) (C := Try.checked) false ⟨#[], #[.int .i64 0, .slice none 0 0, .int .i64 0, .int .i64 0], []⟩ 8 (by kernel_rfl) (by kernel_rfl) (by kernel_rfl) (by kernel_rfl)) ?_
  intro W base args ds gs before hval0 hW hcnd hsz0 _
  have hval : ∀ (j : Nat) t v, Try.f11.params[j]? = some t → args[j]? = some v → Value.okWide Try.prog W .any base t v := hval0
  have hW' := hW
  obtain ⟨p, q, hA0, hV, rfl, hfz, hnd⟩ := hW
  have hA : DataW.TrodAll enc Try.prog W 0 (fun _ => true) true Try.f11.params.toList args.toList ds p := hA0
  rw [Try.params11] at hA hval
  obtain ⟨v0, vs0, d0, ds0, p0, q0, hargs, rfl, rfl, h0, r0⟩ := trodAll_cons hA
  obtain ⟨v1, vs1, d1, ds1, p1, q1, rfl, rfl, rfl, h1, r1⟩ := trodAll_cons r0
  obtain ⟨v2, vs2, d2, ds2, p2, q2, rfl, rfl, rfl, h2, r2⟩ := trodAll_cons r1
  obtain ⟨v3, vs3, d3, ds3, p3, q3, rfl, rfl, rfl, h3, r3⟩ := trodAll_cons r2
  obtain ⟨rfl, rfl, rfl⟩ := trodAll_nil r3
  obtain rfl : args = #[v0, v1, v2, v3] := by cases args; simp_all
  obtain ⟨rfl, rfl⟩ := trodVars_none hV
  obtain ⟨a0, rfl, rfl, rfl, w0⟩ := open_int Try.underlying3 (hval 0 3 v0 rfl rfl) h0
  obtain ⟨a1, len1, cap1, rfl⟩ := okWide_slice Try.underlying22 (hval 1 22 v1 rfl rfl)
  have k1 := h1
  have lt1 : ∀ x ∈ p1, x.block < W.heap.size := by obtain ⟨m, hm⟩ := k1; exact DataW.trod_lt m _ _ _ hm
  obtain ⟨fuel1, hf1⟩ := h1
  have hf1 : DataW.trod enc Try.prog W 0 (fun _ => true) true fuel1 22 [.slice a1 len1 cap1] = some (d1, p1) := hf1
  have le1 := (len_le Try.underlying22 hf1).1
  obtain ⟨l1, e1, C1⟩ := open_edges hf1
  subst e1
  obtain ⟨a2, rfl, rfl, rfl, w2⟩ := open_int Try.underlying3 (hval 2 3 v2 rfl rfl) h2
  obtain ⟨a3, rfl, rfl, rfl, w3⟩ := open_int Try.underlying3 (hval 3 3 v3 rfl rfl) h3
  clear hA0 hval0 hsz0
  obtain ⟨k, hk⟩ := law a0 l1 a2 a3
  refine (sizarlaw18_FlowReverse.calls k a0 a1 cap1 l1 a2 a3 true W C1 le1 hk).mono fun e W' ⟨he, bel⟩ => ?_
  subst he
  exact ⟨_, rfl, _, _, _, [], _, [], hW', trodAll_mk1 (shut_bool Try.underlying4 _), (trodAll_cons_mk (shut_int Try.underlying3 w0) (trodAll_cons_mk (Below.trod laidOut (by kernel_rfl) (of_decide_eq_true (by kernel_rfl)) k1 bel lt1) (trodAll_cons_mk (shut_int Try.underlying3 w2) (trodAll_cons_mk (shut_int Try.underlying3 w3) trodAll_mk0)))), rfl, bel.frame _, fun h => by cases h⟩
theorem over : Rows.flowReverseRow.holds Try.pinned (OpenSpec.ofChange Rows.flowReverseSpec) :=
  OpenClaim.holds_of_wide 11 Try.f11 rfl rfl rfl rfl rfl rfl rfl ⟨rfl, rfl, rfl, rfl, rfl⟩ rfl rfl rfl rfl rfl (by kernel_rfl) Try.func11 (by kernel_rfl)
    (of_decide_eq_true (by kernel_rfl)) (by unfold Func.isWrapper; first | (rw [if_pos (by decide +kernel)]; kernel_rfl) | (rw [if_neg (by decide +kernel)]; exact ⟨rfl, rfl⟩))
    (fun os started H enc _ => lifted os started H enc)
theorem proved : Rows.FlowReverseSaid := over
end Go.Proofs.Ytadeidhefjifaaa.flowReverse
namespace Go.Proofs.Ytadeidhefjifaaa
/-- The row, under a short name, for the claim. -/
theorem flowReverse_holds : Rows.FlowReverseSaid := flowReverse.proved
#print axioms flowReverse_holds
end Go.Proofs.Ytadeidhefjifaaa

