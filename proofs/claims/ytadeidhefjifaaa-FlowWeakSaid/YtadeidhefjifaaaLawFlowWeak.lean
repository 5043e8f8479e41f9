/- FlowWeak answers true at every input, and leaves its arguments as they were. No condition. -/
import Derived.Test.YtadeidhefjifaaaRows
import Derived.Test.YtadeidhefjifaaaHFlow
import Derived.Test.YtadeidhefjifaaaPx9b
import Derived.Test.YtadeidhefjifaaaHOpen
import Derived.WalkKit
import Derived.ProofKit
import Derived.OpenShut
import Derived.ShutString
import Derived.ChangeOld
import Derived.Below
import Derived.SizedLaws
namespace Go.Proofs.Ytadeidhefjifaaa.flowWeak
open Go.ChangeShapes Go.WideShapes Go.ChangeAt Go.RowKit Go.Proofs.Ytadeidhefjifaaa.Px
set_option linter.unusedVariables false
set_option linter.unusedSimpArgs false
theorem law (n : Int) (l : List S61) (s t : Int) (fl : List Int) (c : List Bool) : ∃ k, sizarlaw18_FlowWeak.f k n l s t fl c = some true := by
  refine Ev.at ?_
  unfold sizarlaw18_FlowWeak.f
  refine Ev.bind (Ev.of true) (Ev.pos rfl ?_)
  have hj : ∀ b, Ev (fun k => sizarlaw18_FlowWeak.j0 k n l s t fl c b) true := by
    intro b
    refine Ev.step ?_ (fun k => by rw [sizarlaw18_FlowWeak.j0])
    cases b with
    | true => exact Ev.pos rfl (Ev.of _)
    | false =>
      refine Ev.neg (by decide) (Ev.bind (flow_val n s t l fl) (Ev.bind (flow_cap n s t l c) ?_))
      by_cases h : Px.Good n l s t ∧ FlowM.Flow S61.f0 S61.f1 S61.f2 n l s t fl
      · rw [val_pos h.1 h.2]
        refine Ev.pos rfl ?_
        by_cases hc : Px.Good n l s t ∧ (c.length : Int) = n ∧ Cof c s = true ∧ Cof c t = false
        · rw [cap_pos hc.1 hc.2.1 hc.2.2.1 hc.2.2.2]
          refine Ev.pos rfl ((Ev.of _).eq (decide_eq_true ?_))
          exact FlowM.weak (by have := h.1.n2; omega) h.1.ends h.2 h.1.f0 h.1.f1 (Cof c) hc.2.2.1 hc.2.2.2
        · rw [cap_neg hc]
          exact Ev.neg (by decide) (Ev.of _)
      · rw [val_neg h]
        exact Ev.neg (by decide) (Ev.of _)
  have hF : ∃ b, sizarref18_Few.f n l = some b := by unfold sizarref18_Few.f; split <;> exact ⟨_, rfl⟩
  obtain ⟨b, hF⟩ := hF
  refine Ev.bind ((Ev.of b).congr fun _ => hF) ?_
  cases b with
  | false => exact Ev.neg (by decide) (hj true)
  | true =>
    refine Ev.pos rfl ?_
    by_cases h : (fl.length : Int) > 80
    · exact Ev.pos h (hj true)
    · exact Ev.neg h (hj _)
theorem own : ownKnob Try.prog.godebug = none := by kernel_rfl
theorem laidOut : laidOutB Try.prog = true := by kernel_rfl
set_option maxRecDepth 100000 in
theorem lifted (os : Os) (started : os.Started) (H : Type) (enc : TypeId × Value → H) :
    ReturnsInHanded {} Try.checked os 6 .any (Rows.flowWeakSpec.pre6 enc Try.prog Try.f6 Rows.flowWeakRow.domain false) (Rows.flowWeakSpec.post enc Try.prog Try.f6 false true false false) := by
  refine returnsInHanded_of_change_sized (C := Try.checked) own started (by kernel_rfl) Try.func6
    (ChangeSpec.witness6 (enc := enc) (C := Try.checked) false ⟨#[], #[.int .i64 0, .slice none 0 0, .int .i64 0, .int .i64 0, .slice none 0 0, .slice none 0 0], []⟩ 8 (by kernel_rfl) (by kernel_rfl) (by kernel_rfl) (by kernel_rfl)) ?_
  intro W base args ds gs before hval0 hW hcnd hsz0 _
  have hval : ∀ (j : Nat) t v, Try.f6.params[j]? = some t → args[j]? = some v → Value.okWide Try.prog W .any base t v := hval0
  have hW' := hW
  obtain ⟨p, q, hA0, hV, rfl, hfz, hnd⟩ := hW
  have hA : DataW.TrodAll enc Try.prog W 0 (fun _ => true) true Try.f6.params.toList args.toList ds p := hA0
  rw [Try.params6] at hA hval
  obtain ⟨v0, vs0, d0, ds0, p0, q0, hargs, rfl, rfl, h0, r0⟩ := trodAll_cons hA
  obtain ⟨v1, vs1, d1, ds1, p1, q1, rfl, rfl, rfl, h1, r1⟩ := trodAll_cons r0
  obtain ⟨v2, vs2, d2, ds2, p2, q2, rfl, rfl, rfl, h2, r2⟩ := trodAll_cons r1
  obtain ⟨v3, vs3, d3, ds3, p3, q3, rfl, rfl, rfl, h3, r3⟩ := trodAll_cons r2
  obtain ⟨v4, vs4, d4, ds4, p4, q4, rfl, rfl, rfl, h4, r4⟩ := trodAll_cons r3
  obtain ⟨v5, vs5, d5, ds5, p5, q5, rfl, rfl, rfl, h5, r5⟩ := trodAll_cons r4
  obtain ⟨rfl, rfl, rfl⟩ := trodAll_nil r5
  obtain rfl : args = #[v0, v1, v2, v3, v4, v5] := by cases args; simp_all
  obtain ⟨rfl, rfl⟩ := trodVars_none hV
  obtain ⟨a0, rfl, rfl, rfl, w0⟩ := open_int Try.underlying3 (hval 0 3 v0 rfl rfl) h0
  obtain ⟨a1, len1, cap1, rfl⟩ := okWide_slice Try.underlying22 (hval 1 22 v1 rfl rfl)
  have k1 := h1
  have lt1 : ∀ x ∈ p1, x.block < W.heap.size := by obtain ⟨m, hm⟩ := k1; exact DataW.trod_lt m _ _ _ hm
  obtain ⟨fuel1, hf1⟩ := h1
  have hf1 : DataW.trod enc Try.prog W 0 (fun _ => true) true fuel1 22 [.slice a1 len1 cap1] = some (d1, p1) := hf1
  have le1 := (len_le Try.underlying22 hf1).1
  obtain ⟨l1, e1, C1⟩ := open_edges hf1
  subst e1
  obtain ⟨a2, rfl, rfl, rfl, w2⟩ := open_int Try.underlying3 (hval 2 3 v2 rfl rfl) h2
  obtain ⟨a3, rfl, rfl, rfl, w3⟩ := open_int Try.underlying3 (hval 3 3 v3 rfl rfl) h3
  obtain ⟨a4, len4, cap4, rfl⟩ := okWide_slice Try.underlying23 (hval 4 23 v4 rfl rfl)
  have k4 := h4
  have lt4 : ∀ x ∈ p4, x.block < W.heap.size := by obtain ⟨m, hm⟩ := k4; exact DataW.trod_lt m _ _ _ hm
  obtain ⟨fuel4, hf4⟩ := h4
  have hf4 : DataW.trod enc Try.prog W 0 (fun _ => true) true fuel4 23 [.slice a4 len4 cap4] = some (d4, p4) := hf4
  have le4 := (len_le Try.underlying23 hf4).1
  obtain ⟨l4, e4, C4⟩ := open_nums hf4
  subst e4
  obtain ⟨a5, len5, cap5, rfl⟩ := okWide_slice Try.underlying24 (hval 5 24 v5 rfl rfl)
  have k5 := h5
  have lt5 : ∀ x ∈ p5, x.block < W.heap.size := by obtain ⟨m, hm⟩ := k5; exact DataW.trod_lt m _ _ _ hm
  obtain ⟨fuel5, hf5⟩ := h5
  have hf5 : DataW.trod enc Try.prog W 0 (fun _ => true) true fuel5 24 [.slice a5 len5 cap5] = some (d5, p5) := hf5
  have le5 := (len_le Try.underlying24 hf5).1
  obtain ⟨l5, e5, C5⟩ := open_flags hf5
  subst e5
  clear hA0 hval0 hsz0
  obtain ⟨k, hk⟩ := law a0 l1 a2 a3 l4 l5
  refine (sizarlaw18_FlowWeak.calls k a0 a1 cap1 l1 a2 a3 a4 cap4 l4 a5 cap5 l5 true W C1 le1 C4 le4 C5 le5 hk).mono fun e W' ⟨he, bel⟩ => ?_
  subst he
  exact ⟨_, rfl, _, _, _, [], _, [], hW', trodAll_mk1 (shut_bool Try.underlying4 _), (trodAll_cons_mk (shut_int Try.underlying3 w0) (trodAll_cons_mk (Below.trod laidOut (by kernel_rfl) (of_decide_eq_true (by kernel_rfl)) k1 bel lt1) (trodAll_cons_mk (shut_int Try.underlying3 w2) (trodAll_cons_mk (shut_int Try.underlying3 w3) (trodAll_cons_mk (Below.trod laidOut (by kernel_rfl) (of_decide_eq_true (by kernel_rfl)) k4 bel lt4) (trodAll_cons_mk (Below.trod laidOut (by kernel_rfl) (of_decide_eq_true (by kernel_rfl)) k5 bel lt5) trodAll_mk0)))))), rfl, bel.frame _, fun h => by cases h⟩
theorem over : Rows.flowWeakRow.holds Try.pinned (OpenSpec.ofChange Rows.flowWeakSpec) :=
  OpenClaim.holds_of_wide 6 Try.f6 rfl rfl rfl rfl rfl rfl rfl ⟨rfl, rfl, rfl, rfl, rfl⟩ rfl rfl rfl rfl rfl (by kernel_rfl) Try.func6 (by kernel_rfl)
    (of_decide_eq_true (by kernel_rfl)) (by unfold Func.isWrapper; first | (rw [if_pos (by decide +kernel)]; kernel_rfl) | (rw [if_neg (by decide +kernel)]; exact ⟨rfl, rfl⟩))
    (fun os started H enc _ => lifted os started H enc)
theorem proved : Rows.FlowWeakSaid := over
end Go.Proofs.Ytadeidhefjifaaa.flowWeak
namespace Go.Proofs.Ytadeidhefjifaaa
/-- The row, under a short name, for the claim. -/
theorem flowWeak_holds : Rows.FlowWeakSaid := flowWeak.proved
#print axioms flowWeak_holds
end Go.Proofs.Ytadeidhefjifaaa

