/- FlowMaxSpec answers true at every input, and leaves its arguments as they were. No condition. -/
import Derived.Test.YtadeidhefjifaaaZFlowMaxSpec7
import Derived.Test.YtadeidhefjifaaaRows
import Derived.WalkKit
import Derived.ProofKit
import Derived.OpenShut
import Derived.ShutString
import Derived.ChangeOld
import Derived.Below
import Derived.SizedLaws
namespace Go.Proofs.Ytadeidhefjifaaa.flowMaxSpec
open Go.ChangeShapes Go.WideShapes Go.ChangeAt Go.RowKit Go.Proofs.Ytadeidhefjifaaa.Px
set_option linter.unusedVariables false
set_option linter.unusedSimpArgs false
theorem ev_mono {α : Type} {f : Nat → Option α} {r : α} {K : Nat} (h : f K = some r) (hm : ∀ k, Go.Proofs.YtadeidhefjifaaaW.PrintWords.LeO (f k) (f (k + 1))) : Ev f r := by
  refine ⟨K, fun k hk => ?_⟩
  induction k with
  | zero => have : K = 0 := by omega
            rw [← this]; exact h
  | succ k ih =>
    by_cases e : K = k + 1
    · rw [← e]; exact h
    · exact hm k r (ih (by omega))
theorem ev_max {n : Int} {l : List S61} {s t : Int} (h : Px.Good n l s t) : ∃ fl c, Ev (fun k => flow_Max.f k n l s t) (fl, c, 0) ∧ FlowM.Opt S61.f0 S61.f1 S61.f2 n l s t fl (Cof c) ∧ (c.length : Int) = n := by
  obtain ⟨fl, c, h1, h2, h3⟩ := max_good 0 n l s t h
  exact ⟨fl, c, ev_mono h1 (fun k => flow_Max.mono n l s t k), h2, h3⟩
theorem ev_max_bad {n : Int} {l : List S61} {s t : Int} (h : ¬ Px.Good n l s t) : Ev (fun k => flow_Max.f k n l s t) ([], [], 180) := Ev.step (Ev.of _) (fun k => max_bad k n l s t h)
theorem same_l0 (a b : List Bool) (hl : a.length = b.length) (hn : a.length ≤ 4096) (he : ∀ v : Int, 0 ≤ v → v < a.length → Cof a v = Cof b v) : ∀ (g : Nat) (i : Int), 0 ≤ i → (a.length - i).toNat ≤ g → Ev (fun k => sizarref18_SameCut.l0 k a b i) true := by
  intro g
  induction g with
  | zero =>
    intro i i0 hg
    refine Ev.step ?_ (fun k => by rw [sizarref18_SameCut.l0])
    exact Ev.neg (by omega) (Ev.of _)
  | succ g ih =>
    intro i i0 hg
    refine Ev.step ?_ (fun k => by rw [sizarref18_SameCut.l0])
    by_cases hlt : i < (a.length : Int)
    · refine Ev.pos hlt (Ev.pos i0 (Ev.pos (by omega) (Ev.neg ?_ ?_)))
      · rw [cof_rd, cof_rd, he i i0 hlt]; simp
      · rw [wrap_id (i + 1) (by omega) (by omega)]; exact ih (i + 1) (by omega) (by omega)
    · exact Ev.neg hlt (Ev.of _)
theorem ev_same (a b : List Bool) (hl : a.length = b.length) (hn : a.length ≤ 4096) (he : ∀ v : Int, 0 ≤ v → v < a.length → Cof a v = Cof b v) : Ev (fun k => sizarref18_SameCut.f k a b) true := by
  unfold sizarref18_SameCut.f
  exact Ev.pos (by omega) (same_l0 a b hl hn he _ 0 (by omega) (Nat.le_refl _))
theorem law (n : Int) (l : List S61) (s t : Int) : ∃ k, sizarlaw18_FlowMaxSpec.f k n l s t = some true := by
  refine Ev.at ?_
  unfold sizarlaw18_FlowMaxSpec.f
  refine Ev.bind (Ev.of true) (Ev.pos rfl ?_)
  have hF : ∃ b, sizarref18_Few.f n l = some b := by unfold sizarref18_Few.f; split <;> exact ⟨_, rfl⟩
  obtain ⟨b, hF⟩ := hF
  refine Ev.bind ((Ev.of b).congr fun _ => hF) ?_
  cases b with
  | false => exact Ev.neg (by decide) (Ev.of _)
  | true =>
    refine Ev.pos rfl ?_
    by_cases h : Px.Good n l s t
    · obtain ⟨fl, c, hm, ho, hc⟩ := ev_max h
      obtain ⟨fl', c', hm', ho', hc'⟩ := ref_max h
      obtain ⟨u1, u2⟩ := FlowM.Opt.unique ho ho' (by have := h.n2; omega) h.ends h.f0 h.f1
      have l1 := ho.flow.bnd.length
      have l2 := ho'.flow.bnd.length
      refine Ev.bind hm (Ev.bind hm' (Ev.pos rfl (Ev.bind (ev_same c c' (by omega) (by have := h.n4; omega) (fun v v0 v1 => u2 v v0 (by omega))) (Ev.pos rfl ?_))))
      refine Ev.step ?_ (fun k => by rw [sizarlaw18_FlowMaxSpec.j0])
      refine Ev.neg (by simp; omega) ?_
      refine Ev.bind (ref_val n s t l fl) (Ev.bind (ref_val n s t l fl') ?_)
      rw [val_pos h ho.flow, val_pos h ho'.flow]
      exact Ev.pos rfl ((Ev.of _).eq (beq_iff_eq.2 u1))
    · refine Ev.bind (ev_max_bad h) (Ev.bind (ref_max_bad h) (Ev.pos rfl (Ev.bind (ev_same [] [] rfl (by simp) (fun v v0 v1 => rfl)) (Ev.pos rfl ?_))))
      refine Ev.step ?_ (fun k => by rw [sizarlaw18_FlowMaxSpec.j0])
      refine Ev.neg (by simp) ?_
      exact Ev.bind (ref_val n s t l []) (Ev.bind (ref_val n s t l []) (Ev.pos rfl ((Ev.of _).eq (beq_iff_eq.2 rfl))))
theorem own : ownKnob Try.prog.godebug = none := by kernel_rfl
theorem laidOut : laidOutB Try.prog = true := by kernel_rfl
set_option maxRecDepth 100000 in
theorem lifted (os : Os) (started : os.Started) (H : Type) (enc : TypeId × Value → H) :
    ReturnsInHanded {} Try.checked os 4 .any (Rows.flowMaxSpecSpec.pre6 enc Try.prog Try.f4 Rows.flowMaxSpecRow.domain false) (Rows.flowMaxSpecSpec.post enc Try.prog Try.f4 false true false false) := by
  refine returnsInHanded_of_change_sized (C := Try.checked) own started (by kernel_rfl) Try.func4
    (ChangeSpec.witness6 (enc := enc) (C := Try.checked) false ⟨#[], #[.int .i64 0, .slice none 0 0, .int .i64 0, .int .i64 0], []⟩ 8 (by kernel_rfl) (by kernel_rfl) (by kernel_rfl) (by kernel_rfl)) ?_
  intro W base args ds gs before hval0 hW hcnd hsz0 _
  have hval : ∀ (j : Nat) t v, Try.f4.params[j]? = some t → args[j]? = some v → Value.okWide Try.prog W .any base t v := hval0
  have hW' := hW
  obtain ⟨p, q, hA0, hV, rfl, hfz, hnd⟩ := hW
  have hA : DataW.TrodAll enc Try.prog W 0 (fun _ => true) true Try.f4.params.toList args.toList ds p := hA0
  rw [Try.params4] at hA hval
  obtain ⟨v0, vs0, d0, ds0, p0, q0, hargs, rfl, rfl, h0, r0⟩ := trodAll_cons hA
  obtain ⟨v1, vs1, d1, ds1, p1, q1, rfl, rfl, rfl, h1, r1⟩ := trodAll_cons r0
  obtain ⟨v2, vs2, d2, ds2, p2, q2, rfl, rfl, rfl, h2, r2⟩ := trodAll_cons r1
  obtain ⟨v3, vs3, d3, ds3, p3, q3, rfl, rfl, rfl, h3, r3⟩ := trodAll_cons r2
  obtain ⟨rfl, rfl, rfl⟩ := trodAll_nil r3
  obtain rfl : args = #[v0, v1, v2, v3] := by cases args; simp_all
  obtain ⟨rfl, rfl⟩ := trodVars_none hV
  obtain ⟨a0, rfl, rfl, rfl, w0⟩ := open_int Try.underlying3 (hval 0 3 v0 rfl rfl) h0
  obtain ⟨a1, len1, cap1, rfl⟩ := okWide_slice Try.underlying22 (hval 1 22 v1 rfl rfl)
  have k1 := h1
  have lt1 : ∀ x ∈ p1, x.block < W.heap.size := by obtain ⟨m, hm⟩ := k1; exact DataW.trod_lt m _ _ _ hm
  obtain ⟨fuel1, hf1⟩ := h1
  have hf1 : DataW.trod enc Try.prog W 0 (fun _ => true) true fuel1 22 [.slice a1 len1 cap1] = some (d1, p1) := hf1
  have le1 := (len_le Try.underlying22 hf1).1
  obtain ⟨l1, e1, C1⟩ := open_edges hf1
  subst e1
  obtain ⟨a2, rfl, rfl, rfl, w2⟩ := open_int Try.underlying3 (hval 2 3 v2 rfl rfl) h2
  obtain ⟨a3, rfl, rfl, rfl, w3⟩ := open_int Try.underlying3 (hval 3 3 v3 rfl rfl) h3
  clear hA0 hval0 hsz0
  obtain ⟨k, hk⟩ := law a0 l1 a2 a3
  refine (sizarlaw18_FlowMaxSpec.calls k a0 a1 cap1 l1 a2 a3 true W C1 le1 hk).mono fun e W' ⟨he, bel⟩ => ?_
  subst he
  exact ⟨_, rfl, _, _, _, [], _, [], hW', trodAll_mk1 (shut_bool Try.underlying4 _), (trodAll_cons_mk (shut_int Try.underlying3 w0) (trodAll_cons_mk (Below.trod laidOut (by kernel_rfl) (of_decide_eq_true (by kernel_rfl)) k1 bel lt1) (trodAll_cons_mk (shut_int Try.underlying3 w2) (trodAll_cons_mk (shut_int Try.underlying3 w3) trodAll_mk0)))), rfl, bel.frame _, fun h => by cases h⟩
theorem over : Rows.flowMaxSpecRow.holds Try.pinned (OpenSpec.ofChange Rows.flowMaxSpecSpec) :=
  OpenClaim.holds_of_wide 4 Try.f4 rfl rfl rfl rfl rfl rfl rfl ⟨rfl, rfl, rfl, rfl, rfl⟩ rfl rfl rfl rfl rfl (by kernel_rfl) Try.func4 (by kernel_rfl)
    (of_decide_eq_true (by kernel_rfl)) (by unfold Func.isWrapper; first | (rw [if_pos (by decide +kernel)]; kernel_rfl) | (rw [if_neg (by decide +kernel)]; exact ⟨rfl, rfl⟩))
    (fun os started H enc _ => lifted os started H enc)
theorem proved : Rows.FlowMaxSpecSaid := over
end Go.Proofs.Ytadeidhefjifaaa.flowMaxSpec
namespace Go.Proofs.Ytadeidhefjifaaa
/-- The row, under a short name, for the claim. -/
theorem flowMaxSpec_holds : Rows.FlowMaxSpecSaid := flowMaxSpec.proved
#print axioms flowMaxSpec_holds
end Go.Proofs.Ytadeidhefjifaaa
