/- ProofUnique answers true at every input, and leaves its arguments as they were. No condition. -/
import Derived.Test.YtadeidhefjifaaaZProofUnique0
import Derived.Test.YtadeidhefjifaaaRows
import Derived.WalkKit
import Derived.ProofKit
import Derived.OpenShut
import Derived.ShutString
import Derived.ChangeOld
import Derived.Below
import Derived.SizedLaws
namespace Go.Proofs.Ytadeidhefjifaaa.proofUnique
open Go.ChangeShapes Go.WideShapes Go.ChangeAt Go.RowKit Go.Proofs.Ytadeidhefjifaaa.Px
set_option linter.unusedVariables false
set_option linter.unusedSimpArgs false
open Go.Proofs.Ytadeidhefjifaaa.Px.L20
theorem law (s : ByteArray) (n u e mn md : Int) (q : List S92) (l : List S44) (us : List S57) (m : Int) (c : List Bool) : ∃ k, sizarlaw20_ProofUnique.f k s n u e mn md q l us m c = some true := by
  refine Ev.at ?_
  unfold sizarlaw20_ProofUnique.f
  refine Ev.bind ev_sane (Ev.pos rfl ?_)
  obtain ⟨b, hF, hb⟩ := ev_few s n u e mn md q l
  refine Ev.bind hF ?_
  have hj : ∀ t : Bool, (t = false → us.length ≤ 60 ∧ l.length ≤ 100) → Ev (fun k => sizarlaw20_ProofUnique.j0 k l t s n u e mn md q us m c) true := by
    intro t ht
    refine Ev.step ?_ (fun k => by rw [sizarlaw20_ProofUnique.j0])
    cases t with
    | true => exact Ev.pos rfl (Ev.of _)
    | false =>
      obtain ⟨h1, hl⟩ := ht rfl
      refine Ev.neg (by decide) (Ev.bind (ev_aud s n u e mn md q l hl) (Ev.bind (ev_chk s n u e mn md q l us m c (by omega)) ?_))
      by_cases hc : chkP n u e mn md q l us m c = 0
      · have ha := (al_zero (chk_zero hc).1).1
        obtain ⟨us', m', c', er, h⟩ : ∃ us m c er, audV n u e mn md q l = (us, m, c, er) := ⟨_, _, _, _, rfl⟩
        have h0 := (aud_ok ha hl h).1
        rw [h]
        have hs := chk_same hl hc (show chkP n u e mn md q l us' m' c' = 0 by rw [aud_chk ha hl h, if_pos rfl])
        exact Ev.pos hc (Ev.pos h0 ((Ev.of _).eq (by simpa using hs)))
      · exact Ev.neg hc (Ev.of _)
  cases b with
  | false => exact Ev.neg (by decide) (hj true (fun h => by cases h))
  | true =>
    refine Ev.pos rfl (hj _ fun h => ⟨?_, by have := (hb rfl).2; omega⟩)
    have := of_decide_eq_false h
    omega
theorem own : ownKnob Try.prog.godebug = none := by kernel_rfl
theorem laidOut : laidOutB Try.prog = true := by kernel_rfl
set_option maxRecDepth 100000 in
theorem lifted (os : Os) (started : os.Started) (H : Type) (enc : TypeId × Value → H) :
    ReturnsInHanded {} Try.checked os 18 .any (Rows.proofUniqueSpec.pre6 enc Try.prog Try.f18 Rows.proofUniqueRow.domain false) (Rows.proofUniqueSpec.post enc Try.prog Try.f18 false true false false) := by
  refine returnsInHanded_of_change_sized (C := Try.checked) own started (by kernel_rfl) Try.func18
    (ChangeSpec.witness6 (enc := enc) (C := Try.checked) false ⟨#[], #[.agg #[.string ⟨#[]⟩, .int .i64 0, .int .i64 0, .int .i64 0, .int .i64 0, .int .i64 0, .slice none 0 0], .slice none 0 0, .agg #[.slice none 0 0, .int .i64 0, .slice none 0 0]], []⟩ 8 (by kernel_rfl) (by kernel_rfl) (by kernel_rfl) (by kernel_rfl)) ?_
  intro W base args ds gs before hval0 hW hcnd hsz0 _
  have hval : ∀ (j : Nat) t v, Try.f18.params[j]? = some t → args[j]? = some v → Value.okWide Try.prog W .any base t v := hval0
  have hW' := hW
  obtain ⟨p, q, hA0, hV, rfl, hfz, hnd⟩ := hW
  have hA : DataW.TrodAll enc Try.prog W 0 (fun _ => true) true Try.f18.params.toList args.toList ds p := hA0
  rw [Try.params18] at hA hval
  obtain ⟨v0, vs0, d0, ds0, p0, q0, hargs, rfl, rfl, h0, r0⟩ := trodAll_cons hA
  obtain ⟨v1, vs1, d1, ds1, p1, q1, rfl, rfl, rfl, h1, r1⟩ := trodAll_cons r0
  obtain ⟨v2, vs2, d2, ds2, p2, q2, rfl, rfl, rfl, h2, r2⟩ := trodAll_cons r1
  obtain ⟨rfl, rfl, rfl⟩ := trodAll_nil r2
  obtain rfl : args = #[v0, v1, v2] := by cases args; simp_all
  obtain ⟨rfl, rfl⟩ := trodVars_none hV
  have k0 := h0
  have lt0 : ∀ x ∈ p0, x.block < W.heap.size := by obtain ⟨m, hm⟩ := k0; exact DataW.trod_lt m _ _ _ hm
  obtain ⟨a0_0, a0_1, a0_2, a0_3, a0_4, a0_5, A0_6, c0_6, l0_6, rfl, le0, C0⟩ := open_prog (hval 0 41 v0 rfl rfl) h0
  obtain ⟨a1, len1, cap1, rfl⟩ := okWide_slice Try.underlying42 (hval 1 42 v1 rfl rfl)
  have k1 := h1
  have lt1 : ∀ x ∈ p1, x.block < W.heap.size := by obtain ⟨m, hm⟩ := k1; exact DataW.trod_lt m _ _ _ hm
  obtain ⟨fuel1, hf1⟩ := h1
  have hf1 : DataW.trod enc Try.prog W 0 (fun _ => true) true fuel1 42 [.slice a1 len1 cap1] = some (d1, p1) := hf1
  obtain ⟨le1, l1, e1, C1⟩ := opens_row Try.underlying42 opens_att hf1
  subst e1
  have k2 := h2
  have lt2 : ∀ x ∈ p2, x.block < W.heap.size := by obtain ⟨m, hm⟩ := k2; exact DataW.trod_lt m _ _ _ hm
  obtain ⟨A2_0, c2_0, l2_0, a2_1, A2_2, c2_2, l2_2, rfl, le2, C2, lf2, D2⟩ := open_audit (hval 2 48 v2 rfl rfl) h2
  clear hA0 hval0 hsz0
  obtain ⟨k, hk⟩ := law a0_0 a0_1 a0_2 a0_3 a0_4 a0_5 l0_6 l1 l2_0 a2_1 l2_2
  refine (sizarlaw20_ProofUnique.calls k a0_0 a0_1 a0_2 a0_3 a0_4 a0_5 A0_6 c0_6 l0_6 a1 cap1 l1 A2_0 c2_0 l2_0 a2_1 A2_2 c2_2 l2_2 true W C0 le0 C1 le1 C2 le2 D2 lf2 hk).mono fun e W' ⟨he, bel⟩ => ?_
  subst he
  exact ⟨_, rfl, _, _, _, [], _, [], hW', trodAll_mk1 (shut_bool Try.underlying4 _), (trodAll_cons_mk (Below.trod laidOut (by kernel_rfl) (of_decide_eq_true (by kernel_rfl)) k0 bel lt0) (trodAll_cons_mk (Below.trod laidOut (by kernel_rfl) (of_decide_eq_true (by kernel_rfl)) k1 bel lt1) (trodAll_cons_mk (Below.trod laidOut (by kernel_rfl) (of_decide_eq_true (by kernel_rfl)) k2 bel lt2) trodAll_mk0))), rfl, bel.frame _, fun h => by cases h⟩
theorem over : Rows.proofUniqueRow.holds Try.pinned (OpenSpec.ofChange Rows.proofUniqueSpec) :=
  OpenClaim.holds_of_wide 18 Try.f18 rfl rfl rfl rfl rfl rfl rfl ⟨rfl, rfl, rfl, rfl, rfl⟩ rfl rfl rfl rfl rfl (by kernel_rfl) Try.func18 (by kernel_rfl)
    (of_decide_eq_true (by kernel_rfl)) (by unfold Func.isWrapper; first | (rw [if_pos (by decide +kernel)]; kernel_rfl) | (rw [if_neg (by decide +kernel)]; exact ⟨rfl, rfl⟩))
    (fun os started H enc _ => lifted os started H enc)
theorem proved : Rows.ProofUniqueSaid := over
end Go.Proofs.Ytadeidhefjifaaa.proofUnique
namespace Go.Proofs.Ytadeidhefjifaaa
/-- The row, under a short name, for the claim. -/
theorem proofUnique_holds : Rows.ProofUniqueSaid := proofUnique.proved
#print axioms proofUnique_holds
end Go.Proofs.Ytadeidhefjifaaa
