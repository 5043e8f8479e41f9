/- ProofDual answers true at every input, and leaves its arguments as they were. No condition. -/
import Derived.Test.YtadeidhefjifaaaZProofDual5
import Derived.Test.YtadeidhefjifaaaRows
import Derived.WalkKit
import Derived.ProofKit
import Derived.OpenShut
import Derived.ShutString
import Derived.ChangeOld
import Derived.Below
import Derived.SizedLaws
namespace Go.Proofs.Ytadeidhefjifaaa.proofDual
open Go.ChangeShapes Go.WideShapes Go.ChangeAt Go.RowKit Go.Proofs.Ytadeidhefjifaaa.Px
set_option linter.unusedVariables false
set_option linter.unusedSimpArgs false
open Go.Proofs.Ytadeidhefjifaaa.Px.L20
theorem sane_ok : sizarlaw20_sane.f 30 = some true := by decide +kernel
theorem ev_sane : Ev (fun k => sizarlaw20_sane.f k) true := Ev.mono sane_ok sizarlaw20_sane.mono
theorem law (s : ByteArray) (n u e mn md : Int) (q : List S92) (l : List S44) (us : List S57) (c : List Bool) : ∃ k, sizarlaw20_ProofDual.f k s n u e mn md q l us c = some true := by
  refine Ev.at ?_
  unfold sizarlaw20_ProofDual.f
  refine Ev.bind ev_sane (Ev.pos rfl ?_)
  obtain ⟨b, hF, hb⟩ := ev_few s n u e mn md q l
  have hj : ∀ t : Bool, (t = false → alV n u e mn md q l us = 0 ∧ us.length ≤ 60 ∧ l.length ≤ 12) → Ev (fun k => sizarlaw20_ProofDual.j0 k l us c t s n u e mn md q) true := by
    intro t ht
    refine Ev.step ?_ (fun k => by rw [sizarlaw20_ProofDual.j0])
    cases t with
    | true => exact Ev.pos rfl (Ev.of _)
    | false =>
      obtain ⟨h1, h2, h3⟩ := ht rfl
      obtain ⟨m1, m2, m3⟩ := L20.main h1 (by omega) c
      refine Ev.neg (by decide) (Ev.bind (ev_miss s n u e mn md q us h2) (Ev.bind (Ev.of (boundV n u e mn md q l c)) (Ev.pos m1 (Ev.pos m2 ?_))))
      by_cases hf : (boundV n u e mn md q l c).2 = 0
      · exact Ev.pos hf (Ev.pos (m3 hf).1 ((Ev.of _).eq (decide_eq_true (m3 hf).2)))
      · exact Ev.neg hf (Ev.of _)
  refine Ev.bind hF ?_
  cases b with
  | false => exact Ev.neg (by decide) (hj true (fun h => by cases h))
  | true =>
    refine Ev.pos rfl ?_
    by_cases h60 : (us.length : Int) > 60
    · exact Ev.pos h60 (hj true (fun h => by cases h))
    · refine Ev.neg h60 (Ev.bind (Ev.of (alV n u e mn md q l us)) (hj _ fun h => ⟨by simpa using h, by omega, (hb rfl).2⟩))
theorem own : ownKnob Try.prog.godebug = none := by kernel_rfl
theorem laidOut : laidOutB Try.prog = true := by kernel_rfl
set_option maxRecDepth 100000 in
theorem lifted (os : Os) (started : os.Started) (H : Type) (enc : TypeId × Value → H) :
    ReturnsInHanded {} Try.checked os 15 .any (Rows.proofDualSpec.pre6 enc Try.prog Try.f15 Rows.proofDualRow.domain false) (Rows.proofDualSpec.post enc Try.prog Try.f15 false true false false) := by
  refine returnsInHanded_of_change_sized (C := Try.checked) own started (by kernel_rfl) Try.func15
    (ChangeSpec.witness6 (enc := enc) (C := Try.checked) false ⟨#[], #[.agg #[.string ⟨#[]⟩, .int .i64 0, .int .i64 0, .int .i64 0, .int .i64 0, .int .i64 0, .slice none 0 0], .slice none 0 0, .slice none 0 0, .slice none 0 0], []⟩ 8 (by kernel_rfl) (by kernel_rfl) (by kernel_rfl) (by kernel_rfl)) ?_
  intro W base args ds gs before hval0 hW hcnd hsz0 _
  have hval : ∀ (j : Nat) t v, Try.f15.params[j]? = some t → args[j]? = some v → Value.okWide Try.prog W .any base t v := hval0
  have hW' := hW
  obtain ⟨p, q, hA0, hV, rfl, hfz, hnd⟩ := hW
  have hA : DataW.TrodAll enc Try.prog W 0 (fun _ => true) true Try.f15.params.toList args.toList ds p := hA0
  rw [Try.params15] at hA hval
  obtain ⟨v0, vs0, d0, ds0, p0, q0, hargs, rfl, rfl, h0, r0⟩ := trodAll_cons hA
  obtain ⟨v1, vs1, d1, ds1, p1, q1, rfl, rfl, rfl, h1, r1⟩ := trodAll_cons r0
  obtain ⟨v2, vs2, d2, ds2, p2, q2, rfl, rfl, rfl, h2, r2⟩ := trodAll_cons r1
  obtain ⟨v3, vs3, d3, ds3, p3, q3, rfl, rfl, rfl, h3, r3⟩ := trodAll_cons r2
  obtain ⟨rfl, rfl, rfl⟩ := trodAll_nil r3
  obtain rfl : args = #[v0, v1, v2, v3] := by cases args; simp_all
  obtain ⟨rfl, rfl⟩ := trodVars_none hV
  have k0 := h0
  have lt0 : ∀ x ∈ p0, x.block < W.heap.size := by obtain ⟨m, hm⟩ := k0; exact DataW.trod_lt m _ _ _ hm
  obtain ⟨a0_0, a0_1, a0_2, a0_3, a0_4, a0_5, A0_6, c0_6, l0_6, rfl, le0, C0⟩ := open_prog (hval 0 41 v0 rfl rfl) h0
  obtain ⟨a1, len1, cap1, rfl⟩ := okWide_slice Try.underlying42 (hval 1 42 v1 rfl rfl)
  have k1 := h1
  have lt1 : ∀ x ∈ p1, x.block < W.heap.size := by obtain ⟨m, hm⟩ := k1; exact DataW.trod_lt m _ _ _ hm
  obtain ⟨fuel1, hf1⟩ := h1
  have hf1 : DataW.trod enc Try.prog W 0 (fun _ => true) true fuel1 42 [.slice a1 len1 cap1] = some (d1, p1) := hf1
  obtain ⟨le1, l1, e1, C1⟩ := opens_row Try.underlying42 opens_att hf1
  subst e1
  obtain ⟨a2, len2, cap2, rfl⟩ := okWide_slice Try.underlying46 (hval 2 46 v2 rfl rfl)
  have k2 := h2
  have lt2 : ∀ x ∈ p2, x.block < W.heap.size := by obtain ⟨m, hm⟩ := k2; exact DataW.trod_lt m _ _ _ hm
  obtain ⟨fuel2, hf2⟩ := h2
  have hf2 : DataW.trod enc Try.prog W 0 (fun _ => true) true fuel2 46 [.slice a2 len2 cap2] = some (d2, p2) := hf2
  obtain ⟨le2, l2, e2, C2⟩ := opens_row Try.underlying46 opens_use hf2
  subst e2
  obtain ⟨a3, len3, cap3, rfl⟩ := okWide_slice Try.underlying24 (hval 3 24 v3 rfl rfl)
  have k3 := h3
  have lt3 : ∀ x ∈ p3, x.block < W.heap.size := by obtain ⟨m, hm⟩ := k3; exact DataW.trod_lt m _ _ _ hm
  obtain ⟨fuel3, hf3⟩ := h3
  have hf3 : DataW.trod enc Try.prog W 0 (fun _ => true) true fuel3 24 [.slice a3 len3 cap3] = some (d3, p3) := hf3
  obtain ⟨le3, l3, e3, C3⟩ := opens_row Try.underlying24 opens_bool hf3
  subst e3
  clear hA0 hval0 hsz0
  obtain ⟨k, hk⟩ := law a0_0 a0_1 a0_2 a0_3 a0_4 a0_5 l0_6 l1 l2 l3
  refine (sizarlaw20_ProofDual.calls k a0_0 a0_1 a0_2 a0_3 a0_4 a0_5 A0_6 c0_6 l0_6 a1 cap1 l1 a2 cap2 l2 a3 cap3 l3 true W C0 le0 C1 le1 C2 le2 C3 le3 hk).mono fun e W' ⟨he, bel⟩ => ?_
  subst he
  exact ⟨_, rfl, _, _, _, [], _, [], hW', trodAll_mk1 (shut_bool Try.underlying4 _), (trodAll_cons_mk (Below.trod laidOut (by kernel_rfl) (of_decide_eq_true (by kernel_rfl)) k0 bel lt0) (trodAll_cons_mk (Below.trod laidOut (by kernel_rfl) (of_decide_eq_true (by kernel_rfl)) k1 bel lt1) (trodAll_cons_mk (Below.trod laidOut (by kernel_rfl) (of_decide_eq_true (by kernel_rfl)) k2 bel lt2) (trodAll_cons_mk (Below.trod laidOut (by kernel_rfl) (of_decide_eq_true (by kernel_rfl)) k3 bel lt3) trodAll_mk0)))), rfl, bel.frame _, fun h => by cases h⟩
theorem over : Rows.proofDualRow.holds Try.pinned (OpenSpec.ofChange Rows.proofDualSpec) :=
  OpenClaim.holds_of_wide 15 Try.f15 rfl rfl rfl rfl rfl rfl rfl ⟨rfl, rfl, rfl, rfl, rfl⟩ rfl rfl rfl rfl rfl (by kernel_rfl) Try.func15 (by kernel_rfl)
    (of_decide_eq_true (by kernel_rfl)) (by unfold Func.isWrapper; first | (rw [if_pos (by decide +kernel)]; kernel_rfl) | (rw [if_neg (by decide +kernel)]; exact ⟨rfl, rfl⟩))
    (fun os started H enc _ => lifted os started H enc)
theorem proved : Rows.ProofDualSaid := over
end Go.Proofs.Ytadeidhefjifaaa.proofDual
namespace Go.Proofs.Ytadeidhefjifaaa
/-- The row, under a short name, for the claim. -/
theorem proofDual_holds : Rows.ProofDualSaid := proofDual.proved
#print axioms proofDual_holds
end Go.Proofs.Ytadeidhefjifaaa
