/- ProofOptimal answers true at every input, and leaves its arguments as they were. No condition. -/
import Derived.Test.YtadeidhefjifaaaZProofOptimal5
import Derived.Test.YtadeidhefjifaaaRows
import Derived.WalkKit
import Derived.ProofKit
import Derived.OpenShut
import Derived.ShutString
import Derived.ChangeOld
import Derived.Below
import Derived.SizedLaws
namespace Go.Proofs.Ytadeidhefjifaaa.proofOptimal
open Go.ChangeShapes Go.WideShapes Go.ChangeAt Go.RowKit Go.Proofs.Ytadeidhefjifaaa.Px
set_option linter.unusedVariables false
set_option linter.unusedSimpArgs false
open Go.Proofs.Ytadeidhefjifaaa.Px.L20
theorem sane_ok : sizarlaw20_sane.f 30 = some true := by decide +kernel
theorem ev_sane : Ev (fun k => sizarlaw20_sane.f k) true := Ev.mono sane_ok sizarlaw20_sane.mono
/-- proof.Check's answer -/
def chkP (n u e mn md : Int) (q : List S92) (l : List S44) (us : List S57) (m : Int) (c : List Bool) : Int :=
  if alV n u e mn md q l us = 0 then (if (missV n u e mn md q us).2 = 0 then (if (missV n u e mn md q us).1 = m then (if (boundV n u e mn md q l c).2 = 0 then (if (boundV n u e mn md q l c).1 = m then 0 else 200) else (boundV n u e mn md q l c).2) else 200) else (missV n u e mn md q us).2) else alV n u e mn md q l us
theorem ev_chk (s : ByteArray) (n u e mn md : Int) (q : List S92) (l : List S44) (us : List S57) (m : Int) (c : List Bool) (h : us.length ≤ 60) : Ev (fun k => proof_Check.f k s n u e mn md q l us m c) (chkP n u e mn md q l us m c) := by
  unfold proof_Check.f chkP
  refine Ev.bind (Ev.of (alV n u e mn md q l us)) ?_
  by_cases h1 : alV n u e mn md q l us = 0
  · refine Ev.eq (Ev.pos h1 (Ev.bind (ev_miss s n u e mn md q us h) ?_)) (if_pos h1).symm
    by_cases h2 : (missV n u e mn md q us).2 = 0
    · refine Ev.eq (Ev.pos h2 ?_) (if_pos h2).symm
      by_cases h3 : (missV n u e mn md q us).1 = m
      · refine Ev.eq (Ev.pos h3 (Ev.bind (Ev.of (boundV n u e mn md q l c)) ?_)) (if_pos h3).symm
        by_cases h4 : (boundV n u e mn md q l c).2 = 0
        · refine Ev.eq (Ev.pos h4 ?_) (if_pos h4).symm
          by_cases h5 : (boundV n u e mn md q l c).1 = m
          · exact Ev.eq (Ev.pos h5 (Ev.of _)) (if_pos h5).symm
          · exact Ev.eq (Ev.neg h5 (Ev.of _)) (if_neg h5).symm
        · exact Ev.eq (Ev.neg h4 (Ev.of _)) (if_neg h4).symm
      · exact Ev.eq (Ev.neg h3 (Ev.of _)) (if_neg h3).symm
    · exact Ev.eq (Ev.neg h2 (Ev.of _)) (if_neg h2).symm
  · exact Ev.eq (Ev.neg h1 (Ev.of _)) (if_neg h1).symm
theorem chk_zero {n u e mn md : Int} {q : List S92} {l : List S44} {us : List S57} {m : Int} {c : List Bool} (h : chkP n u e mn md q l us m c = 0) : alV n u e mn md q l us = 0 ∧ (missV n u e mn md q us).1 = m ∧ (boundV n u e mn md q l c).2 = 0 ∧ (boundV n u e mn md q l c).1 = m := by
  unfold chkP at h
  split at h
  · rename_i h1
    split at h
    · split at h
      · rename_i h3
        split at h
        · rename_i h4
          split at h
          · rename_i h5; exact ⟨h1, h3, h4, h5⟩
          · cases h
        · rename_i h4; exact absurd h h4
      · cases h
    · rename_i h2; exact absurd h h2
  · rename_i h1; exact absurd h h1
theorem law (s : ByteArray) (n u e mn md : Int) (q : List S92) (l : List S44) (aus : List S57) (am : Int) (ac : List Bool) (us : List S57) : ∃ k, sizarlaw20_ProofOptimal.f k s n u e mn md q l aus am ac us = some true := by
  refine Ev.at ?_
  unfold sizarlaw20_ProofOptimal.f
  refine Ev.bind ev_sane (Ev.pos rfl ?_)
  obtain ⟨b, hF, hb⟩ := ev_few s n u e mn md q l
  have hj : ∀ t : Bool, (t = false → alV n u e mn md q l us = 0 ∧ chkP n u e mn md q l aus am ac = 0 ∧ us.length ≤ 60 ∧ l.length ≤ 12) → Ev (fun k => sizarlaw20_ProofOptimal.j0 k us t s n u e mn md q aus am ac) true := by
    intro t ht
    refine Ev.step ?_ (fun k => by rw [sizarlaw20_ProofOptimal.j0])
    cases t with
    | true => exact Ev.pos rfl (Ev.of _)
    | false =>
      obtain ⟨h1, h2, h3, h4⟩ := ht rfl
      obtain ⟨m1, m2, m3⟩ := L20.main h1 (by omega) ac
      obtain ⟨_, _, k3, k4⟩ := chk_zero h2
      have := (m3 k3).2
      exact Ev.neg (by decide) (Ev.bind (ev_miss s n u e mn md q us h3) (Ev.pos m1 ((Ev.of _).eq (decide_eq_true (by omega)))))
  refine Ev.bind hF ?_
  cases b with
  | false => exact Ev.neg (by decide) (hj true (fun h => by cases h))
  | true =>
    refine Ev.pos rfl ?_
    by_cases h60 : (us.length : Int) > 60
    · exact Ev.pos h60 (hj true (fun h => by cases h))
    · refine Ev.neg h60 ?_
      by_cases h61 : (aus.length : Int) > 60
      · exact Ev.pos h61 (hj true (fun h => by cases h))
      · refine Ev.neg h61 (Ev.bind (ev_chk s n u e mn md q l aus am ac (by omega)) ?_)
        by_cases hc : chkP n u e mn md q l aus am ac = 0
        · exact Ev.pos hc (Ev.bind (Ev.of (alV n u e mn md q l us)) (hj _ fun h => ⟨by simpa using h, hc, by omega, (hb rfl).2⟩))
        · exact Ev.neg hc (hj true (fun h => by cases h))
theorem own : ownKnob Try.prog.godebug = none := by kernel_rfl
theorem laidOut : laidOutB Try.prog = true := by kernel_rfl
set_option maxRecDepth 100000 in
theorem lifted (os : Os) (started : os.Started) (H : Type) (enc : TypeId × Value → H) :
    ReturnsInHanded {} Try.checked os 16 .any (Rows.proofOptimalSpec.pre6 enc Try.prog Try.f16 Rows.proofOptimalRow.domain false) (Rows.proofOptimalSpec.post enc Try.prog Try.f16 false true false false) := by
  refine returnsInHanded_of_change_sized (C := Try.checked) own started (by kernel_rfl) Try.func16
    (ChangeSpec.witness6 (enc := enc) (C := Try.checked) false ⟨#[], #[.agg #[.string ⟨#[]⟩, .int .i64 0, .int .i64 0, .int .i64 0, .int .i64 0, .int .i64 0, .slice none 0 0], .slice none 0 0, .agg #[.slice none 0 0, .int .i64 0, .slice none 0 0], .slice none 0 0], []⟩ 8 (by kernel_rfl) (by kernel_rfl) (by kernel_rfl) (by kernel_rfl)) ?_
  intro W base args ds gs before hval0 hW hcnd hsz0 _
  have hval : ∀ (j : Nat) t v, Try.f16.params[j]? = some t → args[j]? = some v → Value.okWide Try.prog W .any base t v := hval0
  have hW' := hW
  obtain ⟨p, q, hA0, hV, rfl, hfz, hnd⟩ := hW
  have hA : DataW.TrodAll enc Try.prog W 0 (fun _ => true) true Try.f16.params.toList args.toList ds p := hA0
  rw [Try.params16] at hA hval
  obtain ⟨v0, vs0, d0, ds0, p0, q0, hargs, rfl, rfl, h0, r0⟩ := trodAll_cons hA
  obtain ⟨v1, vs1, d1, ds1, p1, q1, rfl, rfl, rfl, h1, r1⟩ := trodAll_cons r0
  obtain ⟨v2, vs2, d2, ds2, p2, q2, rfl, rfl, rfl, h2, r2⟩ := trodAll_cons r1
  obtain ⟨v3, vs3, d3, ds3, p3, q3, rfl, rfl, rfl, h3, r3⟩ := trodAll_cons r2
  obtain ⟨rfl, rfl, rfl⟩ := trodAll_nil r3
  obtain rfl : args = #[v0, v1, v2, v3] := by cases args; simp_all
  obtain ⟨rfl, rfl⟩ := trodVars_none hV
  have k0 := h0
  have lt0 : ∀ x ∈ p0, x.block < W.heap.size := by obtain ⟨m, hm⟩ := k0; exact DataW.trod_lt m _ _ _ hm
  obtain ⟨a0_0, a0_1, a0_2, a0_3, a0_4, a0_5, A0_6, c0_6, l0_6, rfl, le0, C0⟩ := open_prog (hval 0 41 v0 rfl rfl) h0
  obtain ⟨a1, len1, cap1, rfl⟩ := okWide_slice Try.underlying42 (hval 1 42 v1 rfl rfl)
  have k1 := h1
  have lt1 : ∀ x ∈ p1, x.block < W.heap.size := by obtain ⟨m, hm⟩ := k1; exact DataW.trod_lt m _ _ _ hm
  obtain ⟨fuel1, hf1⟩ := h1
  have hf1 : DataW.trod enc Try.prog W 0 (fun _ => true) true fuel1 42 [.slice a1 len1 cap1] = some (d1, p1) := hf1
  obtain ⟨le1, l1, e1, C1⟩ := opens_row Try.underlying42 opens_att hf1
  subst e1
  have k2 := h2
  have lt2 : ∀ x ∈ p2, x.block < W.heap.size := by obtain ⟨m, hm⟩ := k2; exact DataW.trod_lt m _ _ _ hm
  obtain ⟨A2_0, c2_0, l2_0, a2_1, A2_2, c2_2, l2_2, rfl, le2, C2, lf2, D2⟩ := open_audit (hval 2 48 v2 rfl rfl) h2
  obtain ⟨a3, len3, cap3, rfl⟩ := okWide_slice Try.underlying46 (hval 3 46 v3 rfl rfl)
  have k3 := h3
  have lt3 : ∀ x ∈ p3, x.block < W.heap.size := by obtain ⟨m, hm⟩ := k3; exact DataW.trod_lt m _ _ _ hm
  obtain ⟨fuel3, hf3⟩ := h3
  have hf3 : DataW.trod enc Try.prog W 0 (fun _ => true) true fuel3 46 [.slice a3 len3 cap3] = some (d3, p3) := hf3
  obtain ⟨le3, l3, e3, C3⟩ := opens_row Try.underlying46 opens_use hf3
  subst e3
  clear hA0 hval0 hsz0
  obtain ⟨k, hk⟩ := law a0_0 a0_1 a0_2 a0_3 a0_4 a0_5 l0_6 l1 l2_0 a2_1 l2_2 l3
  refine (sizarlaw20_ProofOptimal.calls k a0_0 a0_1 a0_2 a0_3 a0_4 a0_5 A0_6 c0_6 l0_6 a1 cap1 l1 A2_0 c2_0 l2_0 a2_1 A2_2 c2_2 l2_2 a3 cap3 l3 true W C0 le0 C1 le1 C2 le2 D2 lf2 C3 le3 hk).mono fun e W' ⟨he, bel⟩ => ?_
  subst he
  exact ⟨_, rfl, _, _, _, [], _, [], hW', trodAll_mk1 (shut_bool Try.underlying4 _), (trodAll_cons_mk (Below.trod laidOut (by kernel_rfl) (of_decide_eq_true (by kernel_rfl)) k0 bel lt0) (trodAll_cons_mk (Below.trod laidOut (by kernel_rfl) (of_decide_eq_true (by kernel_rfl)) k1 bel lt1) (trodAll_cons_mk (Below.trod laidOut (by kernel_rfl) (of_decide_eq_true (by kernel_rfl)) k2 bel lt2) (trodAll_cons_mk (Below.trod laidOut (by kernel_rfl) (of_decide_eq_true (by kernel_rfl)) k3 bel lt3) trodAll_mk0)))), rfl, bel.frame _, fun h => by cases h⟩
theorem over : Rows.proofOptimalRow.holds Try.pinned (OpenSpec.ofChange Rows.proofOptimalSpec) :=
  OpenClaim.holds_of_wide 16 Try.f16 rfl rfl rfl rfl rfl rfl rfl ⟨rfl, rfl, rfl, rfl, rfl⟩ rfl rfl rfl rfl rfl (by kernel_rfl) Try.func16 (by kernel_rfl)
    (of_decide_eq_true (by kernel_rfl)) (by unfold Func.isWrapper; first | (rw [if_pos (by decide +kernel)]; kernel_rfl) | (rw [if_neg (by decide +kernel)]; exact ⟨rfl, rfl⟩))
    (fun os started H enc _ => lifted os started H enc)
theorem proved : Rows.ProofOptimalSaid := over
end Go.Proofs.Ytadeidhefjifaaa.proofOptimal
namespace Go.Proofs.Ytadeidhefjifaaa
/-- The row, under a short name, for the claim. -/
theorem proofOptimal_holds : Rows.ProofOptimalSaid := proofOptimal.proved
#print axioms proofOptimal_holds
end Go.Proofs.Ytadeidhefjifaaa
