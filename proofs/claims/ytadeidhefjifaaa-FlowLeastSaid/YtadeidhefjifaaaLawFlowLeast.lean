/- FlowLeast answers true at every input, and leaves its arguments as they were. No condition. -/
import Derived.Test.YtadeidhefjifaaaRows
import Derived.Test.YtadeidhefjifaaaHFlow
import Derived.Test.YtadeidhefjifaaaPx14
import Derived.Test.YtadeidhefjifaaaHOpen
import Derived.WalkKit
import Derived.ProofKit
import Derived.OpenShut
import Derived.ShutString
import Derived.ChangeOld
import Derived.Below
import Derived.SizedLaws
namespace Go.Proofs.Ytadeidhefjifaaa.flowLeast
open Go.ChangeShapes Go.WideShapes Go.ChangeAt Go.RowKit Go.Proofs.Ytadeidhefjifaaa.Px
set_option linter.unusedVariables false
set_option linter.unusedSimpArgs false
theorem ev_mono {α : Type} {f : Nat → Option α} {r : α} {K : Nat} (h : f K = some r) (hm : ∀ k, Go.Proofs.YtadeidhefjifaaaW.PrintWords.LeO (f k) (f (k + 1))) : Ev f r := by
  refine ⟨K, fun k hk => ?_⟩
  induction k with
  | zero => have : K = 0 := by omega
            rw [← this]; exact h
  | succ k ih =>
    by_cases e : K = k + 1
    · rw [← e]; exact h
    · exact hm k r (ih (by omega))
theorem ev_max {n : Int} {l : List S61} {s t : Int} (h : Px.Good n l s t) : ∃ fl c, Ev (fun k => flow_Max.f k n l s t) (fl, c, 0) ∧ FlowM.Opt S61.f0 S61.f1 S61.f2 n l s t fl (Cof c) ∧ (c.length : Int) = n := by
  obtain ⟨fl, c, h1, h2, h3⟩ := max_good 0 n l s t h
  exact ⟨fl, c, ev_mono h1 (fun k => flow_Max.mono n l s t k), h2, h3⟩
theorem ev_max_bad {n : Int} {l : List S61} {s t : Int} (h : ¬ Px.Good n l s t) : Ev (fun k => flow_Max.f k n l s t) ([], [], 180) := Ev.step (Ev.of _) (fun k => max_bad k n l s t h)
theorem loop (l4 c : List Bool) (n : Int) (hc : (c.length : Int) = n) (h4 : (l4.length : Int) = n) (hn : n ≤ 4096) (hs : ∀ v : Int, 0 ≤ v → v < n → Cof c v = true → Cof l4 v = true) : ∀ (g : Nat) (i : Int), 0 ≤ i → (n - i).toNat ≤ g → Ev (fun k => sizarlaw18_FlowLeast.l0 k l4 c (c.length : Int) i) true := by
  intro g
  induction g with
  | zero =>
    intro i i0 hg
    refine Ev.step ?_ (fun k => by rw [sizarlaw18_FlowLeast.l0])
    exact Ev.neg (by omega) (Ev.of _)
  | succ g ih =>
    intro i i0 hg
    refine Ev.step ?_ (fun k => by rw [sizarlaw18_FlowLeast.l0])
    by_cases hlt : i < (c.length : Int)
    · refine Ev.pos hlt (Ev.pos i0 (Ev.pos hlt ?_))
      rw [wrap_id (i + 1) (by omega) (by omega)]
      by_cases hv : Cof c i = true
      · exact Ev.pos hv (Ev.pos (by omega) (Ev.pos (hs i i0 (by omega) hv) (ih (i + 1) (by omega) (by omega))))
      · exact Ev.neg hv (ih (i + 1) (by omega) (by omega))
    · exact Ev.neg hlt (Ev.of _)
theorem law (n : Int) (l : List S61) (s t : Int) (l4 : List Bool) : ∃ k, sizarlaw18_FlowLeast.f k n l s t l4 = some true := by
  refine Ev.at ?_
  unfold sizarlaw18_FlowLeast.f
  refine Ev.bind (Ev.of true) (Ev.pos rfl ?_)
  have hj : ∀ b, Ev (fun k => sizarlaw18_FlowLeast.j0 k n l s t l4 b) true := by
    intro b
    refine Ev.step ?_ (fun k => by rw [sizarlaw18_FlowLeast.j0])
    cases b with
    | true => exact Ev.pos rfl (Ev.of _)
    | false =>
      refine Ev.neg (by decide) ?_
      by_cases h : Px.Good n l s t
      · obtain ⟨fl, c, hm, ho, hc⟩ := ev_max h
        refine Ev.bind hm (Ev.bind (flow_cap n s t l l4) (Ev.pos rfl ?_))
        refine Ev.step ?_ (fun k => by rw [sizarlaw18_FlowLeast.j1])
        by_cases h4 : (l4.length : Int) = n ∧ Cof l4 s = true ∧ Cof l4 t = false
        · rw [cap_pos h h4.1 h4.2.1 h4.2.2]
          refine Ev.neg (by simp) (Ev.bind (flow_cap n s t l c) ?_)
          rw [cap_pos h hc ho.hs ho.ht]
          have hmin : capG c l ≤ capG l4 l := ho.min (by have := h.n2; omega) h.ends h.f0 h.f1 (Cof l4) h4.2.1 h4.2.2
          refine Ev.pos rfl (Ev.neg (by show ¬ (capG l4 l < capG c l); omega) ?_)
          refine Ev.step ?_ (fun k => by rw [sizarlaw18_FlowLeast.j2])
          have hlen : ((c.length : Int) != (l4.length : Int)) = false := by simp; omega
          rw [hlen]
          refine Ev.neg (by decide) ?_
          by_cases hgt : capG l4 l > capG c l
          · exact Ev.pos hgt (Ev.of _)
          · refine Ev.neg hgt (loop l4 c n hc h4.1 h.n4 (ho.sub (by have := h.n2; omega) h.ends h.f0 h.f1 (Cof l4) h4.2.1 h4.2.2 (by show capG l4 l = capG c l; have : capG c l ≤ capG l4 l := hmin; omega)) _ 0 (by omega) (Nat.le_refl _))
        · rw [cap_neg (fun hh => h4 hh.2)]
          exact Ev.pos rfl (Ev.of _)
      · refine Ev.bind (ev_max_bad h) (Ev.bind (flow_cap n s t l l4) (Ev.neg (by decide) ?_))
        refine Ev.step ?_ (fun k => by rw [sizarlaw18_FlowLeast.j1])
        exact Ev.pos rfl (Ev.of _)
  have hF : ∃ b, sizarref18_Few.f n l = some b := by unfold sizarref18_Few.f; split <;> exact ⟨_, rfl⟩
  obtain ⟨b, hF⟩ := hF
  refine Ev.bind ((Ev.of b).congr fun _ => hF) ?_
  cases b with
  | false => exact Ev.neg (by decide) (hj true)
  | true => exact Ev.pos rfl (hj _)
theorem own : ownKnob Try.prog.godebug = none := by kernel_rfl
theorem laidOut : laidOutB Try.prog = true := by kernel_rfl
set_option maxRecDepth 100000 in
theorem lifted (os : Os) (started : os.Started) (H : Type) (enc : TypeId × Value → H) :
    ReturnsInHanded {} Try.checked os 8 .any (Rows.flowLeastSpec.pre6 enc Try.prog Try.f8 Rows.flowLeastRow.domain false) (Rows.flowLeastSpec.post enc Try.prog Try.f8 false true false false) := by
  refine returnsInHanded_of_change_sized (C := Try.checked) own started (by kernel_rfl) Try.func8
    (ChangeSpec.witness6 (enc := enc) (C := Try.checked) false ⟨#[], #[.int .i64 0, .slice none 0 0, .int .i64 0, .int .i64 0, .slice none 0 0], []⟩ 8 (by kernel_rfl) (by kernel_rfl) (by kernel_rfl) (by kernel_rfl)) ?_
  intro W base args ds gs before hval0 hW hcnd hsz0 _
  have hval : ∀ (j : Nat) t v, Try.f8.params[j]? = some t → args[j]? = some v → Value.okWide Try.prog W .any base t v := hval0
  have hW' := hW
  obtain ⟨p, q, hA0, hV, rfl, hfz, hnd⟩ := hW
  have hA : DataW.TrodAll enc Try.prog W 0 (fun _ => true) true Try.f8.params.toList args.toList ds p := hA0
  rw [Try.params8] at hA hval
  obtain ⟨v0, vs0, d0, ds0, p0, q0, hargs, rfl, rfl, h0, r0⟩ := trodAll_cons hA
  obtain ⟨v1, vs1, d1, ds1, p1, q1, rfl, rfl, rfl, h1, r1⟩ := trodAll_cons r0
  obtain ⟨v2, vs2, d2, ds2, p2, q2, rfl, rfl, rfl, h2, r2⟩ := trodAll_cons r1
  obtain ⟨v3, vs3, d3, ds3, p3, q3, rfl, rfl, rfl, h3, r3⟩ := trodAll_cons r2
  obtain ⟨v4, vs4, d4, ds4, p4, q4, rfl, rfl, rfl, h4, r4⟩ := trodAll_cons r3
  obtain ⟨rfl, rfl, rfl⟩ := trodAll_nil r4
  obtain rfl : args = #[v0, v1, v2, v3, v4] := by cases args; simp_all
  obtain ⟨rfl, rfl⟩ := trodVars_none hV
  obtain ⟨a0, rfl, rfl, rfl, w0⟩ := open_int Try.underlying3 (hval 0 3 v0 rfl rfl) h0
  obtain ⟨a1, len1, cap1, rfl⟩ := okWide_slice Try.underlying22 (hval 1 22 v1 rfl rfl)
  have k1 := h1
  have lt1 : ∀ x ∈ p1, x.block < W.heap.size := by obtain ⟨m, hm⟩ := k1; exact DataW.trod_lt m _ _ _ hm
  obtain ⟨fuel1, hf1⟩ := h1
  have hf1 : DataW.trod enc Try.prog W 0 (fun _ => true) true fuel1 22 [.slice a1 len1 cap1] = some (d1, p1) := hf1
  have le1 := (len_le Try.underlying22 hf1).1
  obtain ⟨l1, e1, C1⟩ := open_edges hf1
  subst e1
  obtain ⟨a2, rfl, rfl, rfl, w2⟩ := open_int Try.underlying3 (hval 2 3 v2 rfl rfl) h2
  obtain ⟨a3, rfl, rfl, rfl, w3⟩ := open_int Try.underlying3 (hval 3 3 v3 rfl rfl) h3
  obtain ⟨a4, len4, cap4, rfl⟩ := okWide_slice Try.underlying24 (hval 4 24 v4 rfl rfl)
  have k4 := h4
  have lt4 : ∀ x ∈ p4, x.block < W.heap.size := by obtain ⟨m, hm⟩ := k4; exact DataW.trod_lt m _ _ _ hm
  obtain ⟨fuel4, hf4⟩ := h4
  have hf4 : DataW.trod enc Try.prog W 0 (fun _ => true) true fuel4 24 [.slice a4 len4 cap4] = some (d4, p4) := hf4
  have le4 := (len_le Try.underlying24 hf4).1
  obtain ⟨l4, e4, C4⟩ := open_flags hf4
  subst e4
  clear hA0 hval0 hsz0
  obtain ⟨k, hk⟩ := law a0 l1 a2 a3 l4
  refine (sizarlaw18_FlowLeast.calls k a0 a1 cap1 l1 a2 a3 a4 cap4 l4 true W C1 le1 C4 le4 hk).mono fun e W' ⟨he, bel⟩ => ?_
  subst he
  exact ⟨_, rfl, _, _, _, [], _, [], hW', trodAll_mk1 (shut_bool Try.underlying4 _), (trodAll_cons_mk (shut_int Try.underlying3 w0) (trodAll_cons_mk (Below.trod laidOut (by kernel_rfl) (of_decide_eq_true (by kernel_rfl)) k1 bel lt1) (trodAll_cons_mk (shut_int Try.underlying3 w2) (trodAll_cons_mk (shut_int Try.underlying3 w3) (trodAll_cons_mk (Below.trod laidOut (by kernel_rfl) (of_decide_eq_true (by kernel_rfl)) k4 bel lt4) trodAll_mk0))))), rfl, bel.frame _, fun h => by cases h⟩
theorem over : Rows.flowLeastRow.holds Try.pinned (OpenSpec.ofChange Rows.flowLeastSpec) :=
  OpenClaim.holds_of_wide 8 Try.f8 rfl rfl rfl rfl rfl rfl rfl ⟨rfl, rfl, rfl, rfl, rfl⟩ rfl rfl rfl rfl rfl (by kernel_rfl) Try.func8 (by kernel_rfl)
    (of_decide_eq_true (by kernel_rfl)) (by unfold Func.isWrapper; first | (rw [if_pos (by decide +kernel)]; kernel_rfl) | (rw [if_neg (by decide +kernel)]; exact ⟨rfl, rfl⟩))
    (fun os started H enc _ => lifted os started H enc)
theorem proved : Rows.FlowLeastSaid := over
end Go.Proofs.Ytadeidhefjifaaa.flowLeast
namespace Go.Proofs.Ytadeidhefjifaaa
/-- The row, under a short name, for the claim. -/
theorem flowLeast_holds : Rows.FlowLeastSaid := flowLeast.proved
#print axioms flowLeast_holds
end Go.Proofs.Ytadeidhefjifaaa

