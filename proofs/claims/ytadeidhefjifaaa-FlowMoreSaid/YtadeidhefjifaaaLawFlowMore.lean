/- FlowMore answers true at every input, and leaves its arguments as they were. No condition. -/
import Derived.Test.YtadeidhefjifaaaRows
import Derived.Test.YtadeidhefjifaaaPx16
import Derived.Test.YtadeidhefjifaaaHFlow
import Derived.Test.YtadeidhefjifaaaHOpen
import Derived.WalkKit
import Derived.ProofKit
import Derived.OpenShut
import Derived.ShutString
import Derived.ChangeOld
import Derived.Below
import Derived.SizedLaws
import Derived.Lib.SmallJoins
namespace Go.Proofs.Ytadeidhefjifaaa.flowMore
open Go.ChangeShapes Go.WideShapes Go.ChangeAt Go.RowKit Go.Proofs.Ytadeidhefjifaaa.Px
set_option linter.unusedVariables false
set_option linter.unusedSimpArgs false
theorem ev_mono {α : Type} {f : Nat → Option α} {r : α} {K : Nat} (h : f K = some r) (hm : ∀ k, Go.Proofs.YtadeidhefjifaaaW.PrintWords.LeO (f k) (f (k + 1))) : Ev f r := by
  refine ⟨K, fun k hk => ?_⟩
  induction k with
  | zero => have : K = 0 := by omega
            rw [← this]; exact h
  | succ k ih =>
    by_cases e : K = k + 1
    · rw [← e]; exact h
    · exact hm k r (ih (by omega))
theorem ev_max {n : Int} {l : List S61} {s t : Int} (h : Px.Good n l s t) : ∃ fl c, Ev (fun k => flow_Max.f k n l s t) (fl, c, 0) ∧ FlowM.Opt S61.f0 S61.f1 S61.f2 n l s t fl (Cof c) ∧ (c.length : Int) = n := by
  obtain ⟨fl, c, h1, h2, h3⟩ := max_good 0 n l s t h
  exact ⟨fl, c, ev_mono h1 (fun k => flow_Max.mono n l s t k), h2, h3⟩
theorem ev_max_bad {n : Int} {l : List S61} {s t : Int} (h : ¬ Px.Good n l s t) : Ev (fun k => flow_Max.f k n l s t) ([], [], 180) := Ev.step (Ev.of _) (fun k => max_bad k n l s t h)
theorem ev_value {n : Int} {l : List S61} {s t : Int} (h : Px.Good n l s t) : ∃ fl c, Ev (fun k => sizarlaw18_value.f k n l s t) (outsG l fl s, true) ∧ FlowM.Opt S61.f0 S61.f1 S61.f2 n l s t fl (Cof c) ∧ (c.length : Int) = n := by
  obtain ⟨fl, c, hm, ho, hc⟩ := ev_max h
  refine ⟨fl, c, ?_, ho, hc⟩
  unfold sizarlaw18_value.f
  refine Ev.bind hm (Ev.bind (flow_val n s t l fl) ?_)
  rw [val_pos h ho.flow]
  exact Ev.pos rfl ((Ev.of _).eq (by simp))
theorem ev_value_bad {n : Int} {l : List S61} {s t : Int} (h : ¬ Px.Good n l s t) : Ev (fun k => sizarlaw18_value.f k n l s t) (0, false) := by
  unfold sizarlaw18_value.f
  refine Ev.bind (ev_max_bad h) (Ev.bind (flow_val n s t l []) ?_)
  rw [val_neg (fun hh => h hh.1)]
  exact Ev.neg (by decide) (Ev.of _)
theorem bnd_outs : ∀ (l : List S61) (fl : List Int) (v : Int), (∀ x ∈ l, x.f2 ≤ 1073741824) → BndG l fl → -(1073741824 * (l.length : Int)) ≤ outsG l fl v ∧ outsG l fl v ≤ 1073741824 * (l.length : Int)
  | [], [], v, _, _ => by simp [outsG, FlowM.outs]
  | [], _ :: _, v, _, h => h.elim
  | _ :: _, [], v, _, h => h.elim
  | x :: l, f :: fl, v, hx, h => by
    have ih := bnd_outs l fl v (fun y hy => hx y (by simp [hy])) h.2
    have := hx x (by simp)
    have := h.1
    simp only [outsG, FlowM.outs, List.length_cons] at ih ⊢
    split <;> split <;> omega
theorem good_less {n : Int} {l : List S61} {y : S61} {s t : Int} (h : Px.Good n (l ++ [y]) s t) : Px.Good n l s t :=
  ⟨h.n2, h.n4, by have := h.m; simp at this; omega, fun x hx => h.ends x (by simp [hx]), h.f0, h.f1, h.t0, h.t1, h.ne⟩
theorem law (n : Int) (l : List S61) (s t : Int) (y0 y1 y2 : Int) : ∃ k, sizarlaw18_FlowMore.f k n l s t y0 y1 y2 = some true := by
  refine Ev.at ?_
  unfold sizarlaw18_FlowMore.f
  refine Ev.bind (Ev.of true) (Ev.pos rfl ?_)
  have hF : ∃ b, sizarref18_Few.f n l = some b ∧ (b = true → l.length ≤ 60) := by
    unfold sizarref18_Few.f; split
    · exact ⟨_, rfl, fun h => by have := of_decide_eq_true h; omega⟩
    · exact ⟨_, rfl, fun h => by cases h⟩
  obtain ⟨b, hF, hlen⟩ := hF
  refine Ev.bind ((Ev.of b).congr fun _ => hF) ?_
  cases b with
  | false => exact Ev.neg (by decide) (Ev.of _)
  | true =>
    have hlen := hlen rfl
    refine Ev.pos rfl ?_
    by_cases h : Px.Good n l s t
    · obtain ⟨fl, c, hv, ho, hc⟩ := ev_value h
      refine Ev.bind hv (Ev.bind (Ev.of _) (Ev.pos (by simp; omega) (Ev.bind (Ev.of _) (Ev.bind (Ev.of _) (Ev.pos (by simp; omega) ?_)))))
      show Ev (fun k => (sizarlaw18_value.f k n (l ++ [(⟨y0, y1, y2⟩ : S61)]) s t).bind _) true
      by_cases h' : Px.Good n (l ++ [(⟨y0, y1, y2⟩ : S61)]) s t
      · obtain ⟨fl', c', hv', ho', hc'⟩ := ev_value h'
        refine Ev.bind hv' (Ev.pos rfl (Ev.pos rfl ?_))
        obtain ⟨m1, m2⟩ := FlowM.more ho ho' (by have := h.n2; omega) h'.ends h.f0 h.f1
        have b1 := bnd_outs l fl s (fun x hx => (h.ends x hx).2.2.2.2) ho.flow.bnd
        have b2 := (h'.ends ⟨y0, y1, y2⟩ (by simp)).2.2.2
        refine Ev.pos m1 ((Ev.of _).eq (decide_eq_true ?_))
        show outsG (l ++ [(⟨y0, y1, y2⟩ : S61)]) fl' s ≤ wrap64 (outsG l fl s + y2)
        have b3 : (0 : Int) ≤ y2 ∧ y2 ≤ 1073741824 := b2
        rw [wrap_id (outsG l fl s + y2) (by omega) (by omega)]
        exact m2
      · exact Ev.bind (ev_value_bad h') (Ev.pos rfl (Ev.neg (by decide) (Ev.of _)))
    · refine Ev.bind (ev_value_bad h) (Ev.bind (Ev.of _) (Ev.pos (by simp; omega) (Ev.bind (Ev.of _) (Ev.bind (Ev.of _) (Ev.pos (by simp; omega) ?_)))))
      exact Ev.bind (ev_value_bad (fun h' => h (good_less h'))) (Ev.neg (by decide) (Ev.of _))
set_option maxRecDepth 100000 in
theorem open_edge {H : Type} {enc : TypeId × Value → H} {w : World} {base : Nat} {spare : Nat → Bool} {held : Bool} {r : Reach} {b0 : Nat} {v : Value} {d : DataW H} {p : List MemPlace} (hv : Value.okWide Try.prog w r b0 61 v) (h : DataW.Trod enc Try.prog w base spare held 61 v d p) :
    ∃ n0 n1 n2 : Int, v = .agg #[.int .i64 n0, .int .i64 n1, .int .i64 n2] := by
  obtain ⟨v0, v1, v2, y0, y1, y2, n, rfl, -, -, h0, h1, h2⟩ := Go.Joins.open_agg3 Try.underlying61 (by kernel_rfl) (by kernel_rfl) hv h
  obtain ⟨n0, e0, -, -⟩ := DataW.trod_int Try.underlying3 h0
  obtain ⟨n1, e1, -, -⟩ := DataW.trod_int Try.underlying3 h1
  obtain ⟨n2, e2, -, -⟩ := DataW.trod_int Try.underlying3 h2
  cases e0; cases e1; cases e2
  exact ⟨n0, n1, n2, rfl⟩
theorem own : ownKnob Try.prog.godebug = none := by kernel_rfl
theorem laidOut : laidOutB Try.prog = true := by kernel_rfl
set_option maxRecDepth 100000 in
theorem lifted (os : Os) (started : os.Started) (H : Type) (enc : TypeId × Value → H) :
    ReturnsInHanded {} Try.checked os 12 .any (Rows.flowMoreSpec.pre6 enc Try.prog Try.f12 Rows.flowMoreRow.domain false) (Rows.flowMoreSpec.post enc Try.prog Try.f12 false true false false) := by
  refine returnsInHanded_of_change_sized (C := Try.checked) own started (by kernel_rfl) Try.func12
    (ChangeSpec.witness6 (enc := enc) (C := Try.checked) false ⟨#[], #[.int .i64 0, .slice none 0 0, .int .i64 0, .int .i64 0, .agg #[.int .i64 0, .int .i64 0, .int .i64 0]], []⟩ 8 (by kernel_rfl) (by kernel_rfl) (by kernel_rfl) (by kernel_rfl)) ?_
  intro W base args ds gs before hval0 hW hcnd hsz0 _
  have hval : ∀ (j : Nat) t v, Try.f12.params[j]? = some t → args[j]? = some v → Value.okWide Try.prog W .any base t v := hval0
  have hW' := hW
  obtain ⟨p, q, hA0, hV, rfl, hfz, hnd⟩ := hW
  have hA : DataW.TrodAll enc Try.prog W 0 (fun _ => true) true Try.f12.params.toList args.toList ds p := hA0
  rw [Try.params12] at hA hval
  obtain ⟨v0, vs0, d0, ds0, p0, q0, hargs, rfl, rfl, h0, r0⟩ := trodAll_cons hA
  obtain ⟨v1, vs1, d1, ds1, p1, q1, rfl, rfl, rfl, h1, r1⟩ := trodAll_cons r0
  obtain ⟨v2, vs2, d2, ds2, p2, q2, rfl, rfl, rfl, h2, r2⟩ := trodAll_cons r1
  obtain ⟨v3, vs3, d3, ds3, p3, q3, rfl, rfl, rfl, h3, r3⟩ := trodAll_cons r2
  obtain ⟨v4, vs4, d4, ds4, p4, q4, rfl, rfl, rfl, h4, r4⟩ := trodAll_cons r3
  obtain ⟨rfl, rfl, rfl⟩ := trodAll_nil r4
  obtain rfl : args = #[v0, v1, v2, v3, v4] := by cases args; simp_all
  obtain ⟨rfl, rfl⟩ := trodVars_none hV
  obtain ⟨a0, rfl, rfl, rfl, w0⟩ := open_int Try.underlying3 (hval 0 3 v0 rfl rfl) h0
  obtain ⟨a1, len1, cap1, rfl⟩ := okWide_slice Try.underlying22 (hval 1 22 v1 rfl rfl)
  have k1 := h1
  have lt1 : ∀ x ∈ p1, x.block < W.heap.size := by obtain ⟨m, hm⟩ := k1; exact DataW.trod_lt m _ _ _ hm
  obtain ⟨fuel1, hf1⟩ := h1
  have hf1 : DataW.trod enc Try.prog W 0 (fun _ => true) true fuel1 22 [.slice a1 len1 cap1] = some (d1, p1) := hf1
  have le1 := (len_le Try.underlying22 hf1).1
  obtain ⟨l1, e1, C1⟩ := open_edges hf1
  subst e1
  obtain ⟨a2, rfl, rfl, rfl, w2⟩ := open_int Try.underlying3 (hval 2 3 v2 rfl rfl) h2
  obtain ⟨a3, rfl, rfl, rfl, w3⟩ := open_int Try.underlying3 (hval 3 3 v3 rfl rfl) h3
  have k4 := h4
  have lt4 : ∀ x ∈ p4, x.block < W.heap.size := by obtain ⟨m, hm⟩ := k4; exact DataW.trod_lt m _ _ _ hm
  obtain ⟨a4_0, a4_1, a4_2, rfl⟩ := open_edge (hval 4 61 v4 rfl rfl) h4
  clear hA0 hval0 hsz0
  obtain ⟨k, hk⟩ := law a0 l1 a2 a3 a4_0 a4_1 a4_2
  refine (sizarlaw18_FlowMore.calls k a0 a1 cap1 l1 a2 a3 a4_0 a4_1 a4_2 true W C1 le1 hk).mono fun e W' ⟨he, bel⟩ => ?_
  subst he
  exact ⟨_, rfl, _, _, _, [], _, [], hW', trodAll_mk1 (shut_bool Try.underlying4 _), (trodAll_cons_mk (shut_int Try.underlying3 w0) (trodAll_cons_mk (Below.trod laidOut (by kernel_rfl) (of_decide_eq_true (by kernel_rfl)) k1 bel lt1) (trodAll_cons_mk (shut_int Try.underlying3 w2) (trodAll_cons_mk (shut_int Try.underlying3 w3) (trodAll_cons_mk (Below.trod laidOut (by kernel_rfl) (of_decide_eq_true (by kernel_rfl)) k4 bel lt4) trodAll_mk0))))), rfl, bel.frame _, fun h => by cases h⟩
theorem over : Rows.flowMoreRow.holds Try.pinned (OpenSpec.ofChange Rows.flowMoreSpec) :=
  OpenClaim.holds_of_wide 12 Try.f12 rfl rfl rfl rfl rfl rfl rfl ⟨rfl, rfl, rfl, rfl, rfl⟩ rfl rfl rfl rfl rfl (by kernel_rfl) Try.func12 (by kernel_rfl)
    (of_decide_eq_true (by kernel_rfl)) (by unfold Func.isWrapper; first | (rw [if_pos (by decide +kernel)]; kernel_rfl) | (rw [if_neg (by decide +kernel)]; exact ⟨rfl, rfl⟩))
    (fun os started H enc _ => lifted os started H enc)
theorem proved : Rows.FlowMoreSaid := over
end Go.Proofs.Ytadeidhefjifaaa.flowMore
namespace Go.Proofs.Ytadeidhefjifaaa
/-- The row, under a short name, for the claim. -/
theorem flowMore_holds : Rows.FlowMoreSaid := flowMore.proved
#print axioms flowMore_holds
end Go.Proofs.Ytadeidhefjifaaa

