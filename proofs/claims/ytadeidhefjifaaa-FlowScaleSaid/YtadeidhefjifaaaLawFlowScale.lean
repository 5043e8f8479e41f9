/- FlowScale answers true at every input, and leaves its arguments as they were. No condition. -/
import Derived.Test.YtadeidhefjifaaaRows
import Derived.Test.YtadeidhefjifaaaPx15
import Derived.Test.YtadeidhefjifaaaHFlow
import Derived.Test.YtadeidhefjifaaaHOpen
import Derived.WalkKit
import Derived.ProofKit
import Derived.OpenShut
import Derived.ShutString
import Derived.ChangeOld
import Derived.Below
import Derived.SizedLaws
import Derived.Laws.BitsLemmas
namespace Go.Proofs.Ytadeidhefjifaaa.flowScale
open Go.ChangeShapes Go.WideShapes Go.ChangeAt Go.RowKit Go.Proofs.Ytadeidhefjifaaa.Px
set_option linter.unusedVariables false
set_option linter.unusedSimpArgs false
theorem ev_mono {α : Type} {f : Nat → Option α} {r : α} {K : Nat} (h : f K = some r) (hm : ∀ k, Go.Proofs.YtadeidhefjifaaaW.PrintWords.LeO (f k) (f (k + 1))) : Ev f r := by
  refine ⟨K, fun k hk => ?_⟩
  induction k with
  | zero => have : K = 0 := by omega
            rw [← this]; exact h
  | succ k ih =>
    by_cases e : K = k + 1
    · rw [← e]; exact h
    · exact hm k r (ih (by omega))
theorem ev_max {n : Int} {l : List S61} {s t : Int} (h : Px.Good n l s t) : ∃ fl c, Ev (fun k => flow_Max.f k n l s t) (fl, c, 0) ∧ FlowM.Opt S61.f0 S61.f1 S61.f2 n l s t fl (Cof c) ∧ (c.length : Int) = n := by
  obtain ⟨fl, c, h1, h2, h3⟩ := max_good 0 n l s t h
  exact ⟨fl, c, ev_mono h1 (fun k => flow_Max.mono n l s t k), h2, h3⟩
theorem ev_max_bad {n : Int} {l : List S61} {s t : Int} (h : ¬ Px.Good n l s t) : Ev (fun k => flow_Max.f k n l s t) ([], [], 180) := Ev.step (Ev.of _) (fun k => max_bad k n l s t h)
theorem ev_value {n : Int} {l : List S61} {s t : Int} (h : Px.Good n l s t) : ∃ fl c, Ev (fun k => sizarlaw18_value.f k n l s t) (outsG l fl s, true) ∧ FlowM.Opt S61.f0 S61.f1 S61.f2 n l s t fl (Cof c) ∧ (c.length : Int) = n := by
  obtain ⟨fl, c, hm, ho, hc⟩ := ev_max h
  refine ⟨fl, c, ?_, ho, hc⟩
  unfold sizarlaw18_value.f
  refine Ev.bind hm (Ev.bind (flow_val n s t l fl) ?_)
  rw [val_pos h ho.flow]
  exact Ev.pos rfl ((Ev.of _).eq (by simp))
theorem ev_value_bad {n : Int} {l : List S61} {s t : Int} (h : ¬ Px.Good n l s t) : Ev (fun k => sizarlaw18_value.f k n l s t) (0, false) := by
  unfold sizarlaw18_value.f
  refine Ev.bind (ev_max_bad h) (Ev.bind (flow_val n s t l []) ?_)
  rw [val_neg (fun hh => h hh.1)]
  exact Ev.neg (by decide) (Ev.of _)
theorem bnd_outs : ∀ (l : List S61) (fl : List Int) (v : Int), (∀ x ∈ l, x.f2 ≤ 1073741824) → BndG l fl → -(1073741824 * (l.length : Int)) ≤ outsG l fl v ∧ outsG l fl v ≤ 1073741824 * (l.length : Int)
  | [], [], v, _, _ => by simp [outsG, FlowM.outs]
  | [], _ :: _, v, _, h => h.elim
  | _ :: _, [], v, _, h => h.elim
  | x :: l, f :: fl, v, hx, h => by
    have ih := bnd_outs l fl v (fun y hy => hx y (by simp [hy])) h.2
    have := hx x (by simp)
    have := h.1
    simp only [outsG, FlowM.outs, List.length_cons] at ih ⊢
    split <;> split <;> omega
theorem same_l0 (a b : List Bool) (hl : a.length = b.length) (hn : a.length ≤ 4096) (he : ∀ v : Int, 0 ≤ v → v < a.length → Cof a v = Cof b v) : ∀ (g : Nat) (i : Int), 0 ≤ i → (a.length - i).toNat ≤ g → Ev (fun k => sizarref18_SameCut.l0 k a b i) true := by
  intro g
  induction g with
  | zero =>
    intro i i0 hg
    refine Ev.step ?_ (fun k => by rw [sizarref18_SameCut.l0])
    exact Ev.neg (by omega) (Ev.of _)
  | succ g ih =>
    intro i i0 hg
    refine Ev.step ?_ (fun k => by rw [sizarref18_SameCut.l0])
    by_cases hlt : i < (a.length : Int)
    · refine Ev.pos hlt (Ev.pos i0 (Ev.pos (by omega) (Ev.neg ?_ ?_)))
      · rw [cof_rd, cof_rd, he i i0 hlt]; simp
      · rw [wrap_id (i + 1) (by omega) (by omega)]; exact ih (i + 1) (by omega) (by omega)
    · exact Ev.neg hlt (Ev.of _)
theorem ev_same (a b : List Bool) (hl : a.length = b.length) (hn : a.length ≤ 4096) (he : ∀ v : Int, 0 ≤ v → v < a.length → Cof a v = Cof b v) : Ev (fun k => sizarref18_SameCut.f k a b) true := by
  unfold sizarref18_SameCut.f
  exact Ev.pos (by omega) (same_l0 a b hl hn he _ 0 (by omega) (Nat.le_refl _))
theorem and_mask (n : Int) : Go.bits .and .i64 n 1023 = n % 1024 := by
  have h127 : (BitVec.ofInt 64 1023).toNat = 2 ^ 10 - 1 := by decide
  have key : (BitVec.ofInt 64 n &&& BitVec.ofInt 64 1023).toNat = (n % ((2 ^ 64 : Nat) : Int)).toNat % 2 ^ 10 := by
    rw [BitVec.toNat_and, BitVec.toNat_ofInt, h127, Nat.and_two_pow_sub_one_eq_mod]
  show IntKind.i64.wrap ((BitVec.ofInt 64 n &&& BitVec.ofInt 64 1023).toNat : Nat) = n % 1024
  rw [key, IntKind.wrap_i64]
  omega
/-- an edge, its capacity multiplied -/
def scl (b : Int) (x : S61) : S61 := ⟨x.f0, x.f1, x.f2 * b⟩
theorem mul_range {x b : Int} (x0 : 0 ≤ x) (x1 : x ≤ 524288) (b0 : 1 ≤ b) (b1 : b ≤ 1024) : 0 ≤ x * b ∧ x * b ≤ 536870912 := by
  refine ⟨Int.mul_nonneg x0 (by omega), ?_⟩
  have h1 : x * b ≤ 524288 * b := Int.mul_le_mul_of_nonneg_right x1 (by omega)
  omega
theorem good_scl {n b : Int} {l : List S61} {s t : Int} (b0 : 1 ≤ b) (b1 : b ≤ 1024) (hc : ∀ x ∈ l, 0 ≤ x.f2 ∧ x.f2 ≤ 524288) : Px.Good n (l.map (scl b)) s t ↔ Px.Good n l s t := by
  constructor
  · intro h
    refine ⟨h.n2, h.n4, by have := h.m; simpa using this, fun x hx => ?_, h.f0, h.f1, h.t0, h.t1, h.ne⟩
    have := h.ends (scl b x) (List.mem_map.2 ⟨x, hx, rfl⟩)
    have hx := hc x hx
    exact ⟨this.1, this.2.1, this.2.2.1, hx.1, by omega⟩
  · intro h
    refine ⟨h.n2, h.n4, by have := h.m; simpa using this, fun y hy => ?_, h.f0, h.f1, h.t0, h.t1, h.ne⟩
    obtain ⟨x, hx, rfl⟩ := List.mem_map.1 hy
    have := h.ends x hx
    have hx := hc x hx
    have hm := mul_range hx.1 hx.2 b0 b1
    exact ⟨this.1, this.2.1, this.2.2.1, hm.1, by show x.f2 * b ≤ 1073741824; omega⟩
theorem set_mid (b : Int) (l : List S61) (i : Nat) (h : i < l.length) (y : S61) (hy : y = scl b l[i]) : ((l.take i).map (scl b) ++ l.drop i).set i y = (l.take (i + 1)).map (scl b) ++ l.drop (i + 1) := by
  have e : ((l.take i).map (scl b)).length = i := by rw [List.length_map, List.length_take]; omega
  rw [List.set_append_right _ _ (by omega), e, Nat.sub_self, List.take_succ_eq_append_getElem h, List.map_append, hy, List.append_assoc]
  congr 1
  conv => lhs; rw [List.drop_eq_getElem_cons h]
  rfl
theorem rd_mid (b : Int) (l : List S61) (i : Int) (i0 : 0 ≤ i) (h : i < l.length) : rd_T61 ((l.take i.toNat).map (scl b) ++ l.drop i.toNat) i = rd_T61 l i := by
  have e : ((l.take i.toNat).map (scl b)).length = i.toNat := by simp; omega
  unfold rd_T61
  rw [List.getD_eq_getElem?_getD, List.getElem?_append_right (by omega), e, Nat.sub_self, List.getD_eq_getElem?_getD]
  simp
theorem finish (n : Int) (l : List S61) (s t b : Int) (hl : l.length ≤ 60) (b0 : 1 ≤ b) (b1 : b ≤ 1024) (hc : ∀ x ∈ l, 0 ≤ x.f2 ∧ x.f2 ≤ 524288) :
    Ev (fun k => (flow_Max.f k n l s t).bind fun bt466 => ((flow_Max.f k n (l.map (scl b)) s t).bind fun bt473 => (if bt466.2.2 = 0 then (sizarlaw18_FlowScale.j1 k n l s t b (l.map (scl b)) bt466.2.1 bt466.2.2 bt473.2.1 bt473.2.2 (bt473.2.2 != 0)) else (sizarlaw18_FlowScale.j1 k n l s t b (l.map (scl b)) bt466.2.1 bt466.2.2 bt473.2.1 bt473.2.2 true)))) true := by
  by_cases h : Px.Good n l s t
  · have h' := (good_scl b0 b1 hc).2 h
    obtain ⟨fl, c, hm, ho, hn⟩ := ev_max h
    obtain ⟨fl', c', hm', ho', hn'⟩ := ev_max h'
    refine Ev.bind hm (Ev.bind hm' (Ev.pos rfl ?_))
    refine Ev.step ?_ (fun k => by rw [sizarlaw18_FlowScale.j1])
    refine Ev.neg (by simp) ?_
    obtain ⟨fv, cv, hv, hov, -⟩ := ev_value h
    obtain ⟨fv', cv', hv', hov', -⟩ := ev_value h'
    refine Ev.bind hv (Ev.bind hv' (Ev.pos rfl (Ev.pos rfl ?_)))
    have n0 : 0 ≤ n := by have := h.n2; omega
    have hE' : FlowM.Ends S61.f0 S61.f1 (fun x => S61.f2 x * b) n l := fun x hx => h'.ends (scl b x) (List.mem_map.2 ⟨x, hx, rfl⟩)
    have g' : FlowM.Opt S61.f0 S61.f1 (fun x => S61.f2 x * b) n l s t fl' (Cof c') := FlowM.Opt_map (scl b) ho'
    have sc := FlowM.scale b0 ho g' n0 h.ends hE' h.f0 h.f1
    have u1 := (FlowM.Opt.unique hov ho n0 h.ends h.f0 h.f1).1
    have u2 := (FlowM.Opt.unique hov' ho' n0 h'.ends h.f0 h.f1).1
    have e1 : outsG (l.map (scl b)) fl' s = outsG l fl' s := FlowM.outs_map (scl b) l fl' s
    have bd := bnd_outs (l.map (scl b)) fv' s (fun x hx => (h'.ends x hx).2.2.2.2) hov'.flow.bnd
    have e2 : outsG (l.map (scl b)) fv' s = outsG l fv s * b := by
      have e3 : outsG (l.map (scl b)) fv' s = outsG (l.map (scl b)) fl' s := u2
      have e4 : outsG l fv s = outsG l fl s := u1
      rw [e3, e1, e4]; exact sc.1
    rw [List.length_map] at bd
    refine Ev.pos ?_ (Ev.bind (ev_same c c' (by omega) (by have := h.n4; omega) (fun v v0 v1 => sc.2 v v0 (by omega))) (Ev.of _))
    show outsG (l.map (scl b)) fv' s = wrap64 (outsG l fv s * b)
    rw [e2] at bd ⊢
    rw [wrap_id _ (by omega) (by omega)]
  · have h' := mt (good_scl b0 b1 hc).1 h
    refine Ev.bind (ev_max_bad h) (Ev.bind (ev_max_bad h') (Ev.neg (by decide) ?_))
    refine Ev.step ?_ (fun k => by rw [sizarlaw18_FlowScale.j1])
    exact Ev.pos rfl ((Ev.of _).eq (by decide))
theorem loop (n : Int) (l : List S61) (s t b : Int) (hl : l.length ≤ 60) (b0 : 1 ≤ b) (b1 : b ≤ 1024) : ∀ (g : Nat) (i : Int), 0 ≤ i → i ≤ l.length → (l.length - i).toNat ≤ g → (∀ x ∈ l.take i.toNat, 0 ≤ x.f2 ∧ x.f2 ≤ 524288) →
    Ev (fun k => sizarlaw18_FlowScale.l0 k n l s t b ((l.take i.toNat).map (scl b) ++ l.drop i.toNat) (l.length : Int) i) true := by
  have hend : ∀ (i : Int), 0 ≤ i → i ≤ l.length → ¬ i < l.length → (∀ x ∈ l.take i.toNat, 0 ≤ x.f2 ∧ x.f2 ≤ 524288) → Ev (fun k => sizarlaw18_FlowScale.l0 k n l s t b ((l.take i.toNat).map (scl b) ++ l.drop i.toNat) (l.length : Int) i) true := by
    intro i i0 i1 hlt hx
    rw [List.take_of_length_le (by omega)] at hx
    rw [List.take_of_length_le (by omega), List.drop_eq_nil_of_le (by omega), List.append_nil]
    refine Ev.step ?_ (fun k => by rw [sizarlaw18_FlowScale.l0])
    exact Ev.neg hlt (finish n l s t b hl b0 b1 hx)
  intro g
  induction g with
  | zero => intro i i0 i1 hg hx; exact hend i i0 i1 (by omega) hx
  | succ g ih =>
    intro i i0 i1 hg hx
    by_cases hlt : i < l.length
    · have hr := rd_mid b l i i0 hlt
      have hlen : ((((l.take i.toNat).map (scl b) ++ l.drop i.toNat).length : Nat) : Int) = l.length := by simp; omega
      refine Ev.step ?_ (fun k => by rw [sizarlaw18_FlowScale.l0])
      refine Ev.pos hlt (Ev.pos i0 (Ev.pos (by omega) ?_))
      rw [hr]
      by_cases h1 : (rd_T61 l i).f2 < 0
      · exact Ev.pos h1 (Ev.of _)
      · refine Ev.neg h1 ?_
        by_cases h2 : (rd_T61 l i).f2 > 524288
        · exact Ev.pos h2 (Ev.of _)
        · refine Ev.neg h2 ?_
          have hm := mul_range (x := (rd_T61 l i).f2) (by omega) (by omega) b0 b1
          have hgi : rd_T61 l i = l[i.toNat]'(by omega) := by simp [rd_T61, List.getD, show i.toNat < l.length by omega]
          rw [wrap_id (i + 1) (by omega) (by omega), wrap_id ((rd_T61 l i).f2 * b) (by omega) (by omega), set_mid b l i.toNat (by omega) _ (by rw [← hgi]; rfl), show i.toNat + 1 = (i + 1).toNat by omega]
          refine ih (i + 1) (by omega) (by omega) (by omega) (fun x hx' => ?_)
          rw [show (i + 1).toNat = i.toNat + 1 by omega, List.take_succ_eq_append_getElem (show i.toNat < l.length by omega)] at hx'
          rcases List.mem_append.1 hx' with hx' | hx'
          · exact hx x hx'
          · obtain rfl := List.mem_singleton.1 hx'
            rw [← hgi]; omega
    · exact hend i i0 i1 hlt hx
theorem law (n : Int) (l : List S61) (s t by_ : Int) : ∃ k, sizarlaw18_FlowScale.f k n l s t by_ = some true := by
  refine Ev.at ?_
  unfold sizarlaw18_FlowScale.f
  refine Ev.bind (Ev.of true) (Ev.pos rfl ?_)
  have hF : ∃ b, sizarref18_Few.f n l = some b ∧ (b = true → l.length ≤ 60) := by
    unfold sizarref18_Few.f; split
    · exact ⟨_, rfl, fun h => by have := of_decide_eq_true h; omega⟩
    · exact ⟨_, rfl, fun h => by cases h⟩
  obtain ⟨b, hF, hlen⟩ := hF
  refine Ev.bind ((Ev.of b).congr fun _ => hF) ?_
  cases b with
  | false => exact Ev.neg (by decide) (Ev.of _)
  | true =>
    have hlen := hlen rfl
    refine Ev.pos rfl (Ev.bind (Ev.of _) (Ev.pos (by simp; omega) (Ev.bind (Ev.of _) ?_)))
    have hb : Go.bits .and .i64 by_ 1023 = by_ % 1024 := and_mask by_
    rw [hb, wrap_id (1 + by_ % 1024) (by omega) (by omega)]
    have := loop n l s t (1 + by_ % 1024) hlen (by omega) (by omega) _ 0 (by omega) (by omega) (Nat.le_refl _) (fun x hx => by simp at hx)
    simpa using this
theorem own : ownKnob Try.prog.godebug = none := by kernel_rfl
theorem laidOut : laidOutB Try.prog = true := by kernel_rfl
set_option maxRecDepth 100000 in
theorem lifted (os : Os) (started : os.Started) (H : Type) (enc : TypeId × Value → H) :
    ReturnsInHanded {} Try.checked os 10 .any (Rows.flowScaleSpec.pre6 enc Try.prog Try.f10 Rows.flowScaleRow.domain false) (Rows.flowScaleSpec.post enc Try.prog Try.f10 false true false false) := by
  refine returnsInHanded_of_change_sized (C := Try.checked) own started (by kernel_rfl) Try.func10
    (ChangeSpec.witness6 (enc := enc) (C := Try.checked) false ⟨#[], #[.int .i64 0, .slice none 0 0, .int .i64 0, .int .i64 0, .int .i64 0], []⟩ 8 (by kernel_rfl) (by kernel_rfl) (by kernel_rfl) (by kernel_rfl)) ?_
  intro W base args ds gs before hval0 hW hcnd hsz0 _
  have hval : ∀ (j : Nat) t v, Try.f10.params[j]? = some t → args[j]? = some v → Value.okWide Try.prog W .any base t v := hval0
  have hW' := hW
  obtain ⟨p, q, hA0, hV, rfl, hfz, hnd⟩ := hW
  have hA : DataW.TrodAll enc Try.prog W 0 (fun _ => true) true Try.f10.params.toList args.toList ds p := hA0
  rw [Try.params10] at hA hval
  obtain ⟨v0, vs0, d0, ds0, p0, q0, hargs, rfl, rfl, h0, r0⟩ := trodAll_cons hA
  obtain ⟨v1, vs1, d1, ds1, p1, q1, rfl, rfl, rfl, h1, r1⟩ := trodAll_cons r0
  obtain ⟨v2, vs2, d2, ds2, p2, q2, rfl, rfl, rfl, h2, r2⟩ := trodAll_cons r1
  obtain ⟨v3, vs3, d3, ds3, p3, q3, rfl, rfl, rfl, h3, r3⟩ := trodAll_cons r2
  obtain ⟨v4, vs4, d4, ds4, p4, q4, rfl, rfl, rfl, h4, r4⟩ := trodAll_cons r3
  obtain ⟨rfl, rfl, rfl⟩ := trodAll_nil r4
  obtain rfl : args = #[v0, v1, v2, v3, v4] := by cases args; simp_all
  obtain ⟨rfl, rfl⟩ := trodVars_none hV
  obtain ⟨a0, rfl, rfl, rfl, w0⟩ := open_int Try.underlying3 (hval 0 3 v0 rfl rfl) h0
  obtain ⟨a1, len1, cap1, rfl⟩ := okWide_slice Try.underlying22 (hval 1 22 v1 rfl rfl)
  have k1 := h1
  have lt1 : ∀ x ∈ p1, x.block < W.heap.size := by obtain ⟨m, hm⟩ := k1; exact DataW.trod_lt m _ _ _ hm
  obtain ⟨fuel1, hf1⟩ := h1
  have hf1 : DataW.trod enc Try.prog W 0 (fun _ => true) true fuel1 22 [.slice a1 len1 cap1] = some (d1, p1) := hf1
  have le1 := (len_le Try.underlying22 hf1).1
  obtain ⟨l1, e1, C1⟩ := open_edges hf1
  subst e1
  obtain ⟨a2, rfl, rfl, rfl, w2⟩ := open_int Try.underlying3 (hval 2 3 v2 rfl rfl) h2
  obtain ⟨a3, rfl, rfl, rfl, w3⟩ := open_int Try.underlying3 (hval 3 3 v3 rfl rfl) h3
  obtain ⟨a4, rfl, rfl, rfl, w4⟩ := open_int Try.underlying3 (hval 4 3 v4 rfl rfl) h4
  clear hA0 hval0 hsz0
  obtain ⟨k, hk⟩ := law a0 l1 a2 a3 a4
  refine (sizarlaw18_FlowScale.calls k a0 a1 cap1 l1 a2 a3 a4 true W C1 le1 hk).mono fun e W' ⟨he, bel⟩ => ?_
  subst he
  exact ⟨_, rfl, _, _, _, [], _, [], hW', trodAll_mk1 (shut_bool Try.underlying4 _), (trodAll_cons_mk (shut_int Try.underlying3 w0) (trodAll_cons_mk (Below.trod laidOut (by kernel_rfl) (of_decide_eq_true (by kernel_rfl)) k1 bel lt1) (trodAll_cons_mk (shut_int Try.underlying3 w2) (trodAll_cons_mk (shut_int Try.underlying3 w3) (trodAll_cons_mk (shut_int Try.underlying3 w4) trodAll_mk0))))), rfl, bel.frame _, fun h => by cases h⟩
theorem over : Rows.flowScaleRow.holds Try.pinned (OpenSpec.ofChange Rows.flowScaleSpec) :=
  OpenClaim.holds_of_wide 10 Try.f10 rfl rfl rfl rfl rfl rfl rfl ⟨rfl, rfl, rfl, rfl, rfl⟩ rfl rfl rfl rfl rfl (by kernel_rfl) Try.func10 (by kernel_rfl)
    (of_decide_eq_true (by kernel_rfl)) (by unfold Func.isWrapper; first | (rw [if_pos (by decide +kernel)]; kernel_rfl) | (rw [if_neg (by decide +kernel)]; exact ⟨rfl, rfl⟩))
    (fun os started H enc _ => lifted os started H enc)
theorem proved : Rows.FlowScaleSaid := over
end Go.Proofs.Ytadeidhefjifaaa.flowScale
namespace Go.Proofs.Ytadeidhefjifaaa
/-- The row, under a short name, for the claim. -/
theorem flowScale_holds : Rows.FlowScaleSaid := flowScale.proved
#print axioms flowScale_holds
end Go.Proofs.Ytadeidhefjifaaa

