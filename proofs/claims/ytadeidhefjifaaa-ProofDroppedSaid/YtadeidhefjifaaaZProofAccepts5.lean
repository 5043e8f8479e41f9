/- Parts of the proof of ProofAccepts, put together from several texts (words that the printing program wrote for this claim, walks, plain facts): the declarations that this law needs. -/
import Derived.Test.YtadeidhefjifaaaZProofAccepts4
import Derived.BigRegion
import Derived.Deep.RegionHeld3
import Derived.Laws.EntriesVeiled
import Derived.LoopIn
import Derived.LoopNIn
import Derived.OrdersHeld
import Derived.OrdersIn
import Derived.OwnWalkIn
import Derived.RangeFuncBound
import Derived.RangeFuncCalls
import Derived.RangeFuncLeaves
import Derived.RangeFuncNested
import Derived.RegionIn
import Derived.RegionTactic
import Derived.Shelf.Abstract
import Derived.Shelf.RegionOpen
import Derived.StillTail
import Derived.TacticsIn
import Derived.TacticsInMore
import Derived.WalkKit
section
set_option linter.unusedVariables false
set_option linter.unusedSimpArgs false
namespace Go.Proofs.Ytadeidhefjifaaa.Px
open Go.RowKit Go.Shelf Go.Proofs.YtadeidhefjifaaaW.PrintWords Go.Proofs.YtadeidhefjifaaaW.PrintLast Go.Proofs.YtadeidhefjifaaaW.PrintMore
attribute [local go_sem] Oper.semAt_some
/-- what a round keeps for the iterator: the memory before the call, and every block of cells but the loop's own and its rows -/
structure KpQ (B : Nat) (S : Nat → Prop) (W W' : World) : Prop where
  below : Below B W W'
  cells : ∀ (k : Nat) (cs : Array Value) (t : TypeId), ¬ S k → t ≠ 61 → t ≠ 57 → W.heap[k]? = some (.cells cs t (0, 0)) → W'.heap[k]? = some (.cells cs t (0, 0))
theorem KpQ.refl (B : Nat) (S : Nat → Prop) (W : World) : KpQ B S W W := ⟨Below.refl _ _, fun _ _ _ _ _ _ h => h⟩
theorem KpQ.trans {B : Nat} {S : Nat → Prop} {W1 W2 W3 : World} (h : KpQ B S W1 W2) (k : KpQ B S W2 W3) : KpQ B S W1 W3 := ⟨h.1.trans k.1, fun i cs t hi h1 h2 hc => k.2 i cs t hi h1 h2 (h.2 i cs t hi h1 h2 hc)⟩
theorem KpQ.of_below {B : Nat} {S : Nat → Prop} {W W' : World} (h : Below W.heap.size W W') (hB : B ≤ W.heap.size) : KpQ B S W W' := ⟨h.mono hB, fun k cs t _ _ _ ho => (h.block k (Array.getElem?_eq_some_iff.1 ho).1).trans ho⟩
theorem KpQ.put {B : Nat} {S : Nat → Prop} {W : World} {l : Nat} {o o' : Obj} (hB : B ≤ l) (h : W.heap[l]? = some o) (hc : o.isCells = false) : KpQ B S W (W.putObj l o') :=
  ⟨(Below.refl B W).grown (grownBy_putObj' W l o') (by have := (Array.getElem?_eq_some_iff.1 h).1; omega) (fun k e => by cases e; exact hB), fun k cs t _ _ _ hp => (World.putObj_heap_other (fun e => by subst e; rw [h] at hp; cases hp; cases hc)).trans hp⟩
/-- a row of numbers made after the loop began stays -/
theorem KpQ.row {B base : Nat} {S ok : Nat → Prop} {W W' : World} {v : Value} {xs : List Int} (h : KpQ B S W W') (hr : Kd.R (Kd.int .i64) 3 W base ok v xs) (hS : ∀ k, S k → k < base) : Kd.R (Kd.int .i64) 3 W' base (fun _ => True) v xs :=
  Kd.R_mono (Kd.R_step (Kd.R_bound hr) (fun k hk _ => by
    obtain ⟨_, hb, _, t, ht, cs, hcs⟩ := hk
    have ht' : t = 3 := by simpa [Kd.int, Kd.scalar] using ht
    subst ht'
    exact (h.cells k cs 3 (fun hs => by have := hS k hs; omega) (by decide) (by decide) hcs).trans hcs.symm)) (fun _ _ => trivial)
/-- the pairs of the first i attempts -/
def prsTo (q : List S92) (l : List S44) (i : Nat) : List (Int × Int) := (List.range i).flatMap fun (j : Nat) => (eligTo q (rd_T44 l j) q.length).map fun k => ((j : Int), k)
theorem prsTo_succ (q : List S92) (l : List S44) (i : Nat) : prsTo q l (i + 1) = prsTo q l i ++ (eligTo q (rd_T44 l i) q.length).map fun k => ((i : Int), k) := by
  unfold prsTo
  rw [List.range_succ, List.flatMap_append]
  simp
theorem prsTo_pre (q : List S92) (l : List S44) {i k : Nat} (h : i ≤ k) : prsTo q l i <+: prsTo q l k := by
  induction h with
  | refl => exact List.prefix_rfl
  | step h ih => exact ih.trans (by rw [prsTo_succ]; exact List.prefix_append _ _)
theorem prs_take (q : List S92) (l : List S44) {i t : Nat} (h : i < l.length) (x : Int) (hx : (eligTo q (rd_T44 l i) q.length)[t]? = some x) :
    prsTo q l i ++ ((eligTo q (rd_T44 l i) q.length).take t).map (fun k => ((i : Int), k)) ++ [((i : Int), x)] = prsTo q l i ++ ((eligTo q (rd_T44 l i) q.length).take (t + 1)).map (fun k => ((i : Int), k)) ∧
    prsTo q l i ++ ((eligTo q (rd_T44 l i) q.length).take (t + 1)).map (fun k => ((i : Int), k)) <+: prsTo q l l.length := by
  obtain ⟨ht, hx'⟩ := List.getElem?_eq_some_iff.1 hx
  refine ⟨?_, ?_⟩
  · rw [List.take_succ_eq_append_getElem ht, List.map_append, hx', List.append_assoc]; rfl
  · refine List.IsPrefix.trans ?_ (prsTo_pre q l (show i + 1 ≤ l.length from h))
    rw [prsTo_succ]
    exact (List.prefix_append_right_inj _).2 (List.IsPrefix.map _ (List.take_prefix _ _))
/-- the pairs, as a kind: a loop over them may lean on their bounds -/
abbrev PI (q : List S92) (l : List S44) := {x : Int × Int // x ∈ prsTo q l l.length}
set_option maxRecDepth 100000 in
set_option maxHeartbeats 8000000 in
theorem pairs1_in (m B l0 b1 b2 : Nat) (S : Nat → Prop) (hm : 1 ≤ m) (W : World) (Al Aq : Option Addr) (cl cq : Nat) (q : List S92) (l : List S44) (s0 : ByteArray) (i1 pu i3 i4 i5 : Int)
    (hR : ∀ W', Below B W W' → Kd.C k44 W' Al l.length l ∧ Kd.C k92 W' Aq q.length q) (hq : q.length ≤ 64) (hcq : q.length ≤ cq)
    (h1 : W.heap[b1]? = some (.cells #[.slice Al l.length cl] 42 (0, 0)))
    (h2 : W.heap[b2]? = some (.cells #[.string s0, .int .i64 i1, .int .i64 pu, .int .i64 i3, .int .i64 i4, .int .i64 i5, .slice Aq q.length cq] 41 (0, 0)))
    (n1 : ¬ S b1) (n2 : ¬ S b2) (hS : ∀ k, S k → k < W.heap.size) (hB : B ≤ W.heap.size)
    (J Jx : List (PI q l) → World → Prop)
    (hY : ∀ pre (x : PI q l) W1, J pre W1 → pre.length < (prsTo q l l.length).length → YieldAt Fence.wide (m - 1) Try.prog l0 (encP x.1) W1 fun e W' =>
      (e = .returned (.bool true) ∧ J (pre ++ [x]) W' ∧ KpQ B S W1 W') ∨ (e = .returned (.bool false) ∧ Jx (pre ++ [x]) W'))
    (hJa : ∀ pre W1 W2, J pre W1 → Below W1.heap.size W1 W2 → J pre W2) (h0 : J [] W) :
    CallsIn Fence.wide m Try.prog 78 #[.func (.yield l0) #[] #[], .pointer (some ⟨b1, 0, none⟩), .pointer (some ⟨b2, 0, none⟩)] W fun e W' => (∃ v, e = .returned v) ∧
      ((∃ ys : List (PI q l), ys.map Subtype.val = prsTo q l l.length ∧ J ys W') ∨ (∃ pre : List (PI q l), pre.map Subtype.val <+: prsTo q l l.length ∧ Jx pre W')) := by
  have hu41 := Try.underlying41
  have hu44 := Try.underlying44
  have c1 : W.cell? ⟨b1, 0, none⟩ = some (.slice Al l.length cl) := (blk_cell h1 0).trans rfl
  have hl0 := (hR W (Below.refl _ _)).1.2.1
  have hl1 : (l.length : Int) ≤ 9223372036854775807 := by omega
  have HY := Aside0.mk hY
  have HJ := Aside0.mk hJa
  have H0 := Aside0.mk h0
  have HR := Aside0.mk hR
  have HW := Aside0.mk (And.intro h1 h2)
  have HN := Aside0.mk (And.intro n1 n2)
  have HSS := Aside0.mk hS
  have HQ := Aside0.mk (And.intro hq hcq)
  clear hY hJa h0 hR h1 h2 n1 n2 hl0 hS hq hcq
  refine callsIn_of_wp Try.func78 rfl trivial ?_ rfl
  simp only [Try.ntmps78, List.size_toArray, List.length_cons, List.length_nil, Nat.reduceAdd, Nat.reduceSub, Array.replicate_succ, Array.replicate_zero, List.push_toArray, List.append_toArray, List.nil_append, List.cons_append]
  gi_wp2
  gi_loopw [10] (fun i wr => ∃ (k : Nat), k ≤ l.length ∧ i = .int .i64 k ∧ (∃ pre : List (PI q l), Aside0 (pre.map Subtype.val = prsTo q l k) ∧ Aside0 (J pre wr)) ∧ Aside0 (KpQ B S W wr)) (fun i _ => l.length - (intOf i).toNat)
  case atStart => exact ⟨0, by omega, rfl, ⟨[], ⟨rfl⟩, H0⟩, ⟨KpQ.refl _ _ _⟩⟩
  case round =>
    obtain ⟨k, hkl, rfl, ⟨pre1, HP1, HJ1⟩, HK⟩ := hrel
    by_cases hlt : k < l.length
    case neg =>
      have b0 : decide (k < l.length) = false := decide_eq_false hlt
      have hk : k = l.length := by omega
      subst hk
      gi_wp2
      go_end0
      exact ⟨⟨_, rfl⟩, .inl ⟨_, HP1.out, HJ1.out⟩⟩
    have b0 : decide (k < l.length) = true := decide_eq_true hlt
    have k2 := HK.out.cells b2 _ _ HN.out.2 (by decide) (by decide) HW.out.2
    obtain ⟨r44, r92⟩ := HR.out _ HK.out.1
    obtain ⟨ad, e, x0, x1, x2, x3, x4⟩ := at_T44 r44 k (by omega) (by omega)
    cases e
    rw [Int.toNat_natCast] at x0 x1 x2 x3 x4
    obtain ⟨a, ha⟩ : ∃ a, rd_T44 l k = a := ⟨_, rfl⟩
    rw [ha] at x0 x1 x2 x3 x4
    have HA := Aside0.mk ha
    have HBW := Aside0.mk (show B ≤ wr.heap.size from by have := HK.out.1.size; omega)
    have HWR := Aside0.mk (show W.heap.size ≤ wr.heap.size from HK.out.1.size)
    have c20 : wr.cell? ⟨b2, 0, none⟩ = some (.string s0) := (blk_cell k2 0).trans rfl
    have c21 : wr.cell? ⟨b2, 1, none⟩ = some (.int .i64 i1) := (blk_cell k2 1).trans rfl
    have c22 : wr.cell? ⟨b2, 2, none⟩ = some (.int .i64 pu) := (blk_cell k2 2).trans rfl
    have c23 : wr.cell? ⟨b2, 3, none⟩ = some (.int .i64 i3) := (blk_cell k2 3).trans rfl
    have c24 : wr.cell? ⟨b2, 4, none⟩ = some (.int .i64 i4) := (blk_cell k2 4).trans rfl
    have c25 : wr.cell? ⟨b2, 5, none⟩ = some (.int .i64 i5) := (blk_cell k2 5).trans rfl
    have c26 : wr.cell? ⟨b2, 6, none⟩ = some (.slice Aq q.length cq) := (blk_cell k2 6).trans rfl
    have t2 : b2 < wr.heap.size := (Array.getElem?_eq_some_iff.1 k2).1
    have HEL := Aside0.mk (show ∀ o, Calls Try.prog 79 #[.agg #[.string s0, .int .i64 i1, .int .i64 pu, .int .i64 i3, .int .i64 i4, .int .i64 i5, .slice Aq q.length cq], .agg #[.int .i64 a.f0, .int .i64 a.f1, .int .i64 a.f2, .int .i64 a.f3, .int .i64 a.f4]] (wr.alloc o)
      fun e w' => ∃ v, e = .returned v ∧ Kd.R (Kd.int .i64) 3 w' (wr.alloc o).heap.size (fun _ => True) v (eligTo q a q.length) ∧ Below (wr.alloc o).heap.size (wr.alloc o) w' from fun o => Elig79 s0 i1 pu i3 i4 i5 Aq cq q a (wr.alloc o) (Kd.C_alloc r92 o) HQ.out.2 HQ.out.1)
    clear ha r44 r92 k2
    gi_wp2_with fail
    refine ⟨trivial, (callsIn_wide.2 (HEL.out _)).mono ?_⟩
    rintro e W4 ⟨v, rfl, hrow, hb4⟩
    obtain ⟨Ak, ck, rfl⟩ := Kd.R_slice hrow
    have hba : Below wr.heap.size wr W4 := (below_alloc (Below.refl wr.heap.size wr) _).trans (hb4.mono (by simp))
    have HJ4 := Aside0.mk (HJ.out _ _ _ HJ1.out hba)
    have HK4 := Aside0.mk (HK.out.trans (KpQ.of_below hba HBW.out : KpQ B S wr W4))
    have HRW := Aside0.mk hrow
    have HSB := Aside0.mk (show ∀ x, S x → x < (wr.alloc (.cells #[.int .i64 a.f0, .int .i64 a.f1, .int .i64 a.f2, .int .i64 a.f3, .int .i64 a.f4] 44)).heap.size from fun x hx => by have := HSS.out x hx; have := HWR.out; simp only [World.size_alloc]; omega)
    generalize (wr.alloc (.cells #[.int .i64 a.f0, .int .i64 a.f1, .int .i64 a.f2, .int .i64 a.f3, .int .i64 a.f4] 44)).heap.size = base at HRW HSB
    have hks : (eligTo q a q.length).length ≤ 64 := by have := eligTo_len q a q.length; have := HQ.out.1; omega
    obtain ⟨ks, hkse⟩ : ∃ ks, eligTo q a q.length = ks := ⟨_, rfl⟩
    have HE := Aside0.mk (show eligTo q (rd_T44 l k) q.length = ks by rw [HA.out]; exact hkse)
    rw [hkse] at HRW hks ⊢
    have hm64 : (ks.length : Int) ≤ 64 := by omega
    clear hrow hb4 hba hkse HEL x0 x1 x2 x3 x4 c20 c21 c22 c23 c24 c25 c26 c1 t2 HJ1 HK HBW HWR
    gi_wp2_with fail
    gi_loopw [19] (fun v wi => ∃ (j : Nat), j ≤ ks.length ∧ v = .int .i64 j ∧ (∃ pre : List (PI q l), Aside0 (pre.map Subtype.val = prsTo q l k ++ (ks.take j).map fun x => ((k : Int), x)) ∧ Aside0 (J pre wi)) ∧ Aside0 (KpQ B S W wi) ∧ Aside0 (Kd.R (Kd.int .i64) 3 wi base (fun _ => True) (.slice Ak ks.length ck) ks)) (fun v _ => ks.length - (intOf v).toNat)
    case atStart => exact ⟨0, by omega, rfl, ⟨pre1, ⟨by simpa using HP1.out⟩, HJ4⟩, HK4, HRW⟩
    case round =>
      clear HJ4 HK4 HRW
      obtain ⟨j, hjk, rfl, ⟨pre3, HP3, HJ3⟩, HK3, HR3⟩ := hrel
      by_cases hjt : j < ks.length
      · have b2 : decide (j < ks.length) = true := decide_eq_true hjt
        obtain ⟨-, hkc, hC⟩ := Kd.R_reads' HR3.out
        obtain ⟨adk, e, z0⟩ := rd_atI hC (j : Int) (by omega) (by omega)
        cases e
        rw [Int.toNat_natCast] at z0
        have hjc : (j < ks.length) = True := eq_true hjt
        obtain ⟨x, hx⟩ : ∃ x, ks[j]? = some x := ⟨_, List.getElem?_eq_getElem hjt⟩
        have hrx : rd ks (j : Int) = x := by unfold rd; rw [Int.toNat_natCast, List.getD_eq_getElem?_getD, hx]; rfl
        rw [hrx] at z0
        have hpt := prs_take q l hlt x (t := j) (by rw [HE.out]; exact hx)
        rw [HE.out] at hpt
        have hmem : ((k : Int), x) ∈ prsTo q l l.length := hpt.2.subset (by rw [← hpt.1]; simp)
        have hmp : (pre3 ++ [(⟨((k : Int), x), hmem⟩ : PI q l)]).map Subtype.val = prsTo q l k ++ (ks.take (j + 1)).map (fun x => ((k : Int), x)) := by rw [List.map_append, HP3.out]; exact hpt.1
        have HP := Aside0.mk (And.intro hmp hpt.2)
        have hyy := HY.out _ (⟨((k : Int), x), hmem⟩ : PI q l) wr HJ3.out (by
          have h_ := pre_lt (x := ((k : Int), x)) (by rw [hpt.1]; exact hpt.2)
          rw [← HP3.out, List.length_map] at h_; exact h_)
        clear hmp
        obtain ⟨fn, tmps, assign, body, hy, hR⟩ := hyy
        unfold encP at hy
        have HRR := Aside0.mk hR
        clear hR hC hx hrx hpt
        gi_wp2_with fail
        refine HRR.out.mono ?_
        rintro e W5 (⟨rfl, hJ5, hk5⟩ | ⟨rfl, hJx5⟩)
        · have HJ5 := Aside0.mk hJ5
          have HK5 := Aside0.mk (HK3.out.trans hk5)
          have HR5 := Aside0.mk (hk5.row HR3.out HSB.out)
          clear hJ5 hk5
          gi_wp2
          go_roundw
          case rel => exact ⟨j + 1, by omega, by simp, ⟨_, ⟨HP.out.1⟩, HJ5⟩, HK5, HR5⟩
          case measure => simp [intOf]; omega
        · have HJ5 := Aside0.mk hJx5
          clear hJx5
          gi_wp2
          refine bodyPost_ret (results_none rfl _ _ _) rfl ?_
          exact ⟨⟨_, rfl⟩, .inr ⟨_, by rw [HP.out.1]; exact HP.out.2, HJ5.out⟩⟩
      · have b2 : decide (j < ks.length) = false := decide_eq_false hjt
        have hj : j = ks.length := by omega
        subst hj
        have hp3 := HP3.out
        rw [List.take_length, ← HE.out, ← prsTo_succ] at hp3
        have HP6 := Aside0.mk hp3
        clear hp3
        gi_wp2
        go_roundw
        case rel => exact ⟨k + 1, by omega, by simp, ⟨_, HP6, HJ3⟩, HK3⟩
        case measure => simp [intOf]; omega
set_option maxRecDepth 100000 in
theorem pairs_in (W : World) (s0 : ByteArray) (i1 pu i3 i4 i5 : Int) (Aq : Option Addr) (nq cq : Nat) (A : Option Addr) (n c : Nat) (m : Nat) :
    CallsIn Fence.wide m Try.prog 63 #[.agg #[.string s0, .int .i64 i1, .int .i64 pu, .int .i64 i3, .int .i64 i4, .int .i64 i5, .slice Aq nq cq], .slice A n c] W
      fun e W' => e = .returned (.func (.func 78) #[] #[.pointer (some ⟨W.heap.size + 1, 0, none⟩), .pointer (some ⟨W.heap.size, 0, none⟩)]) ∧
        W' = (W.alloc (.cells #[.string s0, .int .i64 i1, .int .i64 pu, .int .i64 i3, .int .i64 i4, .int .i64 i5, .slice Aq nq cq] 41)).alloc (.cells #[.slice A n c] 42) := by
  have hu41 := Try.underlying41
  refine callsIn_of_wp Try.func63 rfl trivial ?_ rfl
  simp only [Try.ntmps63, List.size_toArray, List.length_cons, List.length_nil, Nat.reduceAdd, Nat.reduceSub, Array.replicate_succ, Array.replicate_zero, List.push_toArray, List.append_toArray, List.nil_append, List.cons_append]
  gi_wp2
  refine bodyPost_ret (results_tmp rfl _ _ _) rfl ?_
  exact ⟨rfl, rfl⟩
end Go.Proofs.Ytadeidhefjifaaa.Px
end
section
set_option linter.unusedVariables false
set_option linter.unusedSimpArgs false
namespace Go.Proofs.Ytadeidhefjifaaa.Px
open Go.RowKit Go.Shelf Go.Proofs.YtadeidhefjifaaaW.PrintWords Go.Proofs.YtadeidhefjifaaaW.PrintLast Go.Proofs.YtadeidhefjifaaaW.PrintMore
/-- the edges to the first k attempts -/
def srcE (l : List S44) (pu : Int) (k : Nat) : List S61 := (List.range k).map fun (j : Nat) => ⟨0, 1 + (j : Int), wrap64 ((rd_T44 l j).f4 * pu)⟩
/-- the edge of a pair -/
def midE (l : List S44) (x : Int × Int) : S61 := ⟨1 + x.1, 1 + (l.length : Int) + x.2, (rd_T44 l x.1).f4⟩
/-- the edges from the first k requirements -/
def snkE (q : List S92) (l : List S44) (k : Nat) : List S61 := (List.range k).map fun (j : Nat) => ⟨1 + (l.length : Int) + (j : Int), 1 + (l.length : Int) + (q.length : Int), (rd_T92 q j).f1⟩
/-- all edges -/
def netE (q : List S92) (l : List S44) (pu : Int) : List S61 := srcE l pu l.length ++ (prsTo q l l.length).map (midE l) ++ snkE q l q.length
theorem srcE_succ (l : List S44) (pu : Int) (k : Nat) : srcE l pu (k + 1) = srcE l pu k ++ [⟨0, 1 + (k : Int), wrap64 ((rd_T44 l k).f4 * pu)⟩] := by
  unfold srcE; rw [List.range_succ, List.map_append]; rfl
theorem snkE_succ (q : List S92) (l : List S44) (k : Nat) : snkE q l (k + 1) = snkE q l k ++ [⟨1 + (l.length : Int) + (k : Int), 1 + (l.length : Int) + (q.length : Int), (rd_T92 q k).f1⟩] := by
  unfold snkE; rw [List.range_succ, List.map_append]; rfl
theorem prsTo_len (q : List S92) (l : List S44) (hq : q.length ≤ 64) : ∀ k, (prsTo q l k).length ≤ 64 * k
  | 0 => by simp [prsTo]
  | k + 1 => by
    have := prsTo_len q l hq k
    have := eligTo_len q (rd_T44 l k) q.length
    rw [prsTo_succ, List.length_append, List.length_map]; omega
theorem prsTo_mem {q : List S92} {l : List S44} {k : Nat} {x : Int × Int} (h : x ∈ prsTo q l k) : 0 ≤ x.1 ∧ x.1 < k ∧ 0 ≤ x.2 ∧ x.2 < q.length ∧ eligB (rd_T92 q x.2) (rd_T44 l x.1) = true := by
  unfold prsTo at h
  simp only [List.mem_flatMap, List.mem_range, List.mem_map] at h
  obtain ⟨j, hj, y, hy, rfl⟩ := h
  unfold eligTo at hy
  simp only [List.mem_flatMap, List.mem_range] at hy
  obtain ⟨i, hi, hy⟩ := hy
  split at hy
  · rename_i he
    simp only [List.mem_singleton] at hy
    subst hy
    exact ⟨by omega, by simp; omega, by omega, by simp; omega, he⟩
  · cases hy
theorem ask_len {n u e mn md : Int} {q : List S92} {l : List S44} (h : askV n u e mn md q l = 0) : q.length ≤ 64 := by
  unfold askV at h
  split at h
  · rename_i h1
    unfold degV at h1
    split at h1
    · rename_i h2
      simp only [Bool.and_eq_true, decide_eq_true_eq] at h2
      omega
    · cases h1
  · rename_i h1; exact absurd h h1
end Go.Proofs.Ytadeidhefjifaaa.Px
end
section
namespace Go.Proofs.Ytadeidhefjifaaa.Px
open Go
section
variable {P : Program} {ops : Array Oper} {Q : Exit → Act → World → Prop} {md : Region.Mode} {S : World → Prop} {L : Nat}
/-- Whatever order is picked, S holding behind every operation but number L. -/
def wpAnyT (P : Program) (md : Region.Mode) (ops : Array Oper) (Q : Exit → Act → World → Prop) (S : World → Prop) (L : Nat) : Nat → Array Bool → Act → World → Prop
  | 0, listed, a, w => Region.ready md ops listed = [] ∧ Q .normal a w
  | fuel + 1, listed, a, w =>
    (Region.ready md ops listed = [] → Q .normal a w) ∧
    ∀ i ∈ Region.ready md ops listed, wpOp P ops Q i (fun a' w' => (i = L ∨ S w') ∧ wpAnyT P md ops Q S L fuel (listed.setIfInBounds i true) a' w') a w
theorem wpAny_of_T : ∀ (fuel : Nat) (listed : Array Bool) (a : Act) (w : World), wpAnyT P md ops Q S L fuel listed a w → wpAny P md ops Q fuel listed a w
  | 0, _, _, _, h => h
  | fuel + 1, _, _, _, h => ⟨h.1, fun i hi => wpOp_mono (fun _ _ h' => wpAny_of_T fuel _ _ _ h'.2) (h.2 i hi)⟩
/-- operation L waits for each that lies before it -/
def lastWaits (md : Region.Mode) (ops : Array Oper) (L : Nat) : Bool := (List.range L).all fun i => Region.waitsFor md ops L i
theorem not_ready_last {i : Nat} {listed : Array Bool} (hl : lastWaits md ops L = true) (hi : i < L) (hun : listed.getD i true = false) : L ∉ Region.ready md ops listed := by
  intro hr
  obtain ⟨_, oL, hoL, hall⟩ := mem_ready.1 hr
  have h1 := List.all_eq_true.1 hl i (List.mem_range.2 hi)
  obtain ⟨oj, hoj, e, he, hb, hon⟩ := Region.waitsFor_spec h1
  have : oj = oL := Option.some.inj (hoj.symm.trans hoL)
  subst this
  have h2 := hall e he hb
  rw [hon] at h2
  rcases Nat.lt_or_ge i listed.size with h' | h'
  · simp [h'] at hun h2; rw [hun] at h2; cases h2
  · simp [Array.getElem?_eq_none h'] at hun
theorem wpAnyT_first {i : Nat} {oi : Oper} {v : Value} (hl : lastWaits md ops L = true) (hiL : i < L) (hi : ops[i]? = some oi) (hsel : ∀ (j : Nat) (o : Oper) cs b, ops[j]? = some o → o.op ≠ .select cs b)
    (hQ : ∀ c a w, Q (.panic c) (a.put oi.dst v) w → Q (.panic c) a w) :
    ∀ (fuel : Nat) (listed : Array Bool) (a : Act) (w : World),
      (∀ j oj, ops[j]? = some oj → j ≠ i → listed.getD j true = false → (∀ e ∈ oj.after, Region.binds md e = true → e.on ≠ i) → oi.apart ops oj = true) →
      i ∈ Region.ready md ops listed → YieldsIf P ops S oi v a → S w →
      wpAnyT P md ops Q S L fuel (listed.setIfInBounds i true) (a.put oi.dst v) w → wpAnyT P md ops Q S L (fuel + 1) listed a w := by
  intro fuel
  induction fuel with
  | zero =>
    intro listed a w _ hr hy hS H
    refine ⟨fun h => (by rw [h] at hr; cases hr), fun j hj => ?_⟩
    by_cases hji : j = i
    · subst hji; exact hy.wpOp hi hS ⟨.inr hS, H⟩
    · have := ready_mono hj hji
      rw [H.1] at this
      cases this
  | succ fuel ih =>
    intro listed a w hfree hr hy hS H
    refine ⟨fun h => (by rw [h] at hr; cases hr), fun j hj => ?_⟩
    by_cases hji : j = i
    · subst hji; exact hy.wpOp hi hS ⟨.inr hS, H⟩
    · have h1 := H.2 j (ready_mono hj hji)
      obtain ⟨hjun, oj, hoj, hall⟩ := mem_ready.1 hj
      have hjL : j ≠ L := fun e => not_ready_last hl hiL (mem_ready.1 hr).1 (e ▸ hj)
      have hnot : ∀ e ∈ oj.after, Region.binds md e = true → e.on ≠ i := fun e he hb heq => by
        have h1 := hall e he hb
        have h0 := (mem_ready.1 hr).1
        rw [heq] at h1
        rcases Nat.lt_or_ge i listed.size with h' | h'
        · simp [h'] at h0 h1; rw [h0] at h1; cases h1
        · simp [Array.getElem?_eq_none h'] at h1
      have h2 := wpOp_putIf hoj (hfree j oj hoj hji hjun hnot) (fun cs b => hsel i oi cs b hi) (fun cs b => hsel j oj cs b hoj) hQ hy h1
      have hfree' : ∀ k ok, ops[k]? = some ok → k ≠ i → (listed.setIfInBounds j true).getD k true = false →
          (∀ e ∈ ok.after, Region.binds md e = true → e.on ≠ i) → oi.apart ops ok = true := fun k ok hk hki hun hno => by
        refine hfree k ok hk hki ?_ hno
        by_cases hjk : j = k
        · subst hjk; exact hjun
        · rw [getD_set_ne true hjk] at hun; exact hun
      refine wpOp_mono (fun a' w' h3 => ?_) h2
      have hS' : S w' := h3.2.1.resolve_left hjL
      refine ⟨.inr hS', ih (listed.setIfInBounds j true) a' w' hfree' (ready_mono hr (Ne.symm hji)) h3.1 hS' ?_⟩
      rw [Array.setIfInBounds_comm _ _ hji]
      exact h3.2.2
/-- Take number i first. -/
theorem wpAnyT_take {i : Nat} {oi : Oper} {v : Value} {fuel : Nat} {listed : Array Bool} {a : Act} {w : World} (hl : lastWaits md ops L = true) (hiL : i < L) (hi : ops[i]? = some oi)
    (hs : Region.noSelect ops = true) (hf : Region.free md ops listed i = true) (hr : (Region.ready md ops listed).contains i = true)
    (hQ : ∀ c a w, Q (.panic c) (a.put oi.dst v) w → Q (.panic c) a w) (hy : YieldsIf P ops S oi v a) (hS : S w)
    (h : wpAnyT P md ops Q S L fuel (listed.setIfInBounds i true) (a.put oi.dst v) w) : wpAnyT P md ops Q S L (fuel + 1) listed a w :=
  wpAnyT_first hl hiL hi (Region.noSelect_spec hs) hQ fuel listed a w (Region.free_spec hi hf) (by simpa using hr) hy hS h
/-- One operation alone may come up. -/
theorem wpAnyT_one {i : Nat} {oi : Oper} {fuel : Nat} {listed : Array Bool} {a : Act} {w : World} (hi : ops[i]? = some oi) (hg : oi.guard = none) (hr : Region.ready md ops listed = [i])
    (h : oi.wp P a w (fun a' w' => (i = L ∨ S w') ∧ wpAnyT P md ops Q S L fuel (listed.setIfInBounds i true) a' w') Q) : wpAnyT P md ops Q S L (fuel + 1) listed a w := by
  refine ⟨fun h0 => (by rw [hr] at h0; cases h0), fun j hj => ?_⟩
  rw [hr] at hj
  obtain rfl := List.mem_singleton.1 hj
  unfold wpOp
  simp only [hi]
  rw [if_pos (by unfold Region.wanted; rw [hg])]
  exact .inl h
theorem wpAnyT_done {listed : Array Bool} {a : Act} {w : World} (hr : Region.ready md ops listed = []) (h : Q .normal a w) :
    ∀ fuel, wpAnyT P md ops Q S L fuel listed a w
  | 0 => ⟨hr, h⟩
  | _ + 1 => ⟨fun _ => h, by rw [hr]; simp⟩
theorem wp_region_T {id : Nat} {a : Act} {w : World} (hm : P.follows .mixedOrders = true) (S : World → Prop) (L : Nat)
    (h : wpAnyT P .any ops Q S L ops.size (Array.replicate ops.size false) a w.drew) : (Code.region id ops true).wp P Q a w :=
  wp_region_any hm (wpAny_of_T _ _ _ _ h)
end
end Go.Proofs.Ytadeidhefjifaaa.Px
end
section
set_option linter.unusedVariables false
set_option linter.unusedSimpArgs false
namespace Go.Proofs.Ytadeidhefjifaaa.Px
open Go
section
variable {P : Program} {ops : Array Oper} {Q : Exit → Act → World → Prop} {md : Region.Mode} {S : World → Prop} {L : Nat}
/-- the operation's run hands back a value, or nothing -/
def opV (P : Program) (ops : Array Oper) (i : Nat) (K : Act → World → Prop) (a : Act) (w : World) : Prop :=
  match ops[i]? with
  | none => K a w
  | some o => if Region.wanted o (yielded ops a.tmps) = true then ((∃ v w', (execOp a.eval o).run P w = .ok (.value v) w' ∧ K (a.put o.dst v) w') ∨ (∃ w', (execOp a.eval o).run P w = .ok .skip w' ∧ K (a.put o.dst undef) w')) else K (a.put o.dst undef) w
theorem opV_mono {i : Nat} {a : Act} {w : World} {K K' : Act → World → Prop} (h : ∀ a w, K a w → K' a w) (hh : opV P ops i K a w) : opV P ops i K' a w := by
  unfold opV at *
  split
  · rename_i ho; rw [ho] at hh; exact h _ _ hh
  · rename_i o ho
    rw [ho] at hh
    simp only at hh
    split
    · rename_i hw
      rw [if_pos hw] at hh
      rcases hh with ⟨v, w', e, k⟩ | ⟨w', e, k⟩
      · exact .inl ⟨v, w', e, h _ _ k⟩
      · exact .inr ⟨w', e, h _ _ k⟩
    · rename_i hw
      rw [if_neg hw] at hh
      exact h _ _ hh
theorem opV_in {F : Fence} {n i : Nat} {a : Act} {w : World} {K : Act → World → Prop} (hF : ∀ f, F.fn f) (hd : ∀ o, ops[i]? = some o → ∀ c, o.op ≠ .defer c) (h : opV P ops i K a w) : wpOpIn F n P ops Q i K a w := by
  unfold opV at h
  unfold Go.wpOpIn
  cases ho : ops[i]? with
  | none => rw [ho] at h; exact h
  | some o =>
    rw [ho] at h
    simp only at h ⊢
    have hs : o.semAt F.round a.eval = execOp a.eval o := Oper.semAt_eq _ _ o (hd o ho)
    by_cases hw : Region.wanted o (yielded ops a.tmps) = true
    · rw [if_pos hw] at h ⊢
      refine ⟨fun f _ => hF f, ?_⟩
      rw [hs]
      rcases h with ⟨v, w', e, k⟩ | ⟨w', e, k⟩
      · rw [e]; exact k
      · rw [e]; exact k
    · rw [if_neg hw] at h ⊢
      exact ⟨fun f _ => hF f, h⟩
/-- Whatever order is picked. -/
def wpAnyV (P : Program) (md : Region.Mode) (ops : Array Oper) (Q : Exit → Act → World → Prop) (S : World → Prop) (L : Nat) : Nat → Array Bool → Act → World → Prop
  | 0, listed, a, w => Region.ready md ops listed = [] ∧ Q .normal a w
  | fuel + 1, listed, a, w =>
    (Region.ready md ops listed = [] → Q .normal a w) ∧
    ∀ i ∈ Region.ready md ops listed, opV P ops i (fun a' w' => (i = L ∨ S w') ∧ wpAnyV P md ops Q S L fuel (listed.setIfInBounds i true) a' w') a w
theorem opV_put {j : Nat} {oi oj : Oper} {v : Value} (hj : ops[j]? = some oj) (hap : oi.apart ops oj = true)
    (hsi : ∀ cs b, oi.op ≠ .select cs b) (hsj : ∀ cs b, oj.op ≠ .select cs b) {K : Act → World → Prop} {a : Act} {w : World}
    (hy : YieldsIf P ops S oi v a) (h : opV P ops j K (a.put oi.dst v) w) : opV P ops j (fun a' w' => YieldsIf P ops S oi v a' ∧ K (a'.put oi.dst v) w') a w := by
  obtain ⟨h1, h2, h3⟩ := Oper.apart_spec hap
  have keep : ∀ u, YieldsIf P ops S oi v (a.put oj.dst u) := fun u => hy.of_same (execOp_put oi hsi a oj.dst u h3) (wanted_put oi a oj.dst u h3)
  unfold opV at *
  simp only [hj] at *
  rw [wanted_put oj a oi.dst v h1, execOp_put oj hsj a oi.dst v h1] at h
  by_cases hw : Region.wanted oj (yielded ops a.tmps) = true
  · rw [if_pos hw] at h ⊢
    rcases h with ⟨u, w', e, k⟩ | ⟨w', e, k⟩
    · exact .inl ⟨u, w', e, keep u, by rw [← Act.put_comm a v u h2]; exact k⟩
    · exact .inr ⟨w', e, keep _, by rw [← Act.put_comm a v undef h2]; exact k⟩
  · rw [if_neg hw] at h ⊢
    exact ⟨keep _, by rw [← Act.put_comm a v undef h2]; exact h⟩
theorem opV_yields {i : Nat} {o : Oper} {v : Value} {a : Act} (hi : ops[i]? = some o) (hy : YieldsIf P ops S o v a) {K : Act → World → Prop} {w : World} (hS : S w) (h : K (a.put o.dst v) w) : opV P ops i K a w := by
  unfold opV
  simp only [hi]
  rcases hy with ⟨hw, hv⟩ | ⟨hw, rfl⟩
  · rw [if_pos hw]; exact .inl ⟨v, w, hv w hS, h⟩
  · rw [if_neg (by rw [hw]; decide)]; exact h
theorem wpAnyV_first {i : Nat} {oi : Oper} {v : Value} (hl : lastWaits md ops L = true) (hiL : i < L) (hi : ops[i]? = some oi) (hsel : ∀ (j : Nat) (o : Oper) cs b, ops[j]? = some o → o.op ≠ .select cs b) :
    ∀ (fuel : Nat) (listed : Array Bool) (a : Act) (w : World),
      (∀ j oj, ops[j]? = some oj → j ≠ i → listed.getD j true = false → (∀ e ∈ oj.after, Region.binds md e = true → e.on ≠ i) → oi.apart ops oj = true) →
      i ∈ Region.ready md ops listed → YieldsIf P ops S oi v a → S w →
      wpAnyV P md ops Q S L fuel (listed.setIfInBounds i true) (a.put oi.dst v) w → wpAnyV P md ops Q S L (fuel + 1) listed a w := by
  intro fuel
  induction fuel with
  | zero =>
    intro listed a w _ hr hy hS H
    refine ⟨fun h => (by rw [h] at hr; cases hr), fun j hj => ?_⟩
    by_cases hji : j = i
    · subst hji; exact opV_yields hi hy hS ⟨.inr hS, H⟩
    · have := ready_mono hj hji
      rw [H.1] at this
      cases this
  | succ fuel ih =>
    intro listed a w hfree hr hy hS H
    refine ⟨fun h => (by rw [h] at hr; cases hr), fun j hj => ?_⟩
    by_cases hji : j = i
    · subst hji; exact opV_yields hi hy hS ⟨.inr hS, H⟩
    · have h1 := H.2 j (ready_mono hj hji)
      obtain ⟨hjun, oj, hoj, hall⟩ := mem_ready.1 hj
      have hjL : j ≠ L := fun e => not_ready_last hl hiL (mem_ready.1 hr).1 (e ▸ hj)
      have hnot : ∀ e ∈ oj.after, Region.binds md e = true → e.on ≠ i := fun e he hb heq => by
        have h1 := hall e he hb
        have h0 := (mem_ready.1 hr).1
        rw [heq] at h1
        rcases Nat.lt_or_ge i listed.size with h' | h'
        · simp [h'] at h0 h1; rw [h0] at h1; cases h1
        · simp [Array.getElem?_eq_none h'] at h1
      have h2 := opV_put hoj (hfree j oj hoj hji hjun hnot) (fun cs b => hsel i oi cs b hi) (fun cs b => hsel j oj cs b hoj) hy h1
      have hfree' : ∀ k ok, ops[k]? = some ok → k ≠ i → (listed.setIfInBounds j true).getD k true = false →
          (∀ e ∈ ok.after, Region.binds md e = true → e.on ≠ i) → oi.apart ops ok = true := fun k ok hk hki hun hno => by
        refine hfree k ok hk hki ?_ hno
        by_cases hjk : j = k
        · subst hjk; exact hjun
        · rw [getD_set_ne true hjk] at hun; exact hun
      refine opV_mono (fun a' w' h3 => ?_) h2
      have hS' : S w' := h3.2.1.resolve_left hjL
      refine ⟨.inr hS', ih (listed.setIfInBounds j true) a' w' hfree' (ready_mono hr (Ne.symm hji)) h3.1 hS' ?_⟩
      rw [Array.setIfInBounds_comm _ _ hji]
      exact h3.2.2
/-- Take number i first. -/
theorem wpAnyV_take {i : Nat} {oi : Oper} {v : Value} {fuel : Nat} {listed : Array Bool} {a : Act} {w : World} (hl : lastWaits md ops L = true) (hiL : i < L) (hi : ops[i]? = some oi)
    (hs : Region.noSelect ops = true) (hf : Region.free md ops listed i = true) (hr : (Region.ready md ops listed).contains i = true) (hy : YieldsIf P ops S oi v a) (hS : S w)
    (h : wpAnyV P md ops Q S L fuel (listed.setIfInBounds i true) (a.put oi.dst v) w) : wpAnyV P md ops Q S L (fuel + 1) listed a w :=
  wpAnyV_first hl hiL hi (Region.noSelect_spec hs) fuel listed a w (Region.free_spec hi hf) (by simpa using hr) hy hS h
/-- One operation alone may come up. -/
theorem wpAnyV_one {i : Nat} {fuel : Nat} {listed : Array Bool} {a : Act} {w : World} (hr : Region.ready md ops listed = [i])
    (h : opV P ops i (fun a' w' => (i = L ∨ S w') ∧ wpAnyV P md ops Q S L fuel (listed.setIfInBounds i true) a' w') a w) : wpAnyV P md ops Q S L (fuel + 1) listed a w := by
  refine ⟨fun h0 => (by rw [hr] at h0; cases h0), fun j hj => ?_⟩
  rw [hr] at hj
  obtain rfl := List.mem_singleton.1 hj
  exact h
theorem wpAnyV_done {listed : Array Bool} {a : Act} {w : World} (hr : Region.ready md ops listed = []) (h : Q .normal a w) : ∀ fuel, wpAnyV P md ops Q S L fuel listed a w
  | 0 => ⟨hr, h⟩
  | _ + 1 => ⟨fun _ => h, by rw [hr]; simp⟩
theorem wpAnyIn_of_V {F : Fence} {n : Nat} (hF : ∀ f, F.fn f) (hd : ∀ (i : Nat) (o : Oper), ops[i]? = some o → ∀ c, o.op ≠ Op.defer c) : ∀ (fuel : Nat) (listed : Array Bool) (a : Act) (w : World), wpAnyV P md ops Q S L fuel listed a w → wpAnyIn F n P md ops Q fuel listed a w
  | 0, _, _, _, h => h
  | fuel + 1, _, _, _, h => ⟨h.1, fun i hi => opV_in hF (hd i) (opV_mono (fun _ _ h' => wpAnyIn_of_V hF hd fuel _ _ _ h'.2) (h.2 i hi))⟩
theorem wpIn_region_V {F : Fence} {n : Nat} {id : Nat} {a : Act} {w : World} (hm : P.follows .mixedOrders = true) (hF : ∀ f, F.fn f) (hd : ∀ (i : Nat) (o : Oper), ops[i]? = some o → ∀ c, o.op ≠ Op.defer c) (S : World → Prop) (L : Nat)
    (h : wpAnyV P .any ops Q S L ops.size (Array.replicate ops.size false) a w.drew) : (Code.region id ops true).wpIn F n P Q a w :=
  wpIn_region_any hm (wpAnyIn_of_V hF hd _ _ _ _ h)
end
end Go.Proofs.Ytadeidhefjifaaa.Px
end
section
set_option linter.unusedVariables false
set_option linter.unusedSimpArgs false
namespace Go.Proofs.Ytadeidhefjifaaa.Px
open Go.RowKit Go.Shelf Go.Proofs.YtadeidhefjifaaaW.PrintWords Go.Proofs.YtadeidhefjifaaaW.PrintLast Go.Proofs.YtadeidhefjifaaaW.PrintMore
theorem QIn_app {α : Type} (d : Kd α) {F : Fence} {n : Nat} {W : World} {ops : Array Oper} {rest : List Oper} {o : Oper} {a : Act} {Q : Exit → Act → World → Prop}
    (t e : TypeId) (z : Value) (bytes : Nat) (ht : Try.prog.underlying t = some (.slice e)) (hinfo : (Try.prog.info? e).map (fun i => (i.zero, i.size, i.bytes)) = some (some z, d.sz, bytes)) (hz : z.cells.size = d.sz) (hs0 : 0 < d.sz) (hb0 : 0 < bytes)
    (hgd : o.guard = none) (s x : Operand) (hop : o.op = Op.call { callee := Callee.builtin Builtin.append, args := #[s, x], argTypes := #[t, t] })
    (B : Nat) (v : Value) (xs : List α) (p : α) (cs : List Value) (ok : Nat → Prop) (hs : a.eval s = v) (hx : a.eval x = .slice (some ⟨W.heap.size, 0, none⟩) 1 1) (hp : d.M W B (fun _ => False) p cs) (hfresh : ∀ k, W.heap.size ≤ k → ok k)
    (HO : Kd.Q d e W B ok v xs) (hbase : B ≤ W.heap.size) (hl : (xs.length + 1) * bytes ≤ 140737488355328)
    (hK : ∀ v1 w1, Kd.Q d e w1 B ok v1 (xs ++ [p]) → W.grownBy w1 v.ownBlock → (∃ A m c, v1 = .slice A m c) → wpListIn F n Try.prog ops Q rest (a.put o.dst v1) w1) :
    wpListIn F n Try.prog ops Q (o :: rest) a (W.alloc (.cells cs.toArray e)) := by
  obtain ⟨v1, w1, hrun, h1, -, h3, -⟩ := Kd.Q_run (P := Try.prog) d (w0 := W) B t o.type e z bytes ht hinfo hz hs0 hb0 v xs p cs ok (fun _ => False) hp (fun _ h => h.elim) hfresh HO (Below.refl _ _) hbase hl
  refine wpListIn_plain hgd fun K hK' => ?_
  unfold Oper.wpIn
  refine ⟨?_, ?_⟩
  · simp [Oper.about, hop, resolve, Target.leads, Sem.run_pure]
  · rw [Oper.semAt_plain F _ _ (by rw [hop]; intro c hc'; cases hc')]
    simp [execOp, hop, resolve, invoke, builtin, hs, hx, hrun, Result.andThen]
    exact hK' _ _ (hK v1 w1 h1 h3 (by obtain ⟨g1, o1, cc1, e1, -⟩ := Kd.Q_form h1 (by simp); exact ⟨_, _, _, e1⟩))
/-- append, in a drawn region -/
theorem opV_app {α : Type} (d : Kd α) {W : World} {ops : Array Oper} {i : Nat} {o : Oper} {a : Act} {K : Act → World → Prop}
    (t e : TypeId) (z : Value) (bytes : Nat) (ht : Try.prog.underlying t = some (.slice e)) (hinfo : (Try.prog.info? e).map (fun i => (i.zero, i.size, i.bytes)) = some (some z, d.sz, bytes)) (hz : z.cells.size = d.sz) (hs0 : 0 < d.sz) (hb0 : 0 < bytes)
    (hi : ops[i]? = some o) (hgd : o.guard = none) (s x : Operand) (hop : o.op = Op.call { callee := Callee.builtin Builtin.append, args := #[s, x], argTypes := #[t, t] })
    (B : Nat) (v : Value) (xs : List α) (p : α) (cs : List Value) (ok : Nat → Prop) (hs : a.eval s = v) (hx : a.eval x = .slice (some ⟨W.heap.size, 0, none⟩) 1 1) (hp : d.M W B (fun _ => False) p cs) (hfresh : ∀ k, W.heap.size ≤ k → ok k)
    (HO : Kd.Q d e W B ok v xs) (hbase : B ≤ W.heap.size) (hl : (xs.length + 1) * bytes ≤ 140737488355328)
    (hK : ∀ v1 w1, Kd.Q d e w1 B ok v1 (xs ++ [p]) → W.grownBy w1 v.ownBlock → (∃ A m c, v1 = .slice A m c) → K (a.put o.dst v1) w1) :
    opV Try.prog ops i K a (W.alloc (.cells cs.toArray e)) := by
  obtain ⟨v1, w1, hrun, h1, -, h3, -⟩ := Kd.Q_run (P := Try.prog) d (w0 := W) B t o.type e z bytes ht hinfo hz hs0 hb0 v xs p cs ok (fun _ => False) hp (fun _ h => h.elim) hfresh HO (Below.refl _ _) hbase hl
  unfold opV
  simp only [hi]
  rw [if_pos (by unfold Region.wanted; rw [hgd])]
  refine .inl ⟨v1, w1, ?_, hK v1 w1 h1 h3 (by obtain ⟨g1, o1, cc1, e1, -⟩ := Kd.Q_form h1 (by simp); exact ⟨_, _, _, e1⟩)⟩
  simp [execOp, hop, resolve, invoke, builtin, hs, hx, hrun, Result.andThen]
end Go.Proofs.Ytadeidhefjifaaa.Px
end
section
set_option linter.unusedVariables false
set_option linter.unusedSimpArgs false
namespace Go.Proofs.Ytadeidhefjifaaa.Px
open Go.RowKit Go.Shelf Go.Proofs.YtadeidhefjifaaaW.PrintWords Go.Proofs.YtadeidhefjifaaaW.PrintLast Go.Proofs.YtadeidhefjifaaaW.PrintMore
attribute [local go_sem] Oper.semAt_some
/-- the world in the walk of Network, from where 'middle' is laid -/
structure NE (w : World) (mb : Nat) (pv : Array Value) (A1 : Option Addr) (n1 c1 : Nat) (mid : Int) (v : Value) (es : List S61) (W : World) : Prop where
  below : Below w.heap.size w W
  hp : W.heap[w.heap.size]? = some (.cells pv 41 (0, 0))
  hl : W.heap[w.heap.size + 1]? = some (.cells #[.slice A1 n1 c1] 42 (0, 0))
  he : W.heap[w.heap.size + 1 + 1]? = some (.cells #[v] 22 (0, 0))
  hm : W.heap[mb]? = some (.cells #[.int .i64 mid] 3 (0, 0))
  lt : w.heap.size + 1 + 1 < mb
  row : Kd.Q k61 61 W w.heap.size (fun k => mb < k) v es
section
variable {w W W' : World} {mb : Nat} {pv : Array Value} {A1 : Option Addr} {n1 c1 : Nat} {mid : Int} {v v1 : Value} {es es' : List S61}
theorem NE.after (h : NE w mb pv A1 n1 c1 mid v es W) (hb : Below W.heap.size W W') : NE w mb pv A1 n1 c1 mid v es W' :=
  ⟨below_step h.below hb, (hb.block _ (blk_lt h.hp)).trans h.hp, (hb.block _ (blk_lt h.hl)).trans h.hl, (hb.block _ (blk_lt h.he)).trans h.he, (hb.block _ (blk_lt h.hm)).trans h.hm, h.lt, Kd.Q_below h.row hb⟩
/-- the list has grown, and is stored -/
theorem NE.put (h : NE w mb pv A1 n1 c1 mid v es W) (hg : W.grownBy W' v.ownBlock) (hr : Kd.Q k61 61 W' w.heap.size (fun k => mb < k) v1 es') : NE w mb pv A1 n1 c1 mid v1 es' (W'.setCell ⟨w.heap.size + 1 + 1, 0, none⟩ v1) := by
  have hk : ∀ k, k ≤ mb → some k ≠ v.ownBlock := fun k hk e => by have := h.row.1 k e.symm; omega
  have hlt := h.lt
  have b0 := (hg.block _ (blk_lt h.hp) (hk _ (by omega))).trans h.hp
  have b1 := (hg.block _ (blk_lt h.hl) (hk _ (by omega))).trans h.hl
  have b2 := (hg.block _ (blk_lt h.he) (hk _ (by omega))).trans h.he
  have b3 := (hg.block _ (blk_lt h.hm) (hk _ (by omega))).trans h.hm
  refine ⟨?_, set_far b0 (by omega) _, set_far b1 (by omega) _, set_own b2 _, set_far b3 (by omega) _, hlt, ?_⟩
  · exact (h.below.grown hg h.below.size (fun k e => by have := h.row.1 k e; omega)).setCell (p := ⟨w.heap.size + 1 + 1, 0, none⟩) (by show w.heap.size ≤ w.heap.size + 1 + 1; omega) _
  · exact Kd.Q_far hr (p := ⟨w.heap.size + 1 + 1, 0, none⟩) (fun k hk => by show k ≠ w.heap.size + 1 + 1; omega) v1
end
theorem NE.own {w W W' : World} {mb : Nat} {pv : Array Value} {A1 : Option Addr} {n1 c1 : Nat} {mid : Int} {v : Value} {es : List S61} (h : NE w mb pv A1 n1 c1 mid v es W) {row : Option Nat} (hg : W.grownBy W' row)
    (hr : ∀ r, row = some r → w.heap.size ≤ r ∧ ∃ o : Obj, W.heap[r]? = some o ∧ o.isCells = false) : NE w mb pv A1 n1 c1 mid v es W' := by
  have hk : ∀ (k : Nat) (cs : Array Value) (t : TypeId), W.heap[k]? = some (.cells cs t (0, 0)) → W'.heap[k]? = some (.cells cs t (0, 0)) := fun k cs t hc =>
    (hg.block k (blk_lt hc) (fun e => by obtain ⟨_, o, ho, hno⟩ := hr k e.symm; rw [hc] at ho; cases ho; cases hno)).trans hc
  refine ⟨h.below.grown hg h.below.size (fun k e => (hr k e).1), hk _ _ _ h.hp, hk _ _ _ h.hl, hk _ _ _ h.he, hk _ _ _ h.hm, h.lt, ?_⟩
  exact Kd.Q_mono (Kd.Q_step (Kd.Q_bound h.row) (fun k hk' _ => by
    obtain ⟨_, _, _, t, _, cs, hcs⟩ := hk'
    exact (hk k cs t hcs).trans hcs.symm)) (fun _ hk' => hk'.1)
/-- is an operation a deferred call -/
def isDefer (o : Oper) : Bool := match o.op with
  | .defer _ => true
  | _ => false
theorem noDefer {ops : Array Oper} (h : ops.toList.all (fun o => !isDefer o) = true) : ∀ (i : Nat) (o : Oper), ops[i]? = some o → ∀ c, o.op ≠ Op.defer c := by
  intro i o ho c hc
  have hm : o ∈ ops.toList := by
    obtain ⟨hi, e⟩ := Array.getElem?_eq_some_iff.1 ho
    rw [← e]; simp
  have := List.all_eq_true.1 h o hm
  simp [isDefer, hc] at this
theorem cellLt20 {W : World} {p : Addr} {v : Value} (h : W.cell? p = some v) (o : Obj) : (W.alloc o).cell? p = some v := by
  have hb := below_alloc (Below.refl W.heap.size W) o
  exact pw_cell_below hb h
theorem opV_val {ops : Array Oper} {i : Nat} {o : Oper} {v : Value} {a : Act} {w w' : World} {K : Act → World → Prop} (hi : ops[i]? = some o) (hg : o.guard = none) (h : (execOp a.eval o).run Try.prog w = .ok (.value v) w') (hK : K (a.put o.dst v) w') : opV Try.prog ops i K a w := by
  unfold opV
  simp only [hi]
  rw [if_pos (by unfold Region.wanted; rw [hg])]
  exact .inl ⟨v, w', h, hK⟩
theorem opV_skip {ops : Array Oper} {i : Nat} {o : Oper} {a : Act} {w w' : World} {K : Act → World → Prop} (hi : ops[i]? = some o) (hg : o.guard = none) (h : (execOp a.eval o).run Try.prog w = .ok .skip w') (hK : K (a.put o.dst undef) w') : opV Try.prog ops i K a w := by
  unfold opV
  simp only [hi]
  rw [if_pos (by unfold Region.wanted; rw [hg])]
  exact .inr ⟨w', h, hK⟩
/-- the list is stored as it was -/
theorem NE.stay {w W : World} {mb : Nat} {pv : Array Value} {A1 : Option Addr} {n1 c1 : Nat} {mid : Int} {v : Value} {es : List S61} (h : NE w mb pv A1 n1 c1 mid v es W) (u : Value) (hu : u = v) : NE w mb pv A1 n1 c1 mid v es (W.setCell ⟨w.heap.size + 1 + 1, 0, none⟩ u) := by
  subst hu
  have hlt := h.lt
  refine ⟨h.below.setCell (p := ⟨w.heap.size + 1 + 1, 0, none⟩) (by show w.heap.size ≤ w.heap.size + 1 + 1; omega) _, set_far h.hp (by omega) _, set_far h.hl (by omega) _, set_own h.he _, set_far h.hm (by omega) _, hlt, ?_⟩
  exact Kd.Q_far h.row (p := ⟨w.heap.size + 1 + 1, 0, none⟩) (fun k hk => by show k ≠ w.heap.size + 1 + 1; omega) u
theorem blk_lt' {W : World} {k : Nat} {o : Obj} (h : W.heap[k]? = some o) : k < W.heap.size := (Array.getElem?_eq_some_iff.1 h).1
theorem NE.round {w W W' : World} {mb : Nat} {pv : Array Value} {A1 : Option Addr} {n1 c1 : Nat} {mid : Int} {v v1 : Value} {es : List S61} (h : NE w mb pv A1 n1 c1 mid v es W) (hg : W.grownBy W' v.ownBlock) :
    (∀ N, KeepsFrom N W (W'.setCell ⟨w.heap.size + 1 + 1, 0, none⟩ v1)) ∧ KpQ w.heap.size (fun k => k = w.heap.size + 1 + 1) W (W'.setCell ⟨w.heap.size + 1 + 1, 0, none⟩ v1) := by
  have hb := (Kd.Q_bound h.row).1
  have ht : ∀ k, v.ownBlock = some k → w.heap.size ≤ k ∧ ∃ cs, W.heap[k]? = some (.cells cs 61 (0, 0)) := fun k hk => by
    obtain ⟨_, h1, _, q, hq, cs, hcs⟩ := hb k hk
    have : q = 61 := List.mem_singleton.1 (show q ∈ [61] from hq)
    subst this; exact ⟨h1, cs, hcs⟩
  refine ⟨fun N => ((KeepsOthers.of_grownBy hg (fun j o hj ho => by obtain ⟨_, cs, hcs⟩ := ht j hj; rw [hcs] at ho; cases ho; rfl)).trans (KeepsOthers.setCell _ _ _)).from N, ?_, ?_⟩
  · exact ((Below.refl w.heap.size W).grown hg h.below.size (fun k e => (ht k e).1)).setCell (p := ⟨w.heap.size + 1 + 1, 0, none⟩) (by show w.heap.size ≤ w.heap.size + 1 + 1; omega) _
  · intro k cs t hk h61 h57 hc
    have : some k ≠ v.ownBlock := fun e => by obtain ⟨_, cs', hcs⟩ := ht k e.symm; rw [hcs] at hc; cases hc; exact h61 rfl
    exact set_far ((hg.block k (blk_lt hc) this).trans hc) hk _
set_option maxRecDepth 100000 in
set_option maxHeartbeats 8000000 in
theorem network_in (s0 : ByteArray) (i1 pu i3 i4 i5 : Int) (Aq : Option Addr) (cq : Nat) (q : List S92) (A1 : Option Addr) (c1 : Nat) (l : List S44) (w : World) (hq : Kd.C k92 w Aq q.length q) (hcq : q.length ≤ cq) (hl : Kd.C k44 w A1 l.length l) (hcl : l.length ≤ c1) (hl100 : l.length ≤ 100) :
    CallsIn Fence.wide 3 Try.prog 61 #[.agg #[.string s0, .int .i64 i1, .int .i64 pu, .int .i64 i3, .int .i64 i4, .int .i64 i5, .slice Aq q.length cq], .slice A1 l.length c1] w
      fun e w' => (askV i1 pu i3 i4 i5 q l ≠ 0 → e = .returned (.tuple #[.int .i64 0, .slice none 0 0, .int .i64 (askV i1 pu i3 i4 i5 q l)])) ∧
        (askV i1 pu i3 i4 i5 q l = 0 → ∃ v, e = .returned (.tuple #[.int .i64 (2 + (l.length : Int) + (q.length : Int)), v, .int .i64 0]) ∧ Kd.Q k61 61 w' w.heap.size (fun _ => True) v (netE q l pu)) ∧ Below w.heap.size w w' := by
  have hu41 := Try.underlying41
  have hu92 := Try.underlying92
  have hu44 := Try.underlying44
  have hu61 := Try.underlying61
  have HQ := Aside0.mk hq
  have HL := Aside0.mk hl
  have HB := Aside0.mk (show ∀ o o' o'', Below w.heap.size w (((w.alloc o).alloc o').alloc o'') from fun o o' o'' => below_alloc (below_alloc (below_alloc (Below.refl _ _) o) o') o'')
  have HD := Aside0.mk (show ∀ W, Below w.heap.size w W → CallsIn Fence.wide 2 Try.prog 66 #[.agg #[.string s0, .int .i64 i1, .int .i64 pu, .int .i64 i3, .int .i64 i4, .int .i64 i5, .slice Aq q.length cq]] W fun e w' => e = .returned (.int .i64 (degV i1 pu i3 i4 i5 q)) ∧ Below W.heap.size W w' from fun W hb => callsIn_wide.2 (degree_Check.calls s0 i1 pu i3 i4 i5 Aq cq q _ W (Kd.C_below hq hb) hcq rfl))
  clear hq hl
  refine callsIn_of_wp_marks Try.func61 rfl trivial ?_ rfl
  simp only [Try.ntmps61, List.size_toArray, List.length_cons, List.length_nil, Nat.reduceAdd, Nat.reduceSub, Array.replicate_succ, Array.replicate_zero, List.push_toArray, List.append_toArray, List.nil_append, List.cons_append]
  gi_wp2_with fail
  refine ⟨trivial, (HD.out _ (HB.out _ _ _)).mono ?_⟩
  rintro e W1 ⟨rfl, hb1⟩
  have z0 : W1.heap[w.heap.size]? = some (.cells #[.string s0, .int .i64 i1, .int .i64 pu, .int .i64 i3, .int .i64 i4, .int .i64 i5, .slice Aq q.length cq] 41 (0, 0)) := (hb1.block _ (by simp <;> omega)).trans ((Below.heap_alloc _ _ _ (by simp <;> omega)).trans ((Below.heap_alloc _ _ _ (by simp)).trans (heap_alloc_new w _)))
  have z1 : W1.heap[w.heap.size + 1]? = some (.cells #[.slice A1 l.length c1] 42 (0, 0)) := (hb1.block _ (by simp <;> omega)).trans ((Below.heap_alloc _ _ _ (by simp)).trans (by have h_ := heap_alloc_new (w.alloc (Obj.cells #[.string s0, .int .i64 i1, .int .i64 pu, .int .i64 i3, .int .i64 i4, .int .i64 i5, .slice Aq q.length cq] 41)) (Obj.cells #[.slice A1 l.length c1] 42); rw [World.size_alloc] at h_; exact h_))
  have z2 : W1.heap[w.heap.size + 1 + 1]? = some (.cells #[.slice none 0 0] 22 (0, 0)) := (hb1.block _ (by simp)).trans (by have h_ := heap_alloc_new ((w.alloc (Obj.cells #[.string s0, .int .i64 i1, .int .i64 pu, .int .i64 i3, .int .i64 i4, .int .i64 i5, .slice Aq q.length cq] 41)).alloc (Obj.cells #[.slice A1 l.length c1] 42)) (Obj.cells #[.slice none 0 0] 22); simp only [World.size_alloc] at h_; exact h_)
  have hB1 : Below w.heap.size w W1 := (HB.out _ _ _).trans (hb1.mono (HB.out _ _ _).size)
  have Z0 := Aside0.mk z0
  have Z1 := Aside0.mk z1
  have Z2 := Aside0.mk z2
  have HB1 := Aside0.mk hB1
  clear hb1 HD HB z0 z1 z2 hB1
  by_cases hd : degV i1 pu i3 i4 i5 q = 0
  case neg =>
    have b0 : (degV i1 pu i3 i4 i5 q != 0) = true := by simp [hd]
    have HV := Aside0.mk (show askV i1 pu i3 i4 i5 q l = degV i1 pu i3 i4 i5 q by unfold askV; rw [if_neg hd])
    have HNE := Aside0.mk hd
    have d2 := (blk_cell Z2.out 0).trans (show _ = some _ from rfl)
    have g2 := blk_frozen Z2.out 0
    clear hd
    gi_wp2
    have e2 := set_own Z2.out (.slice none 0 0)
    have r2 := (blk_cell e2 0).trans (show _ = some _ from rfl)
    refine ⟨.tuple #[.int .i64 0, .slice none 0 0, .int .i64 (degV i1 pu i3 i4 i5 q)], ?_, ?_, ?_, ?_⟩
    · have hr : Try.f61.results = #[.tmp 4, .cell 5 22, .tmp 6] := rfl
      have hu := Try.underlying22
      simp [results, hr, go_sem, r2, hu, loadVar]
    · intro _; rw [HV.out]
    · intro h; rw [HV.out] at h; exact absurd h HNE.out
    · exact HB1.out.setCell (p := ⟨w.heap.size + 1 + 1, 0, none⟩) (by show w.heap.size ≤ w.heap.size + 1 + 1; omega) _
  have b0 : (degV i1 pu i3 i4 i5 q != 0) = false := by simp [hd]
  have HV := Aside0.mk (show askV i1 pu i3 i4 i5 q l = attV l by unfold askV; rw [if_pos hd])
  have HS := Aside0.mk (callsIn_wide.2 (average_Sums.calls A1 c1 l (sumsV l).1 (sumsV l).2.1 (sumsV l).2.2 W1 (Kd.C_below HL.out HB1.out) hcl rfl) : CallsIn Fence.wide 2 Try.prog 76 #[.slice A1 l.length c1] W1 _)
  have y1 := (blk_cell Z1.out 0).trans (show _ = some _ from rfl)
  clear hd
  gi_wp2_with fail
  refine ⟨trivial, HS.out.mono ?_⟩
  rintro e W2 ⟨rfl, hb2⟩
  have z0 := Aside0.mk ((hb2.block _ (blk_lt Z0.out)).trans Z0.out)
  have z1 := Aside0.mk ((hb2.block _ (blk_lt Z1.out)).trans Z1.out)
  have z2 := Aside0.mk ((hb2.block _ (blk_lt Z2.out)).trans Z2.out)
  have n3 := Aside0.mk (below_step HB1.out hb2)
  have hsv : (sumsV l).2.2 = attV l := by unfold sumsV; split <;> simp_all
  rw [hsv]
  clear Z0 Z1 Z2 HB1 hb2 y1 HS hsv
  have Z0 := z0
  have Z1 := z1
  have Z2 := z2
  have HB1 := n3
  clear z0 z1 z2 n3
  by_cases ha : attV l = 0
  case neg =>
    have b1 : (attV l != 0) = true := by simp [ha]
    have HNE := Aside0.mk ha
    have d2 := (blk_cell Z2.out 0).trans (show _ = some _ from rfl)
    have g2 := blk_frozen Z2.out 0
    clear ha
    gi_wp2
    have e2 := set_own Z2.out (.slice none 0 0)
    have r2 := (blk_cell e2 0).trans (show _ = some _ from rfl)
    refine ⟨.tuple #[.int .i64 0, .slice none 0 0, .int .i64 (attV l)], ?_, ?_, ?_, ?_⟩
    · have hr : Try.f61.results = #[.tmp 4, .cell 5 22, .tmp 6] := rfl
      have hu := Try.underlying22
      simp [results, hr, go_sem, r2, hu, loadVar]
    · intro _; rw [HV.out]
    · intro h; rw [HV.out] at h; exact absurd h HNE.out
    · exact HB1.out.setCell (p := ⟨w.heap.size + 1 + 1, 0, none⟩) (by show w.heap.size ≤ w.heap.size + 1 + 1; omega) _
  have b1 : (attV l != 0) = false := by simp [ha]
  have y1 := (blk_cell Z1.out 0).trans (show _ = some _ from rfl)
  have y6 := (blk_cell Z0.out 6).trans (show _ = some _ from rfl)
  have l0 := blk_lt Z0.out
  have l1 := blk_lt Z1.out
  have hask : askV i1 pu i3 i4 i5 q l = 0 := by rw [HV.out]; exact ha
  have hq64 := ask_len hask
  have hbw : wrap64 (1 + (l.length : Int) + (q.length : Int)) = 1 + (l.length : Int) + (q.length : Int) := by unfold wrap64; omega
  have HASK := Aside0.mk hask
  have HQ64 := Aside0.mk hq64
  clear ha hask hq64
  gi_wp2_with fail
  rw [hbw]
  have hlt2 := blk_lt Z2.out
  have hN0 : NE w W2.heap.size #[.string s0, .int .i64 i1, .int .i64 pu, .int .i64 i3, .int .i64 i4, .int .i64 i5, .slice Aq q.length cq] A1 l.length c1 (1 + (l.length : Int)) (.slice none 0 0) (srcE l pu 0) (W2.alloc (Obj.cells #[.int .i64 (1 + (l.length : Int))] 3)) :=
    ⟨below_alloc HB1.out _, (Below.heap_alloc _ _ _ l0).trans Z0.out, (Below.heap_alloc _ _ _ l1).trans Z1.out, (Below.heap_alloc _ _ _ hlt2).trans Z2.out, heap_alloc_new _ _, hlt2, Kd.Q_nil _ _ _ _ _⟩
  have HN0 := Aside0.mk hN0
  obtain ⟨mb, hmb⟩ : ∃ mb, W2.heap.size = mb := ⟨_, rfl⟩
  rw [hmb] at HN0 ⊢
  generalize W2.alloc (Obj.cells #[Value.int .i64 (1 + (l.length : Int))] 3) = W3 at HN0 ⊢
  clear hN0 hlt2 hmb y1 y6 l0 l1 hbw Z0 Z1 Z2 HB1
  gi_loopw [39] (fun i wr => ∃ k : Nat, k ≤ l.length ∧ i = .int .i64 k ∧ ∃ v, Aside0 (NE w mb #[.string s0, .int .i64 i1, .int .i64 pu, .int .i64 i3, .int .i64 i4, .int .i64 i5, .slice Aq q.length cq] A1 l.length c1 (1 + (l.length : Int)) v (srcE l pu k) wr)) (fun i _ => l.length - (intOf i).toNat)
  case atStart => exact ⟨0, by omega, rfl, _, HN0⟩
  case round =>
    clear HN0
    obtain ⟨k, hkl, rfl, v, HN⟩ := hrel
    by_cases hlt : k < l.length
    · have b2 : decide (k < l.length) = true := decide_eq_true hlt
      obtain ⟨ad, e, x0, x1, x2, x3, x4⟩ := at_T44 (Kd.C_below HL.out HN.out.below) k (by omega) (by omega)
      cases e
      rw [Int.toNat_natCast] at x0 x1 x2 x3 x4
      obtain ⟨a, ha⟩ : ∃ a, rd_T44 l k = a := ⟨_, rfl⟩
      rw [ha] at x0 x1 x2 x3 x4
      have hsu := srcE_succ l pu k
      rw [ha] at hsu
      have HSU := Aside0.mk hsu
      have HLN := Aside0.mk (show ((srcE l pu k).length + 1) * 24 ≤ 140737488355328 by unfold srcE; simp; omega)
      have y5 := (blk_cell HN.out.he 0).trans (show _ = some _ from rfl)
      have g5 := blk_frozen HN.out.he 0
      have p2 : wr.cell? ⟨w.heap.size, 2, none⟩ = some (.int .i64 pu) := (blk_cell HN.out.hp 2).trans rfl
      have l0 := blk_lt HN.out.hp
      have l2 := blk_lt HN.out.he
      have HA := Aside0.mk (HN.out.after (below_alloc (Below.refl _ _) (Obj.cells #[.int .i64 a.f0, .int .i64 a.f1, .int .i64 a.f2, .int .i64 a.f3, .int .i64 a.f4] 44)))
      have hw1 : (1 : Int) + (k : Int) ≤ 9223372036854775807 := by omega
      have HF := Aside0.mk (show ∀ j, (wr.alloc (Obj.cells #[.int .i64 a.f0, .int .i64 a.f1, .int .i64 a.f2, .int .i64 a.f3, .int .i64 a.f4] 44)).heap.size ≤ j → mb < j from fun j hj => by have := blk_lt HA.out.hm; omega)
      have HOW := Aside0.mk (show some (w.heap.size + 1 + 1) ≠ v.ownBlock from fun e => by have := HN.out.row.1 _ e.symm; have := HN.out.lt; omega)
      clear ha hsu
      gi_wp2_with (gi_at_builtin; refine QIn_app k61 22 61 (.agg #[.int .i64 0, .int .i64 0, .int .i64 0]) 24 Try.underlying22 info61 rfl (by decide) (by omega) rfl (.tmp 44) (.tmp 53) rfl w.heap.size v (srcE l pu k) ⟨0, 1 + (k : Int), wrap64 (a.f4 * pu)⟩ [.int .i64 0, .int .i64 (1 + (k : Int)), .int .i64 (wrap64 (a.f4 * pu))] (fun j => mb < j) rfl ?ad (k61_mkM _ _ _ ⟨0, 1 + (k : Int), wrap64 (a.f4 * pu)⟩) HF.out HA.out.row HA.out.below.size HLN.out ?_; (case ad => (rw [World.size_alloc]; rfl)); intro v1 w1 hQ1 hg1 hform; obtain ⟨Av, mv, cv, rfl⟩ := hform; have HA2 := Aside0.mk (HA.out.put hg1 hQ1); have c7 := (blk_cell ((hg1.block _ (blk_lt HA.out.he) HOW.out).trans HA.out.he) 0).trans (show _ = some _ from rfl); have z8 := blk_frozen ((hg1.block _ (blk_lt HA.out.he) HOW.out).trans HA.out.he) 0; clear hQ1 hg1)
      go_roundw
      case rel => exact ⟨k + 1, by omega, by simp, _, ⟨by rw [HSU.out]; exact HA2.out⟩⟩
      case measure => simp [intOf]; omega
    · have hk : k = l.length := by omega
      subst hk
      have b2 : decide (l.length < l.length) = false := decide_eq_false (by omega)
      have p0 := (blk_cell HN.out.hp 0).trans (show _ = some _ from rfl)
      have p1 := (blk_cell HN.out.hp 1).trans (show _ = some _ from rfl)
      have p2 := (blk_cell HN.out.hp 2).trans (show _ = some _ from rfl)
      have p3 := (blk_cell HN.out.hp 3).trans (show _ = some _ from rfl)
      have p4 := (blk_cell HN.out.hp 4).trans (show _ = some _ from rfl)
      have p5 := (blk_cell HN.out.hp 5).trans (show _ = some _ from rfl)
      have p6 := (blk_cell HN.out.hp 6).trans (show _ = some _ from rfl)
      have q0 := (blk_cell HN.out.hl 0).trans (show _ = some _ from rfl)
      gi_wp2_with fail
      refine ⟨trivial, (pairs_in wr s0 i1 pu i3 i4 i5 Aq q.length cq A1 l.length c1 2).mono ?_⟩
      rintro e W4 ⟨rfl, rfl⟩
      clear p0 p1 p2 p3 p4 p5 p6 q0
      gi_wp2_with fail
      have hB5 : Below wr.heap.size wr ((wr.alloc (Obj.cells #[.string s0, .int .i64 i1, .int .i64 pu, .int .i64 i3, .int .i64 i4, .int .i64 i5, .slice Aq q.length cq] 41)).alloc (Obj.cells #[.slice A1 l.length c1] 42)) := below_alloc (below_alloc (Below.refl _ _) _) _
      have hbp : ((wr.alloc (Obj.cells #[.string s0, .int .i64 i1, .int .i64 pu, .int .i64 i3, .int .i64 i4, .int .i64 i5, .slice Aq q.length cq] 41)).alloc (Obj.cells #[.slice A1 l.length c1] 42)).heap[wr.heap.size]? = some (.cells #[.string s0, .int .i64 i1, .int .i64 pu, .int .i64 i3, .int .i64 i4, .int .i64 i5, .slice Aq q.length cq] 41 (0, 0)) := (Below.heap_alloc _ _ _ (by simp)).trans (heap_alloc_new wr _)
      have hbl : ((wr.alloc (Obj.cells #[.string s0, .int .i64 i1, .int .i64 pu, .int .i64 i3, .int .i64 i4, .int .i64 i5, .slice Aq q.length cq] 41)).alloc (Obj.cells #[.slice A1 l.length c1] 42)).heap[wr.heap.size + 1]? = some (.cells #[.slice A1 l.length c1] 42 (0, 0)) := by have h_ := heap_alloc_new (wr.alloc (Obj.cells #[.string s0, .int .i64 i1, .int .i64 pu, .int .i64 i3, .int .i64 i4, .int .i64 i5, .slice Aq q.length cq] 41)) (Obj.cells #[.slice A1 l.length c1] 42); rw [World.size_alloc] at h_; exact h_
      have hN5 := HN.out.after hB5
      have hgt := blk_lt HN.out.hm
      have hmb := HN.out.lt
      obtain ⟨W5, hW5⟩ : ∃ W5, (wr.alloc (Obj.cells #[.string s0, .int .i64 i1, .int .i64 pu, .int .i64 i3, .int .i64 i4, .int .i64 i5, .slice Aq q.length cq] 41)).alloc (Obj.cells #[.slice A1 l.length c1] 42) = W5 := ⟨_, rfl⟩
      rw [hW5] at hbp hbl hN5 ⊢
      have hs5 := hN5.below.size
      have hlt5 := blk_lt hbl
      have BP := Aside0.mk hbp
      have BL := Aside0.mk hbl
      have HN5 := Aside0.mk hN5
      clear hW5 hB5 hbp hbl hN5 HN
      refine wpIn_rangeFunc_ownG (α := PI q l) (encs := fun x => encP x.1) (Kp := KpQ w.heap.size (fun k => k = w.heap.size + 1 + 1)) (S := fun ys => ys.map Subtype.val = prsTo q l l.length) (Sp := fun pre => pre.map Subtype.val <+: prsTo q l l.length) (N := (prsTo q l l.length).length) (w0 := W5)
        rfl (by decide) (gf := 78) rfl trivial (enters_of Try.func78 (by kernel_rfl) rfl)
        (fun l0 J Jx W hW hJ _ hY h0 => pairs1_in 2 w.heap.size l0 (wr.heap.size + 1) wr.heap.size (fun k => k = w.heap.size + 1 + 1) (by decide) W A1 Aq c1 cq q l s0 i1 pu i3 i4 i5
          (fun W' hb => ⟨Kd.C_below HL.out ((HN5.out.below.trans (hW.mono hs5)).trans hb), Kd.C_below HQ.out ((HN5.out.below.trans (hW.mono hs5)).trans hb)⟩) HQ64.out hcq
          ((hW.block _ (blk_lt BL.out)).trans BL.out) ((hW.block _ (blk_lt BP.out)).trans BP.out) (by omega) (by omega) (fun k hk => by have := hW.size; omega) (by have := hW.size; omega) J Jx hY (fun pre W1 W2 hj hb => hJ pre W1 W2 none hj (grown_of_below hb) (fun r e => by cases e)) h0)
        KpQ.trans (fun W l o o' hl h hc _ => KpQ.put (by omega) h hc) (Below.refl _ _) (fun _ => rfl)
        (fun pre W => ∃ v, NE w mb #[.string s0, .int .i64 i1, .int .i64 pu, .int .i64 i3, .int .i64 i4, .int .i64 i5, .slice Aq q.length cq] A1 l.length c1 (1 + (l.length : Int)) v (srcE l pu l.length ++ (pre.map Subtype.val).map (midE l)) W)
        (fun _ _ _ => False) ?hI (fun _ _ _ _ _ hs _ _ => hs) ⟨v, by simpa using HN5.out⟩
        (fun x => { tmps := #[Value.agg #[Value.string s0, Value.int .i64 i1, Value.int .i64 pu, Value.int .i64 i3, Value.int .i64 i4, Value.int .i64 i5, Value.slice Aq q.length cq], Value.slice A1 l.length c1, Value.pointer (some ⟨w.heap.size, 0, none⟩), Value.pointer (some ⟨w.heap.size + 1, 0, none⟩), Value.int .i64 0, Value.pointer (some ⟨w.heap.size + 1 + 1, 0, none⟩), Value.int .i64 (attV l), Value.pointer (some ⟨mb, 0, none⟩), Value.int .i64 (1 + l.length + q.length), u9, u10, .int .i64 x.1.1, .int .i64 x.1.2, undef, undef, Value.agg #[Value.string s0, Value.int .i64 i1, Value.int .i64 pu, Value.int .i64 i3, Value.int .i64 i4, Value.int .i64 i5, Value.slice Aq q.length cq], Value.int .i64 (degV i1 pu i3 i4 i5 q), Value.int .i64 (degV i1 pu i3 i4 i5 q), Value.bool false, undef, Value.tuple #[Value.int .i64 (sumsV l).fst, Value.int .i64 (sumsV l).snd.fst, Value.int .i64 (attV l)], Value.slice A1 l.length c1, Value.tuple #[Value.int .i64 (sumsV l).fst, Value.int .i64 (sumsV l).snd.fst, Value.int .i64 (attV l)], Value.int .i64 (sumsV l).fst, Value.int .i64 (sumsV l).snd.fst, Value.int .i64 (attV l), Value.int .i64 (attV l), Value.bool false, undef, Value.slice A1 l.length c1, Value.int .i64 l.length, Value.int .i64 (1 + l.length), Value.int .i64 (1 + l.length), Value.pointer (some ⟨w.heap.size, 6, none⟩), Value.slice Aq q.length cq, Value.int .i64 q.length, Value.int .i64 (1 + l.length + q.length), Value.slice A1 l.length c1, Value.int .i64 l.length, Value.int .i64 l.length, Value.bool false, u41, u42, u43, u44, u45, u46, u47, u48, u49, u50, u51, u52, u53, u54, u55, Value.agg #[Value.string s0, Value.int .i64 i1, Value.int .i64 pu, Value.int .i64 i3, Value.int .i64 i4, Value.int .i64 i5, Value.slice Aq q.length cq], Value.slice A1 l.length c1, Value.func (Fn.func 78) #[] #[Value.pointer (some ⟨wr.heap.size + 1, 0, none⟩), Value.pointer (some ⟨wr.heap.size, 0, none⟩)], .int .i64 x.1.1, .int .i64 x.1.2, undef, undef, undef, undef, undef, undef, undef, undef, undef, undef, undef, undef, undef, undef, undef, undef, undef, undef, undef, undef, undef, undef, undef, undef, undef, undef, undef, undef, undef, undef, undef, undef, undef, undef, undef, undef], defers := [] }) ?assign ?body ?done ?stop
      case hI =>
        rintro pre X Y row ⟨v', hs⟩ hg hr
        exact ⟨v', hs.own hg (fun r e => ⟨by have := (hr r e).1; omega, (hr r e).2⟩)⟩
      case assign =>
        intro l0 x W K hK
        unfold encP
        gi_wp2
        exact hK
      case body =>
        rintro l0 pre ⟨⟨y0, y1⟩, hmem⟩ W ⟨v', hn⟩ hpre
        obtain ⟨p0, p1, p2, p3, -⟩ := prsTo_mem hmem
        dsimp only at p0 p1 p2 p3
        have hnd := hn.after (below_drew (Below.refl _ _))
        obtain ⟨ad, e, x0, x1, x2, x3, x4⟩ := at_T44 (Kd.C_below HL.out hnd.below) y0 p0 p1
        cases e
        obtain ⟨a, ha⟩ : ∃ a, rd_T44 l y0 = a := ⟨_, rfl⟩
        rw [ha] at x4
        have y5 : W.drew.cell? ⟨w.heap.size + 1 + 1, 0, none⟩ = some v' := (blk_cell hnd.he 0).trans rfl
        have y7 : W.drew.cell? ⟨mb, 0, none⟩ = some (.int .i64 (1 + (l.length : Int))) := (blk_cell hnd.hm 0).trans rfl
        have y3 : W.drew.cell? ⟨w.heap.size + 1, 0, none⟩ = some (.slice (some ad) l.length c1) := (blk_cell hnd.hl 0).trans rfl
        have HS := Aside0.mk (And.intro y5 (And.intro y7 (And.intro y3 x4)))
        have hw1 : IntKind.i64.wrap (1 + y0) = 1 + y0 := IntWalk.i64_in _ (by omega)
        have hl100' : (l.length : Int) ≤ 100 := by omega
        have hq64' : (q.length : Int) ≤ 64 := by have := HQ64.out; omega
        have hw2 : IntKind.i64.wrap (1 + (l.length : Int) + y1) = 1 + (l.length : Int) + y1 := IntWalk.i64_in _ (by omega)
        have HA := Aside0.mk ha
        have HND := Aside0.mk hnd
        have HN0 := Aside0.mk hn
        clear x0 x1 x2 x3 x4 y5 y7 y3 ha hnd hn
        gi_wp2
        refine wpIn_region_V (by kernel_rfl) (fun _ => True.intro) (noDefer rfl) (fun w' => w'.cell? ⟨w.heap.size + 1 + 1, 0, none⟩ = some v' ∧ w'.cell? ⟨mb, 0, none⟩ = some (.int .i64 (1 + (l.length : Int))) ∧ w'.cell? ⟨w.heap.size + 1, 0, none⟩ = some (.slice (some ad) l.length c1) ∧ w'.cell? ⟨(ad.add (y0.toNat * 5)).block, (ad.add (y0.toNat * 5)).off + 4, none⟩ = some (.int .i64 a.f4)) 14 ?_
        refine wpAnyV_take (i := 0) (v := (v')) (by decide +kernel) (by decide) rfl (by decide +kernel) (by decide +kernel) (by decide +kernel) (.inl ⟨rfl, fun w' hS' => ?_⟩) HS.out ?_
        · obtain ⟨s1, s2, s3, s4⟩ := hS'; go_simp; done
        simp only [Act.put, List.setIfInBounds_toArray, List.set_cons_zero, List.set_cons_succ]
        refine wpAnyV_take (i := 1) (v := (.int .i64 y0)) (by decide +kernel) (by decide) rfl (by decide +kernel) (by decide +kernel) (by decide +kernel) (.inl ⟨rfl, fun w' hS' => ?_⟩) HS.out ?_
        · obtain ⟨s1, s2, s3, s4⟩ := hS'; go_simp; done
        simp only [Act.put, List.setIfInBounds_toArray, List.set_cons_zero, List.set_cons_succ]
        refine wpAnyV_take (i := 2) (v := (.int .i64 (1 + y0))) (by decide +kernel) (by decide) rfl (by decide +kernel) (by decide +kernel) (by decide +kernel) (.inl ⟨rfl, fun w' hS' => ?_⟩) HS.out ?_
        · obtain ⟨s1, s2, s3, s4⟩ := hS'; go_simp; done
        simp only [Act.put, List.setIfInBounds_toArray, List.set_cons_zero, List.set_cons_succ]
        refine wpAnyV_take (i := 3) (v := (.int .i64 (1 + (l.length : Int)))) (by decide +kernel) (by decide) rfl (by decide +kernel) (by decide +kernel) (by decide +kernel) (.inl ⟨rfl, fun w' hS' => ?_⟩) HS.out ?_
        · obtain ⟨s1, s2, s3, s4⟩ := hS'; go_simp; done
        simp only [Act.put, List.setIfInBounds_toArray, List.set_cons_zero, List.set_cons_succ]
        refine wpAnyV_take (i := 4) (v := (.int .i64 y1)) (by decide +kernel) (by decide) rfl (by decide +kernel) (by decide +kernel) (by decide +kernel) (.inl ⟨rfl, fun w' hS' => ?_⟩) HS.out ?_
        · obtain ⟨s1, s2, s3, s4⟩ := hS'; go_simp; done
        simp only [Act.put, List.setIfInBounds_toArray, List.set_cons_zero, List.set_cons_succ]
        refine wpAnyV_take (i := 5) (v := (.int .i64 (1 + (l.length : Int) + y1))) (by decide +kernel) (by decide) rfl (by decide +kernel) (by decide +kernel) (by decide +kernel) (.inl ⟨rfl, fun w' hS' => ?_⟩) HS.out ?_
        · obtain ⟨s1, s2, s3, s4⟩ := hS'; go_simp; done
        simp only [Act.put, List.setIfInBounds_toArray, List.set_cons_zero, List.set_cons_succ]
        refine wpAnyV_take (i := 6) (v := (.slice (some ad) l.length c1)) (by decide +kernel) (by decide) rfl (by decide +kernel) (by decide +kernel) (by decide +kernel) (.inl ⟨rfl, fun w' hS' => ?_⟩) HS.out ?_
        · obtain ⟨s1, s2, s3, s4⟩ := hS'; go_simp; done
        simp only [Act.put, List.setIfInBounds_toArray, List.set_cons_zero, List.set_cons_succ]
        refine wpAnyV_take (i := 7) (v := (.int .i64 y0)) (by decide +kernel) (by decide) rfl (by decide +kernel) (by decide +kernel) (by decide +kernel) (.inl ⟨rfl, fun w' hS' => ?_⟩) HS.out ?_
        · obtain ⟨s1, s2, s3, s4⟩ := hS'; go_simp; done
        simp only [Act.put, List.setIfInBounds_toArray, List.set_cons_zero, List.set_cons_succ]
        refine wpAnyV_take (i := 8) (v := (.pointer (some (ad.add (y0.toNat * 5))))) (by decide +kernel) (by decide) rfl (by decide +kernel) (by decide +kernel) (by decide +kernel) (.inl ⟨rfl, fun w' hS' => ?_⟩) HS.out ?_
        · obtain ⟨s1, s2, s3, s4⟩ := hS'; go_simp; done
        simp only [Act.put, List.setIfInBounds_toArray, List.set_cons_zero, List.set_cons_succ]
        refine wpAnyV_take (i := 9) (v := (.pointer (some ⟨(ad.add (y0.toNat * 5)).block, (ad.add (y0.toNat * 5)).off + 4, none⟩))) (by decide +kernel) (by decide) rfl (by decide +kernel) (by decide +kernel) (by decide +kernel) (.inl ⟨rfl, fun w' hS' => ?_⟩) HS.out ?_
        · obtain ⟨s1, s2, s3, s4⟩ := hS'; go_simp; done
        simp only [Act.put, List.setIfInBounds_toArray, List.set_cons_zero, List.set_cons_succ]
        refine wpAnyV_take (i := 10) (v := (.int .i64 a.f4)) (by decide +kernel) (by decide) rfl (by decide +kernel) (by decide +kernel) (by decide +kernel) (.inl ⟨rfl, fun w' hS' => ?_⟩) HS.out ?_
        · obtain ⟨s1, s2, s3, s4⟩ := hS'; go_simp; done
        simp only [Act.put, List.setIfInBounds_toArray, List.set_cons_zero, List.set_cons_succ]
        refine wpAnyV_take (i := 11) (v := (.agg #[.int .i64 (1 + y0), .int .i64 (1 + (l.length : Int) + y1), .int .i64 a.f4])) (by decide +kernel) (by decide) rfl (by decide +kernel) (by decide +kernel) (by decide +kernel) (.inl ⟨rfl, fun w' hS' => ?_⟩) HS.out ?_
        · obtain ⟨s1, s2, s3, s4⟩ := hS'; go_simp; done
        simp only [Act.put, List.setIfInBounds_toArray, List.set_cons_zero, List.set_cons_succ]
        have HEL := Aside0.mk (show ∀ W', Below w.heap.size w W' → W'.cell? ⟨(ad.add (y0.toNat * 5)).block, (ad.add (y0.toNat * 5)).off + 4, none⟩ = some (.int .i64 a.f4) from fun W' hb => by
          obtain ⟨ad', e', -, -, -, -, z4⟩ := at_T44 (Kd.C_below HL.out hb) y0 p0 p1
          cases e'
          rw [HA.out] at z4
          exact z4)
        have HOW := Aside0.mk (show ∀ k, k ≤ mb → some k ≠ v'.ownBlock from fun k hk e => by have := HND.out.row.1 _ e.symm; omega)
        have HF := Aside0.mk (show ∀ j, W.drew.heap.size ≤ j → mb < j from fun j hj => by have := blk_lt HND.out.hm; omega)
        have HLN := Aside0.mk (show ((srcE l pu l.length ++ (pre.map Subtype.val).map (midE l)).length + 1) * 24 ≤ 140737488355328 from by
          have := prsTo_len q l HQ64.out l.length
          simp only [srcE, List.length_append, List.length_map, List.length_range]; omega)
        refine wpAnyV_one (i := 12) (by decide +kernel) ?_
        refine opV_val rfl rfl (v := .slice (some ⟨W.drew.heap.size, 0, none⟩) 1 1) (w' := W.drew.alloc (.cells #[.int .i64 (1 + y0), .int .i64 (1 + (l.length : Int) + y1), .int .i64 a.f4] 61)) ?run12 ?_
        case run12 => go_simp; done
        simp only [Act.put, List.setIfInBounds_toArray, List.set_cons_zero, List.set_cons_succ]
        refine ⟨.inr ⟨cellLt20 HS.out.1 _, cellLt20 HS.out.2.1 _, cellLt20 HS.out.2.2.1 _, cellLt20 HS.out.2.2.2 _⟩, ?_⟩
        refine wpAnyV_one (i := 13) (by decide +kernel) ?_
        refine opV_app (W := W.drew) (i := 13) (o := ?oo) k61 22 61 (.agg #[.int .i64 0, .int .i64 0, .int .i64 0]) 24 ?q1 ?q2 ?q3 ?q4 ?q5 ?q6 ?q7 (.tmp 61) (.tmp 73) ?q8 w.heap.size v' (srcE l pu l.length ++ (pre.map Subtype.val).map (midE l)) ⟨1 + y0, 1 + (l.length : Int) + y1, a.f4⟩ [.int .i64 (1 + y0), .int .i64 (1 + (l.length : Int) + y1), .int .i64 a.f4] (fun j => mb < j) ?q9 ?q10 ?q11 ?q12 ?q13 ?q14 ?q15 ?q16
        case q6 => exact rfl
        case q7 => exact rfl
        case q8 => exact rfl
        case q1 => exact Try.underlying22
        case q2 => exact info61
        case q3 => exact rfl
        case q4 => decide
        case q5 => omega
        case q9 => go_simp
        case q10 => go_simp
        case q11 => exact k61_mkM _ _ _ ⟨1 + y0, 1 + (l.length : Int) + y1, a.f4⟩
        case q12 => exact HF.out
        case q13 => exact HND.out.row
        case q14 => exact HND.out.below.size
        case q15 => exact HLN.out
        intro v1 w1 hQ1 hg1 hform
        obtain ⟨Av, mv, cv, rfl⟩ := hform
        simp only [Act.put, List.setIfInBounds_toArray, List.set_cons_zero, List.set_cons_succ]
        have hlt := HND.out.lt
        have k5 := (hg1.block _ (blk_lt HND.out.he) (HOW.out _ (by omega))).trans HND.out.he
        have c5 := (blk_cell k5 0).trans (show _ = some _ from rfl)
        have f5 := blk_frozen k5 0
        have c7 := (blk_cell ((hg1.block _ (blk_lt HND.out.hm) (HOW.out _ (by omega))).trans HND.out.hm) 0).trans (show _ = some _ from rfl)
        have c3 := (blk_cell ((hg1.block _ (blk_lt HND.out.hl) (HOW.out _ (by omega))).trans HND.out.hl) 0).trans (show _ = some _ from rfl)
        refine ⟨.inr ⟨c5, c7, c3, HEL.out _ (HND.out.below.grown hg1 HND.out.below.size (fun k e => by have := HND.out.row.1 k e; omega))⟩, ?_⟩
        refine wpAnyV_one (i := 14) (by decide +kernel) ?_
        have hput := HND.out.put hg1 hQ1
        have hrd := HND.out.round (v1 := .slice Av mv cv) hg1
        have HPUT := Aside0.mk hput
        have HRD := Aside0.mk hrd
        clear hput hrd k5 c7 c3 hQ1 hg1
        refine opV_skip rfl rfl (w' := w1.setCell ⟨w.heap.size + 1 + 1, 0, none⟩ (.slice Av mv cv)) ?run14 ?_
        case run14 => go_simp; done
        refine ⟨.inl rfl, wpAnyV_done (by decide +kernel) ?_ _⟩
        refine ⟨(KeepsOthers.drew W).from _ |>.trans (HRD.out.1 _), (KpQ.of_below (W := W) (below_drew (Below.refl W.heap.size W)) HN0.out.below.size).trans HRD.out.2, .slice Av mv cv, ?_⟩
        have hp := HPUT.out
        rw [List.append_assoc] at hp
        rw [List.map_append, List.map_append]
        simp only [List.map_cons, List.map_nil]
        rw [show midE l (y0, y1) = ⟨1 + y0, 1 + (l.length : Int) + y1, a.f4⟩ by unfold midE; rw [HA.out]]
        exact hp
      case done =>
        rintro D ys W hD hys ⟨v', hn⟩ hK
        have hys : ys.map Subtype.val = prsTo q l l.length := hys
        rw [hys] at hn
        have p6 := (blk_cell hn.hp 6).trans (show _ = some _ from rfl)
        have HN6 := Aside0.mk hn
        have HK6 := Aside0.mk hK
        have HDW := Aside0.mk (show w.heap.size ≤ D ∧ w.heap.size + 1 + 1 ≠ D from by have := hn.lt; omega)
        obtain ⟨es0, hes0⟩ : ∃ es0, srcE l pu l.length ++ (prsTo q l l.length).map (midE l) = es0 := ⟨_, rfl⟩
        have HLE := Aside0.mk (show es0.length ≤ 6500 from by
          have := prsTo_len q l HQ64.out l.length
          rw [← hes0]
          simp only [srcE, List.length_append, List.length_map, List.length_range]; omega)
        rw [hes0] at HN6
        have HES := Aside0.mk hes0
        have hq64' : (q.length : Int) ≤ 64 := by have := HQ64.out; omega
        have hl100' : (l.length : Int) ≤ 100 := by omega
        clear hn hK hys hes0 HN5 BP BL
        gi_wp2_with fail
        gi_loopw [78] (fun i wr => ∃ k : Nat, k ≤ q.length ∧ i = .int .i64 k ∧ (∃ v, Aside0 (NE w mb #[.string s0, .int .i64 i1, .int .i64 pu, .int .i64 i3, .int .i64 i4, .int .i64 i5, .slice Aq q.length cq] A1 l.length c1 (1 + (l.length : Int)) v (es0 ++ snkE q l k) wr)) ∧ Aside0 (wr.heap[D]? = some (.deferred (some [])))) (fun i _ => q.length - (intOf i).toNat)
        case atStart => exact ⟨0, by omega, rfl, ⟨_, ⟨by simpa [snkE] using HN6.out⟩⟩, HK6⟩
        case round =>
          clear HN6 HK6
          obtain ⟨k, hkq, rfl, ⟨v, HN⟩, HKD⟩ := hrel
          by_cases hlt : k < q.length
          · have b2 : decide (k < q.length) = true := decide_eq_true hlt
            obtain ⟨ad, A4, c4, A5, c5, e, x0, x1, x2, x3, x4, x5, g4l, g4, g5l, g5⟩ := at_T92 (Kd.C_below HQ.out HN.out.below) k (by omega) (by omega)
            cases e
            rw [Int.toNat_natCast] at x0 x1 x2 x3 x4 x5
            obtain ⟨x, hx⟩ : ∃ x, rd_T92 q k = x := ⟨_, rfl⟩
            rw [hx] at x0 x1 x2 x3 x4 x5
            have hsu := snkE_succ q l k
            rw [hx] at hsu
            have HSU := Aside0.mk hsu
            have HLN := Aside0.mk (show ((es0 ++ snkE q l k).length + 1) * 24 ≤ 140737488355328 by have := HLE.out; simp only [snkE, List.length_append, List.length_map, List.length_range]; omega)
            have y5 := (blk_cell HN.out.he 0).trans (show _ = some _ from rfl)
            have g5' := blk_frozen HN.out.he 0
            have y7 := (blk_cell HN.out.hm 0).trans (show _ = some _ from rfl)
            have l2 := blk_lt HN.out.he
            have l7 := blk_lt HN.out.hm
            have HA := Aside0.mk (HN.out.after (below_alloc (Below.refl _ _) (Obj.cells #[.string x.f0, .int .i64 x.f1, .int .i64 x.f2, .bool x.f3, .slice A4 x.f4.length c4, .slice A5 x.f5.length c5] 92)))
            have hw1 : wrap64 (1 + (l.length : Int) + (k : Int)) = 1 + (l.length : Int) + (k : Int) := by unfold wrap64; omega
            have HF := Aside0.mk (show ∀ j, (wr.alloc (Obj.cells #[.string x.f0, .int .i64 x.f1, .int .i64 x.f2, .bool x.f3, .slice A4 x.f4.length c4, .slice A5 x.f5.length c5] 92)).heap.size ≤ j → mb < j from fun j hj => by have := blk_lt HA.out.hm; omega)
            have HOW := Aside0.mk (show some (w.heap.size + 1 + 1) ≠ v.ownBlock from fun e => by have := HN.out.row.1 _ e.symm; have := HN.out.lt; omega)
            have HKA := Aside0.mk ((Below.heap_alloc wr (Obj.cells #[.string x.f0, .int .i64 x.f1, .int .i64 x.f2, .bool x.f3, .slice A4 x.f4.length c4, .slice A5 x.f5.length c5] 92) D (blk_lt' HKD.out)).trans HKD.out)
            clear hx hsu g4 g5 g4l g5l
            gi_wp2_with (gi_at_builtin; refine QIn_app k61 22 61 (.agg #[.int .i64 0, .int .i64 0, .int .i64 0]) 24 Try.underlying22 info61 rfl (by decide) (by omega) rfl (.tmp 83) (.tmp 91) rfl w.heap.size v (es0 ++ snkE q l k) ⟨1 + (l.length : Int) + (k : Int), 1 + (l.length : Int) + (q.length : Int), x.f1⟩ [.int .i64 (1 + (l.length : Int) + (k : Int)), .int .i64 (1 + (l.length : Int) + (q.length : Int)), .int .i64 x.f1] (fun j => mb < j) rfl ?ad (k61_mkM _ _ _ ⟨1 + (l.length : Int) + (k : Int), 1 + (l.length : Int) + (q.length : Int), x.f1⟩) HF.out HA.out.row HA.out.below.size HLN.out ?_; (case ad => (rw [World.size_alloc]; rfl)); intro v1 w1 hQ1 hg1 hform; obtain ⟨Av, mv, cv, rfl⟩ := hform; have HA2 := Aside0.mk (HA.out.put hg1 hQ1); have HRD := Aside0.mk (((HA.out.round (v1 := .slice Av mv cv) hg1).1 0).same D _ (Nat.zero_le _) HKA.out rfl); have c7 := (blk_cell ((hg1.block _ (blk_lt HA.out.he) HOW.out).trans HA.out.he) 0).trans (show _ = some _ from rfl); have z8 := blk_frozen ((hg1.block _ (blk_lt HA.out.he) HOW.out).trans HA.out.he) 0; clear hQ1 hg1)
            go_roundw
            case rel => exact ⟨k + 1, by omega, by simp, ⟨_, ⟨by rw [HSU.out, ← List.append_assoc]; exact HA2.out⟩⟩, HRD⟩
            case measure => simp [intOf]; omega
          · have hk : k = q.length := by omega
            subst hk
            have b2 : decide (q.length < q.length) = false := decide_eq_false (by omega)
            obtain ⟨Av, cv, rfl, hle⟩ := Kd.Q_slice HN.out.row
            have y5 := (blk_cell HN.out.he 0).trans (show _ = some _ from rfl)
            have g5' := blk_frozen HN.out.he 0
            have hnet : es0 ++ snkE q l q.length = netE q l pu := by unfold netE; rw [← HES.out]
            rw [hnet] at HN y5
            have hw3 : wrap64 (1 + (l.length : Int) + (q.length : Int) + 1) = 2 + (l.length : Int) + (q.length : Int) := by unfold wrap64; omega
            obtain ⟨m, hm⟩ : ∃ m, (netE q l pu).length = m := ⟨_, rfl⟩
            rw [hm] at HN y5
            have HH := Aside0.mk hm
            clear hm hnet hle
            gi_wp2_with fail
            gi_region
            have hst := (HN.out.stay (.slice Av m cv) rfl).after (below_drew (Below.refl _ _))
            have hD7 : (wr.setCell ⟨w.heap.size + 1 + 1, 0, none⟩ (.slice Av m cv)).drew.heap[D]? = some (.deferred (some [])) := set_far (show wr.heap[D]? = _ from HKD.out) (Ne.symm HDW.out.2) _
            obtain ⟨W7, hW7⟩ : ∃ W7, (wr.setCell ⟨w.heap.size + 1 + 1, 0, none⟩ (.slice Av m cv)).drew = W7 := ⟨_, rfl⟩
            rw [hW7] at hst hD7 ⊢
            have HST := Aside0.mk hst
            have HD7 := Aside0.mk hD7
            have hw4 : 1 + (l.length : Int) + (q.length : Int) + 1 = 2 + (l.length : Int) + (q.length : Int) := by omega
            rw [hw4]
            clear hst hD7 hW7 y5 g5'
            gi_wp2
            have hst := HST.out
            have hD7 := HD7.out
            refine ⟨by simp, .inl ⟨_, _, rfl, run_takeDeferred hD7, ?_⟩⟩
            have hN8 := hst.own (grownBy_putObj' W7 D (.deferred none)) (fun r e => by cases e; exact ⟨HDW.out.1, _, hD7, rfl⟩)
            have r5 := (blk_cell hN8.he 0).trans (show _ = some _ from rfl)
            refine ⟨.tuple #[.int .i64 (2 + (l.length : Int) + (q.length : Int)), .slice Av m cv, .int .i64 0], ?_, ?_, ?_, ?_⟩
            · have hr : Try.f61.results = #[.tmp 4, .cell 5 22, .tmp 6] := rfl
              have hu := Try.underlying22
              simp [results, hr, go_sem, r5, hu, loadVar]
            · intro h; exact absurd HASK.out h
            · intro _; exact ⟨_, rfl, Kd.Q_mono hN8.row (fun _ _ => trivial)⟩
            · exact hN8.below
      case stop =>
        rintro D cc pre W _ _ h _
        exact h.elim
end Go.Proofs.Ytadeidhefjifaaa.Px
end
section
set_option linter.unusedVariables false
set_option linter.unusedSimpArgs false
namespace Go.Proofs.Ytadeidhefjifaaa.Px.L20
open Go.RowKit Go.Proofs.YtadeidhefjifaaaW.PrintWords Go.Proofs.YtadeidhefjifaaaW.PrintLast Go.Proofs.YtadeidhefjifaaaW.PrintMore
/-- from some number of rounds on -/
def Ev {α : Type} (f : Nat → Option α) (r : α) : Prop := ∃ K, ∀ k, K ≤ k → f k = some r
section
variable {α β : Type} {f F A B : Nat → Option α} {r x : α} {y : β} {g : Nat → α → Option β} {c : Prop} [Decidable c]
theorem Ev.of (r : α) : Ev (fun _ => some r) r := ⟨0, fun _ _ => rfl⟩
theorem Ev.step (h : Ev F r) (e : ∀ k, f (k + 1) = F k) : Ev f r := by
  obtain ⟨K, h⟩ := h
  refine ⟨K + 1, fun k hk => ?_⟩
  obtain ⟨j, rfl⟩ : ∃ j, k = j + 1 := ⟨k - 1, by omega⟩
  rw [e]; exact h j (by omega)
theorem Ev.congr (h : Ev F r) (e : ∀ k, f k = F k) : Ev f r := by
  obtain ⟨K, h⟩ := h
  exact ⟨K, fun k hk => by rw [e]; exact h k hk⟩
theorem Ev.bind (h : Ev f x) (k : Ev (fun j => g j x) y) : Ev (fun j => (f j).bind (g j)) y := by
  obtain ⟨K, h⟩ := h
  obtain ⟨L, k⟩ := k
  exact ⟨K + L, fun j hj => by show (f j).bind (g j) = _; rw [h j (by omega)]; exact k j (by omega)⟩
theorem Ev.pos (hc : c) (h : Ev A r) : Ev (fun k => if c then A k else B k) r := h.congr fun k => if_pos hc
theorem Ev.neg (hc : ¬ c) (h : Ev B r) : Ev (fun k => if c then A k else B k) r := h.congr fun k => if_neg hc
theorem Ev.eq {r' : α} (h : Ev f r) (e : r = r') : Ev f r' := e ▸ h
theorem Ev.at (h : Ev f r) : ∃ k, f k = some r := by
  obtain ⟨K, h⟩ := h
  exact ⟨K, h K (Nat.le_refl _)⟩
theorem Ev.mono {K : Nat} (h : f K = some r) (hm : ∀ k, LeO (f k) (f (k + 1))) : Ev f r := by
  refine ⟨K, fun k hk => ?_⟩
  induction k with
  | zero => have : K = 0 := by omega
            rw [← this]; exact h
  | succ k ih =>
    by_cases e : K = k + 1
    · rw [← e]; exact h
    · exact hm k r (ih (by omega))
end
theorem wrap_id (x : Int) (h0 : -9223372036854775808 ≤ x) (h1 : x ≤ 9223372036854775807) : wrap64 x = x := by
  unfold wrap64; omega
def sg (f : Nat → Int) : Nat → Int
  | 0 => 0
  | n + 1 => sg f n + f n
theorem sg_le {f g : Nat → Int} : ∀ {n : Nat}, (∀ i, i < n → f i ≤ g i) → sg f n ≤ sg g n
  | 0, _ => Int.le_refl _
  | n + 1, h => by
    have := sg_le (n := n) fun i hi => h i (by omega)
    have := h n (by omega)
    simp only [sg]; omega
theorem sg_congr {f g : Nat → Int} {n : Nat} (h : ∀ i, i < n → f i = g i) : sg f n = sg g n := by
  have := sg_le fun i hi => Int.le_of_eq (h i hi)
  have := sg_le fun i hi => Int.le_of_eq (h i hi).symm
  omega
theorem sg_add (f g : Nat → Int) : ∀ n, sg (fun i => f i + g i) n = sg f n + sg g n
  | 0 => rfl
  | n + 1 => by simp only [sg, sg_add f g n]; omega
theorem sg_sub (f g : Nat → Int) : ∀ n, sg (fun i => f i - g i) n = sg f n - sg g n
  | 0 => rfl
  | n + 1 => by simp only [sg, sg_sub f g n]; omega
theorem sg_zero : ∀ n, sg (fun _ => 0) n = 0
  | 0 => rfl
  | n + 1 => by simp only [sg, sg_zero n]; rfl
theorem sg_none (v : Int) (j : Nat) : ∀ n, n ≤ j → sg (fun i => if i = j then v else 0) n = 0
  | 0, _ => rfl
  | n + 1, h => by simp only [sg]; rw [sg_none v j n (by omega), if_neg (by omega)]; rfl
theorem sg_one (v : Int) (j : Nat) : ∀ n, j < n → sg (fun i => if i = j then v else 0) n = v
  | 0, h => by omega
  | n + 1, h => by
    simp only [sg]
    by_cases e : j = n
    · subst e; rw [sg_none v j j (Nat.le_refl _), if_pos rfl]; omega
    · rw [sg_one v j n (by omega), if_neg (by omega)]; omega
theorem sg_bound {f : Nat → Int} {b : Int} : ∀ {n : Nat}, (∀ i, i < n → 0 ≤ f i ∧ f i ≤ b) → 0 ≤ sg f n ∧ sg f n ≤ b * n
  | 0, _ => by simp [sg]
  | n + 1, h => by
    have h1 := sg_bound (n := n) fun i hi => h i (by omega)
    have h2 := h n (by omega)
    simp only [sg]
    have : b * ((n + 1 : Nat) : Int) = b * n + b := by rw [Int.natCast_add, Int.mul_add]; simp
    omega
/-- the credits of the uses that p picks -/
def sb (p : S57 → Bool) : List S57 → Int
  | [] => 0
  | u :: us => (if p u = true then u.f2 else 0) + sb p us
theorem sb_yes {p : S57 → Bool} {u : S57} {us : List S57} (h : p u = true) : sb p (u :: us) = u.f2 + sb p us := by rw [sb, if_pos h]
theorem sb_no {p : S57 → Bool} {u : S57} {us : List S57} (h : ¬ p u = true) : sb p (u :: us) = sb p us := by rw [sb, if_neg h, Int.zero_add]
def atA (a : Int) (u : S57) : Bool := decide (u.f0 = a)
def atR (r : Int) (u : S57) : Bool := decide (u.f1 = r)
def atB (a r : Int) (u : S57) : Bool := decide (u.f0 = a ∧ u.f1 = r)
theorem rd_memA {l : List S44} {a : Int} (h0 : 0 ≤ a) (h1 : a < l.length) : rd_T44 l a ∈ l := by
  unfold rd_T44
  rw [List.getD_eq_getElem?_getD, List.getElem?_eq_getElem (by omega)]
  exact List.getElem_mem _
theorem rd_memQ {q : List S92} {a : Int} (h0 : 0 ≤ a) (h1 : a < q.length) : rd_T92 q a ∈ q := by
  unfold rd_T92
  rw [List.getD_eq_getElem?_getD, List.getElem?_eq_getElem (by omega)]
  exact List.getElem_mem _
/-- a programme and attempts that are in order, as far as the law asks -/
structure Gd (u : Int) (q : List S92) (l : List S44) : Prop where
  u1 : 1 ≤ u
  u4 : u ≤ 4
  len : q.length ≤ 64
  q1 : ∀ x ∈ q, 1 ≤ x.f1 ∧ x.f1 ≤ 10000
  l1 : ∀ x ∈ l, 0 ≤ x.f4 ∧ x.f4 ≤ 60
theorem gd_of {n u e mn md : Int} {q : List S92} {l : List S44} (h : askV n u e mn md q l = 0) : degV n u e mn md q = 0 ∧ attV l = 0 ∧ Gd u q l := by
  unfold askV at h
  split at h
  · rename_i h1
    refine ⟨h1, h, ?_⟩
    unfold degV at h1
    split at h1
    · rename_i h2
      simp only [Bool.and_eq_true, decide_eq_true_eq, inB, List.all_eq_true, goodQ] at h2
      unfold attV at h
      split at h
      · cases h
      · rename_i h3
        refine ⟨h2.1.1.1.1.1.2.1, h2.1.1.1.1.1.2.2, by omega, fun x hx => (h2.2 x hx).1.1, fun x hx => ?_⟩
        have h4 : goodA x = true := by
          by_cases hg : goodA x = true
          · exact hg
          · exact absurd (List.any_eq_true.2 ⟨x, hx, by simp [badA, hg]⟩) h3
        simp only [goodA, inB, Bool.and_eq_true, decide_eq_true_eq] at h4
        exact h4.2.2.2.2
    · cases h1
  · rename_i h1; exact absurd h h1
theorem cap_bound {u : Int} {q : List S92} {l : List S44} (G : Gd u q l) {a : Int} (h0 : 0 ≤ a) (h1 : a < l.length) : 0 ≤ (rd_T44 l a).f4 * u ∧ (rd_T44 l a).f4 * u ≤ 240 := by
  have h := G.l1 _ (rd_memA h0 h1)
  have := Int.mul_le_mul h.2 G.u4 (by have := G.u1; omega) (by omega)
  exact ⟨Int.mul_nonneg h.1 (by have := G.u1; omega), by omega⟩
def Use (q : List S92) (l : List S44) (u : S57) : Prop := 0 ≤ u.f0 ∧ u.f0 < l.length ∧ 0 ≤ u.f1 ∧ u.f1 < q.length ∧ 1 ≤ u.f2 ∧ u.f2 ≤ (rd_T44 l u.f0).f4 ∧ eligB (rd_T92 q u.f1) (rd_T44 l u.f0) = true
/-- one step of the walk over the uses -/
theorem al_cons {pu : Int} {q : List S92} {l : List S44} (G : Gd pu q l) {u : S57} {us : List S57} {pr : Option S57} {m1 m2 : Int → Int} (h : alGo q l pu pr m1 m2 (u :: us) = true) (h1 : ∀ a, 0 ≤ m1 a ∧ m1 a ≤ 240) (h2 : ∀ r, 0 ≤ m2 r ∧ m2 r ≤ 10000) :
    Use q l u ∧ useAft pr u = true ∧ m1 u.f0 + u.f2 ≤ (rd_T44 l u.f0).f4 * pu ∧ m2 u.f1 + u.f2 ≤ (rd_T92 q u.f1).f1 ∧ alGo q l pu (some u) (updM m1 u.f0 (m1 u.f0 + u.f2)) (updM m2 u.f1 (m2 u.f1 + u.f2)) us = true ∧
    (∀ a, 0 ≤ updM m1 u.f0 (m1 u.f0 + u.f2) a ∧ updM m1 u.f0 (m1 u.f0 + u.f2) a ≤ 240) ∧ (∀ r, 0 ≤ updM m2 u.f1 (m2 u.f1 + u.f2) r ∧ updM m2 u.f1 (m2 u.f1 + u.f2) r ≤ 10000) := by
  rw [alGo] at h
  simp only [Bool.and_eq_true, decide_eq_true_eq, useIn, useFit] at h
  obtain ⟨⟨⟨⟨a0, a1⟩, b0⟩, b1⟩, ha, ⟨⟨c0, c1⟩, hel⟩, hx, hy, hr⟩ := h
  have hcap := cap_bound G a0 a1
  have hcr := G.l1 _ (rd_memA a0 a1)
  have hq := G.q1 _ (rd_memQ b0 b1)
  have k1 := h1 u.f0
  have k2 := h2 u.f1
  rw [wrap_id (m1 u.f0 + u.f2) (by omega) (by omega)] at hx hr
  rw [wrap_id (m2 u.f1 + u.f2) (by omega) (by omega)] at hy hr
  rw [wrap_id ((rd_T44 l u.f0).f4 * pu) (by omega) (by omega)] at hx
  refine ⟨⟨a0, a1, b0, b1, c0, c1, hel⟩, ha, hx, hy, hr, fun a => ?_, fun r => ?_⟩
  · unfold updM; split
    · omega
    · exact h1 a
  · unfold updM; split
    · omega
    · exact h2 r
theorem al_use {pu : Int} {q : List S92} {l : List S44} (G : Gd pu q l) : ∀ (us : List S57) (pr : Option S57) (m1 m2 : Int → Int), alGo q l pu pr m1 m2 us = true → (∀ a, 0 ≤ m1 a ∧ m1 a ≤ 240) → (∀ r, 0 ≤ m2 r ∧ m2 r ≤ 10000) → ∀ u ∈ us, Use q l u
  | [], _, _, _, _, _, _ => fun u hu => by cases hu
  | u :: us, pr, m1, m2, h, h1, h2 => by
    obtain ⟨hu, _, _, _, hr, k1, k2⟩ := al_cons G h h1 h2
    intro x hx
    rcases List.mem_cons.1 hx with rfl | hx
    · exact hu
    · exact al_use G us _ _ _ hr k1 k2 x hx
theorem al_row {pu : Int} {q : List S92} {l : List S44} (G : Gd pu q l) (a : Int) : ∀ (us : List S57) (pr : Option S57) (m1 m2 : Int → Int), alGo q l pu pr m1 m2 us = true → (∀ a, 0 ≤ m1 a ∧ m1 a ≤ 240) → (∀ r, 0 ≤ m2 r ∧ m2 r ≤ 10000) → m1 a ≤ (rd_T44 l a).f4 * pu → m1 a + sb (atA a) us ≤ (rd_T44 l a).f4 * pu
  | [], _, _, _, _, _, _, h => by simp only [sb]; omega
  | u :: us, pr, m1, m2, h, h1, h2, hm => by
    obtain ⟨hu, _, hx, _, hr, k1, k2⟩ := al_cons G h h1 h2
    have ih := al_row G a us _ _ _ hr k1 k2
    by_cases e : u.f0 = a
    · subst e
      have hv : updM m1 u.f0 (m1 u.f0 + u.f2) u.f0 = m1 u.f0 + u.f2 := if_pos rfl
      rw [hv] at ih
      rw [sb_yes (by simp [atA])]
      have := ih hx
      omega
    · have hv : updM m1 u.f0 (m1 u.f0 + u.f2) a = m1 a := if_neg (fun h => e h.symm)
      rw [hv] at ih
      rw [sb_no (by simp [atA, e])]
      have := ih hm
      omega
theorem al_col {pu : Int} {q : List S92} {l : List S44} (G : Gd pu q l) (r : Int) : ∀ (us : List S57) (pr : Option S57) (m1 m2 : Int → Int), alGo q l pu pr m1 m2 us = true → (∀ a, 0 ≤ m1 a ∧ m1 a ≤ 240) → (∀ r, 0 ≤ m2 r ∧ m2 r ≤ 10000) → m2 r ≤ (rd_T92 q r).f1 → m2 r + sb (atR r) us ≤ (rd_T92 q r).f1
  | [], _, _, _, _, _, _, h => by simp only [sb]; omega
  | u :: us, pr, m1, m2, h, h1, h2, hm => by
    obtain ⟨hu, _, _, hx, hr, k1, k2⟩ := al_cons G h h1 h2
    have ih := al_col G r us _ _ _ hr k1 k2
    by_cases e : u.f1 = r
    · subst e
      have hv : updM m2 u.f1 (m2 u.f1 + u.f2) u.f1 = m2 u.f1 + u.f2 := if_pos rfl
      rw [hv] at ih
      rw [sb_yes (by simp [atR])]
      have := ih hx
      omega
    · have hv : updM m2 u.f1 (m2 u.f1 + u.f2) r = m2 r := if_neg (fun h => e h.symm)
      rw [hv] at ih
      rw [sb_no (by simp [atR, e])]
      have := ih hm
      omega
theorem al_before {pu : Int} {q : List S92} {l : List S44} (G : Gd pu q l) (a r : Int) : ∀ (us : List S57) (v : S57) (m1 m2 : Int → Int), alGo q l pu (some v) m1 m2 us = true → (∀ a, 0 ≤ m1 a ∧ m1 a ≤ 240) → (∀ r, 0 ≤ m2 r ∧ m2 r ≤ 10000) → (a < v.f0 ∨ (a = v.f0 ∧ r ≤ v.f1)) → sb (atB a r) us = 0
  | [], _, _, _, _, _, _, _ => rfl
  | u :: us, v, m1, m2, h, h1, h2, hv => by
    obtain ⟨hu, ha, _, hx, hr, k1, k2⟩ := al_cons G h h1 h2
    simp only [useAft, Bool.not_eq_true', Bool.or_eq_false_iff, decide_eq_false_iff_not, Bool.and_eq_false_iff, beq_eq_false_iff_ne] at ha
    have ih := al_before G a r us u _ _ hr k1 k2 (by omega)
    rw [sb_no (by simp [atB]; omega), ih]
theorem al_one {pu : Int} {q : List S92} {l : List S44} (G : Gd pu q l) (a r : Int) (h0 : 0 ≤ a) (h9 : a < l.length) : ∀ (us : List S57) (pr : Option S57) (m1 m2 : Int → Int), alGo q l pu pr m1 m2 us = true → (∀ a, 0 ≤ m1 a ∧ m1 a ≤ 240) → (∀ r, 0 ≤ m2 r ∧ m2 r ≤ 10000) → sb (atB a r) us ≤ (rd_T44 l a).f4
  | [], _, _, _, _, _, _ => by have := G.l1 _ (rd_memA h0 h9); simp only [sb]; omega
  | u :: us, pr, m1, m2, h, h1, h2 => by
    obtain ⟨hu, ha, _, hx, hr, k1, k2⟩ := al_cons G h h1 h2
    by_cases e : u.f0 = a ∧ u.f1 = r
    · rw [sb_yes (by simp [atB, e])]
      have h3 := al_before G a r us u _ _ hr k1 k2 (by omega)
      obtain ⟨_, _, _, _, _, hc, _⟩ := hu
      rw [e.1] at hc
      omega
    · rw [sb_no (by simpa [atB] using e)]
      exact al_one G a r h0 h9 us _ _ _ hr k1 k2
/-- the rules that an allowed assignment keeps -/
structure Al (q : List S92) (l : List S44) (pu : Int) (us : List S57) : Prop where
  use : ∀ u ∈ us, Use q l u
  row : ∀ a : Int, 0 ≤ a → a < l.length → sb (atA a) us ≤ (rd_T44 l a).f4 * pu
  col : ∀ r : Int, 0 ≤ r → r < q.length → sb (atR r) us ≤ (rd_T92 q r).f1
  one : ∀ a r : Int, 0 ≤ a → a < l.length → sb (atB a r) us ≤ (rd_T44 l a).f4
theorem al_all {pu : Int} {q : List S92} {l : List S44} (G : Gd pu q l) {us : List S57} (h : alGo q l pu none (fun _ => 0) (fun _ => 0) us = true) : Al q l pu us := by
  have z1 : ∀ a : Int, 0 ≤ (fun _ : Int => (0 : Int)) a ∧ (fun _ : Int => (0 : Int)) a ≤ 240 := fun a => by simp
  have z2 : ∀ a : Int, 0 ≤ (fun _ : Int => (0 : Int)) a ∧ (fun _ : Int => (0 : Int)) a ≤ 10000 := fun a => by simp
  refine ⟨al_use G us _ _ _ h z1 z2, fun a h0 h1 => ?_, fun r h0 h1 => ?_, fun a r h0 h1 => al_one G a r h0 h1 us _ _ _ h z1 z2⟩
  · have := al_row G a us _ _ _ h z1 z2 (cap_bound G h0 h1).1; simpa using this
  · have := al_col G r us _ _ _ h z1 z2 (by have := G.q1 _ (rd_memQ h0 h1); show (0 : Int) ≤ _; omega); simpa using this
theorem sb_nonneg {p : S57 → Bool} : ∀ {us : List S57}, (∀ u ∈ us, 1 ≤ u.f2) → 0 ≤ sb p us
  | [], _ => Int.le_refl _
  | u :: us, h => by
    have := sb_nonneg (p := p) (us := us) fun x hx => h x (by simp [hx])
    have := h u (by simp)
    by_cases e : p u = true
    · rw [sb_yes e]; omega
    · rw [sb_no e]; omega
theorem sg_split {p : S57 → Bool} {c : S57 → Int} {m : Nat} {pk : Nat → S57 → Bool} (hpk : ∀ k u, pk k u = (p u && decide (c u = k))) : ∀ {us : List S57}, (∀ u ∈ us, 0 ≤ c u ∧ c u < m) → sg (fun k => sb (pk k) us) m = sb p us
  | [], _ => sg_zero m
  | u :: us, h => by
    have ih := sg_split hpk (us := us) fun x hx => h x (by simp [hx])
    have hu := h u (by simp)
    simp only [sb]
    rw [sg_add, ih]
    congr 1
    by_cases e : p u = true
    · rw [if_pos e]
      refine (sg_congr fun k hk => ?_).trans (sg_one u.f2 (c u).toNat m (by omega))
      simp only [hpk, e, Bool.true_and, decide_eq_true_eq]
      by_cases e1 : c u = (k : Int)
      · rw [if_pos e1, if_pos (by omega)]
      · rw [if_neg e1, if_neg (by omega)]
    · rw [if_neg e]
      refine (sg_congr fun k hk => ?_).trans (sg_zero m)
      rw [if_neg (by simp [hpk, e])]
/-- all credits of an assignment -/
def allS (us : List S57) : Int := sb (fun _ => true) us
theorem flat_sum (f : Nat → List Int) : ∀ n, ((List.range n).flatMap f).sum = sg (fun j => (f j).sum) n
  | 0 => rfl
  | n + 1 => by rw [range_flat, List.sum_append, flat_sum f n]; rfl
def rowS (q : List S92) (cr : List Bool) (a : S44) (m : Nat) : Int := sg (fun k => if rdOf false cr (k : Int) = false ∧ eligB (rd_T92 q k) a = true then a.f4 else 0) m
theorem row_sum (q : List S92) (cr : List Bool) (a : S44) (m : Nat) : (rowP q cr a m).sum = rowS q cr a m := by
  unfold rowP rowS
  rw [flat_sum]
  refine sg_congr fun k hk => ?_
  split <;> simp
def outS (q : List S92) (l : List S44) (pu : Int) (ca cr : List Bool) (j : Nat) : Int := if rdOf false ca (j : Int) = false then (rd_T44 l j).f4 * pu else rowS q cr (rd_T44 l j) q.length
def finS (q : List S92) (cr : List Bool) (k : Nat) : Int := if rdOf false cr (k : Int) = true then (rd_T92 q k).f1 else 0
theorem acr_sum {pu : Int} {q : List S92} {l : List S44} (G : Gd pu q l) (ca cr : List Bool) : (acrL q l pu ca cr).sum = sg (outS q l pu ca cr) l.length + sg (finS q cr) q.length := by
  unfold acrL outP finP
  rw [List.sum_append, flat_sum, flat_sum]
  congr 1
  · refine sg_congr fun j hj => ?_
    unfold outS
    split
    · have := cap_bound G (a := j) (by omega) (by omega)
      rw [wrap_id _ (by omega) (by omega)]; simp
    · exact row_sum _ _ _ _
  · refine sg_congr fun j hj => ?_
    unfold finS
    split <;> simp
theorem row_bound {pu : Int} {q : List S92} {l : List S44} (G : Gd pu q l) (cr : List Bool) {j : Nat} (hj : j < l.length) : 0 ≤ rowS q cr (rd_T44 l j) q.length ∧ rowS q cr (rd_T44 l j) q.length ≤ 3840 := by
  have h := G.l1 _ (rd_memA (a := j) (by omega) (by omega))
  have := sg_bound (b := 60) (n := q.length) (f := fun k => if rdOf false cr (k : Int) = false ∧ eligB (rd_T92 q k) (rd_T44 l j) = true then (rd_T44 l j).f4 else 0) fun i hi => by split <;> omega
  have := G.len
  unfold rowS
  omega
theorem out_bound {pu : Int} {q : List S92} {l : List S44} (G : Gd pu q l) (ca cr : List Bool) {j : Nat} (hj : j < l.length) : 0 ≤ outS q l pu ca cr j ∧ outS q l pu ca cr j ≤ 3840 := by
  unfold outS
  split
  · have := cap_bound G (a := j) (by omega) (by omega); omega
  · exact row_bound G cr hj
theorem fin_bound {pu : Int} {q : List S92} {l : List S44} (G : Gd pu q l) (cr : List Bool) {k : Nat} (hk : k < q.length) : 0 ≤ finS q cr k ∧ finS q cr k ≤ 10000 := by
  have := G.q1 _ (rd_memQ (a := k) (by omega) (by omega))
  unfold finS
  split <;> omega
theorem less_eq : ∀ (xs : List Int) (s : Int), (∀ x ∈ xs, 0 ≤ x) → -9223372036854775808 ≤ s - xs.sum → s ≤ 9223372036854775807 → lessL s xs = s - xs.sum
  | [], s, _, _, _ => by simp [lessL]
  | x :: xs, s, h, h0, h1 => by
    have hx := h x (by simp)
    have hs : 0 ≤ xs.sum := by
      clear h0 h1
      induction xs with
      | nil => simp
      | cons y ys ih =>
        have := h y (by simp)
        have := ih fun z hz => h z (by
          rcases List.mem_cons.1 hz with rfl | hz
          · simp
          · simp [hz])
        simp only [List.sum_cons]; omega
    simp only [List.sum_cons] at h0 ⊢
    have := less_eq xs (s - x) (fun y hy => h y (by simp [hy])) (by omega) (by omega)
    unfold lessL at this ⊢
    rw [List.foldl_cons, wrap_id _ (by omega) (by omega), this]
    omega
def sumW (l : List Int) (s : Int) : Int := l.foldl (fun s x => wrap64 (s + x)) s
theorem sumW_eq : ∀ (xs : List Int) (s : Int), (∀ x ∈ xs, 0 ≤ x ∧ x ≤ 10000) → 0 ≤ s → s + 10000 * (xs.length : Int) ≤ 9223372036854775807 → sumW xs s = s + xs.sum
  | [], s, _, _, _ => by simp [sumW]
  | x :: xs, s, h, h0, h1 => by
    have hx := h x (by simp)
    simp only [List.length_cons, Int.natCast_add] at h1
    have := sumW_eq xs (s + x) (fun y hy => h y (by simp [hy])) (by omega) (by omega)
    unfold sumW at this ⊢
    simp only [List.sum_cons]
    rw [List.foldl_cons, wrap_id _ (by omega) (by omega), this]
    omega
theorem list_sg (xs : List Int) : ∀ n, n ≤ xs.length → (xs.take n).sum = sg (fun k => rd xs k) n
  | 0, _ => by simp [sg]
  | n + 1, h => by
    rw [List.take_add_one, List.sum_append, list_sg xs n (by omega), List.getElem?_eq_getElem (by omega)]
    simp only [sg, rd]
    simp [List.getD_eq_getElem?_getD, List.getElem?_eq_getElem (show n < xs.length by omega)]
theorem list_sum (xs : List Int) : xs.sum = sg (fun k => rd xs k) xs.length := by
  have := list_sg xs xs.length (Nat.le_refl _)
  rwa [List.take_length] at this
/-- all credits that are asked -/
def totS (q : List S92) : Int := sg (fun k => (rd_T92 q k).f1) q.length
theorem rd_f1 (q : List S92) {k : Nat} (hk : k < q.length) : rd (q.map S92.f1) (k : Int) = (rd_T92 q k).f1 := by
  unfold rd rd_T92
  simp [List.getD_eq_getElem?_getD, List.getElem?_eq_getElem hk]
theorem tot_eq {pu : Int} {q : List S92} {l : List S44} (G : Gd pu q l) : totV q = totS q := by
  have h : totV q = sumW (q.map S92.f1) 0 := by unfold totV sumW; rw [List.foldl_map]
  have := G.len
  rw [h, sumW_eq _ _ (fun x hx => ?_) (Int.le_refl _) (by simp only [List.length_map]; omega), list_sum, Int.zero_add, List.length_map]
  · exact sg_congr fun k hk => rd_f1 q hk
  · obtain ⟨y, hy, rfl⟩ := List.mem_map.1 hx
    have := G.q1 y hy
    exact ⟨by omega, this.2⟩
theorem tot_bound {pu : Int} {q : List S92} {l : List S44} (G : Gd pu q l) : 0 ≤ totS q ∧ totS q ≤ 640000 := by
  have := sg_bound (n := q.length) (b := 10000) (f := fun k => (rd_T92 q k).f1) fun i hi => by have := G.q1 _ (rd_memQ (a := i) (by omega) (by omega)); exact ⟨by omega, this.2⟩
  have := G.len
  unfold totS; omega
theorem acr_pos {pu : Int} {q : List S92} {l : List S44} (G : Gd pu q l) (ca cr : List Bool) : ∀ x ∈ acrL q l pu ca cr, 0 ≤ x := by
  intro x hx
  unfold acrL outP finP rowP at hx
  simp only [List.mem_append, List.mem_flatMap, List.mem_range] at hx
  rcases hx with ⟨j, hj, hx⟩ | ⟨k, hk, hx⟩
  · split at hx
    · have := cap_bound G (a := j) (by omega) (by omega)
      rw [wrap_id _ (by omega) (by omega)] at hx
      simp only [List.mem_singleton] at hx
      omega
    · simp only [List.mem_flatMap, List.mem_range] at hx
      obtain ⟨k, hk, hx⟩ := hx
      have := G.l1 _ (rd_memA (l := l) (a := (j : Int)) (by omega) (by omega))
      split at hx
      · simp only [List.mem_singleton] at hx; omega
      · cases hx
  · have := G.q1 _ (rd_memQ (a := k) (by omega) (by omega))
    split at hx
    · simp only [List.mem_singleton] at hx; omega
    · cases hx
/-- what a cut says -/
theorem bound_eq {pu : Int} {q : List S92} {l : List S44} (G : Gd pu q l) (hl : l.length ≤ 12000000) (ca cr : List Bool) : lessL (totV q) (acrL q l pu ca cr) = totS q - (sg (outS q l pu ca cr) l.length + sg (finS q cr) q.length) := by
  have h1 := sg_bound (b := 3840) (n := l.length) (f := outS q l pu ca cr) fun i hi => out_bound G ca cr hi
  have h2 := sg_bound (b := 10000) (n := q.length) (f := finS q cr) fun i hi => fin_bound G cr hi
  have h3 := tot_bound G
  have := G.len
  rw [tot_eq G, less_eq _ _ (acr_pos G ca cr) (by rw [acr_sum G]; omega) (by omega), acr_sum G]
def misGo : List S57 → List Int → Option (List Int)
  | [], r => some r
  | u :: us, r => if u.f1 < 0 ∨ (r.length : Int) ≤ u.f1 ∨ u.f2 < 1 ∨ rd r u.f1 < u.f2 then none else misGo us (r.set u.f1.toNat (wrap64 (rd r u.f1 - u.f2)))
def misR : Option (List Int) → Int × Int
  | none => (0, 200)
  | some r => (sumW r 0, 0)
def missV (n u e mn md : Int) (q : List S92) (us : List S57) : Int × Int := if degV n u e mn md q = 0 then misR (misGo us (q.map S92.f1)) else (0, degV n u e mn md q)
theorem drop_one {α : Type} (d : α) (l : List α) {i : Int} (h0 : 0 ≤ i) (h : i < l.length) : l.drop i.toNat = l.getD i.toNat d :: l.drop (i + 1).toNat := by
  rw [show (i + 1).toNat = i.toNat + 1 by omega, List.drop_eq_getElem_cons (by omega), List.getD_eq_getElem?_getD, List.getElem?_eq_getElem (by omega)]
  rfl
theorem mis_l2 (xs : List Int) (hx : xs.length ≤ 64) : ∀ (n : Nat) (i s : Int), 0 ≤ i → i ≤ xs.length → n = xs.length - i.toNat → Ev (fun k => proof_Missing.l2 k s xs (xs.length : Int) i) (sumW (xs.drop i.toNat) s, 0) := by
  intro n
  induction n with
  | zero =>
    intro i s h0 h1 hn
    refine Ev.step ?_ (fun k => by rw [proof_Missing.l2])
    refine Ev.neg (by omega) ((Ev.of _).eq ?_)
    rw [List.drop_of_length_le (by omega)]; rfl
  | succ n ih =>
    intro i s h0 h1 hn
    refine Ev.step ?_ (fun k => by rw [proof_Missing.l2])
    refine Ev.pos (by omega) (Ev.pos h0 (Ev.pos (by omega) ?_))
    rw [wrap_id (i + 1) (by omega) (by omega)]
    refine (ih (i + 1) _ (by omega) (by omega) (by omega)).eq ?_
    rw [drop_one 0 xs h0 (by omega)]
    rfl
theorem mis_l1 (us : List S57) (hus : us.length ≤ 100000) : ∀ (n : Nat) (i : Int) (r : List Int), 0 ≤ i → i ≤ us.length → n = us.length - i.toNat → r.length ≤ 64 → Ev (fun k => proof_Missing.l1 k 0 r us (us.length : Int) i) (misR (misGo (us.drop i.toNat) r)) := by
  intro n
  induction n with
  | zero =>
    intro i r h0 h1 hn hr
    refine Ev.step ?_ (fun k => by rw [proof_Missing.l1])
    refine Ev.neg (by omega) ?_
    refine (mis_l2 r hr r.length 0 0 (by omega) (by omega) (by simp)).eq ?_
    rw [show us.drop i.toNat = [] from List.drop_of_length_le (by omega)]; rfl
  | succ n ih =>
    intro i r h0 h1 hn hr
    refine Ev.step ?_ (fun k => by rw [proof_Missing.l1])
    refine Ev.pos (by omega) (Ev.pos h0 (Ev.pos (by omega) ?_))
    have hd := drop_one z57 us h0 (by omega)
    have hd : us.drop i.toNat = rd_T57 us i :: us.drop (i + 1).toNat := hd
    rw [hd]
    generalize rd_T57 us i = u at *
    have hbad : ∀ b : Bool, (b = true ↔ (u.f1 < 0 ∨ (r.length : Int) ≤ u.f1 ∨ u.f2 < 1 ∨ rd r u.f1 < u.f2)) → Ev (fun k => proof_Missing.j2 k 0 r us (us.length : Int) i b u.f0 u.f1 u.f2) (misR (misGo (u :: us.drop (i + 1).toNat) r)) := by
      intro b hb
      refine Ev.step ?_ (fun k => by rw [proof_Missing.j2])
      by_cases hb1 : b = true
      · refine Ev.pos hb1 ((Ev.of _).eq ?_)
        rw [misGo, if_pos (hb.1 hb1)]; rfl
      · have hn1 : ¬ (u.f1 < 0 ∨ (r.length : Int) ≤ u.f1 ∨ u.f2 < 1 ∨ rd r u.f1 < u.f2) := fun h => hb1 (hb.2 h)
        refine Ev.neg hb1 (Ev.pos (by omega) (Ev.pos (by omega) ?_))
        rw [wrap_id (i + 1) (by omega) (by omega), misGo, if_neg hn1]
        exact ih (i + 1) _ (by omega) (by omega) (by omega) (by simpa using hr)
    by_cases c1 : u.f1 < 0
    · exact Ev.pos c1 (hbad true (by simp [c1]))
    · refine Ev.neg c1 ?_
      by_cases c2 : u.f1 ≥ (r.length : Int)
      · exact Ev.pos c2 (hbad true (by simp; omega))
      · refine Ev.neg c2 ?_
        by_cases c3 : u.f2 < 1
        · exact Ev.pos c3 (hbad true (by simp [c3]))
        · refine Ev.neg c3 (Ev.pos (by omega) (Ev.pos (by omega) (hbad _ ?_)))
          rw [decide_eq_true_eq]
          omega
theorem mis_l0 (us : List S57) (q : List S92) (hq : q.length ≤ 64) {z : Int × Int} (hE : Ev (fun k => proof_Missing.l1 k 0 (q.map S92.f1) us (us.length : Int) 0) z) : ∀ (n : Nat) (i : Int) (r : List Int), 0 ≤ i → i ≤ q.length → n = q.length - i.toNat → r.length = q.length → r.take i.toNat = (q.map S92.f1).take i.toNat → Ev (fun k => proof_Missing.l0 k us 0 r q (q.length : Int) i) z := by
  intro n
  induction n with
  | zero =>
    intro i r h0 h1 hn hr ht
    refine Ev.step ?_ (fun k => by rw [proof_Missing.l0])
    refine Ev.neg (by omega) ?_
    rw [List.take_of_length_le (by omega), List.take_of_length_le (by simp; omega)] at ht
    rw [ht]; exact hE
  | succ n ih =>
    intro i r h0 h1 hn hr ht
    refine Ev.step ?_ (fun k => by rw [proof_Missing.l0])
    refine Ev.pos (by omega) (Ev.pos h0 (Ev.pos (by omega) (Ev.pos (by omega) ?_)))
    rw [wrap_id (i + 1) (by omega) (by omega)]
    refine ih (i + 1) _ (by omega) (by omega) (by omega) (by simpa using hr) ?_
    rw [show (i + 1).toNat = i.toNat + 1 by omega, List.take_add_one, List.take_add_one, List.take_set_of_le (Nat.le_refl _), ht, List.getElem?_set_self (by omega)]
    congr 1
    rw [List.getElem?_map, List.getElem?_eq_getElem (show i.toNat < q.length by omega)]
    unfold rd_T92
    simp [List.getD_eq_getElem?_getD, List.getElem?_eq_getElem (show i.toNat < q.length by omega)]
theorem ev_missL (s : ByteArray) (n u e mn md : Int) (q : List S92) (us : List S57) (hus : us.length ≤ 100000) : Ev (fun k => proof_Missing.f k s n u e mn md q us) (missV n u e mn md q us) := by
  unfold proof_Missing.f degree_Check.f
  refine Ev.bind (Ev.of _) ?_
  unfold missV
  by_cases h : degV n u e mn md q = 0
  · have hq : q.length ≤ 64 := by
      unfold degV at h
      split at h
      · rename_i h2
        simp only [Bool.and_eq_true, decide_eq_true_eq] at h2
        omega
      · cases h
    rw [if_pos h]
    refine Ev.pos h (Ev.pos (by omega) (Ev.pos (by omega) ?_))
    refine mis_l0 us q hq ?_ q.length 0 _ (by omega) (by omega) (by simp) (by simp) rfl
    exact mis_l1 us hus us.length 0 _ (by omega) (by omega) (by simp) (by simpa using hq)
  · rw [if_neg h]
    exact Ev.neg h (Ev.of _)
theorem rd_set (r : List Int) (i j v : Int) (h0 : 0 ≤ i) (h1 : i < r.length) (hj : 0 ≤ j) : rd (r.set i.toNat v) j = if j = i then v else rd r j := by
  unfold rd
  rw [List.getD_eq_getElem?_getD, List.getD_eq_getElem?_getD]
  by_cases e : j = i
  · subst e; rw [if_pos rfl, List.getElem?_set_self (by omega)]; rfl
  · rw [if_neg e, List.getElem?_set_ne (by omega)]
/-- an allowed assignment leaves open what it does not take -/
theorem mis_al {pu : Int} {q : List S92} {l : List S44} (G : Gd pu q l) : ∀ (us : List S57) (pr : Option S57) (m1 m2 : Int → Int) (rest : List Int), alGo q l pu pr m1 m2 us = true → (∀ a, 0 ≤ m1 a ∧ m1 a ≤ 240) → (∀ r, 0 ≤ m2 r ∧ m2 r ≤ 10000) → rest.length = q.length → (∀ r : Int, 0 ≤ r → r < q.length → rd rest r = (rd_T92 q r).f1 - m2 r) →
    ∃ rest', misGo us rest = some rest' ∧ rest'.length = q.length ∧ ∀ r : Int, 0 ≤ r → r < q.length → rd rest' r = (rd_T92 q r).f1 - m2 r - sb (atR r) us
  | [], _, _, _, rest, _, _, _, hl, hr => ⟨rest, rfl, hl, fun r h0 h1 => by simp only [sb]; have := hr r h0 h1; omega⟩
  | u :: us, pr, m1, m2, rest, h, h1, h2, hl, hr => by
    obtain ⟨hu, _, _, hx, hg, k1, k2⟩ := al_cons G h h1 h2
    obtain ⟨_, _, b0, b1, c0, _, _⟩ := hu
    have hru := hr u.f1 b0 b1
    have hq := G.q1 _ (rd_memQ b0 b1)
    have hm := h2 u.f1
    have hn : ¬ (u.f1 < 0 ∨ (rest.length : Int) ≤ u.f1 ∨ u.f2 < 1 ∨ rd rest u.f1 < u.f2) := by omega
    rw [misGo, if_neg hn, wrap_id (rd rest u.f1 - u.f2) (by omega) (by omega)]
    obtain ⟨rest', e1, e2, e3⟩ := mis_al G us _ _ _ (rest.set u.f1.toNat (rd rest u.f1 - u.f2)) hg k1 k2 (by simpa using hl) (fun r h0 h9 => by
      rw [rd_set _ _ _ _ b0 (by omega) h0]
      unfold updM
      by_cases e : r = u.f1
      · subst e; rw [if_pos rfl, if_pos rfl]; omega
      · rw [if_neg e, if_neg e]; exact hr r h0 h9)
    refine ⟨rest', e1, e2, fun r h0 h9 => ?_⟩
    rw [e3 r h0 h9]
    unfold updM
    by_cases e : r = u.f1
    · subst e; rw [if_pos rfl, sb_yes (by simp [atR])]; omega
    · rw [if_neg e, sb_no (by simp [atR]; omega)]
/-- .. and so Missing says -/
theorem miss_al {n u e mn md : Int} {q : List S92} {l : List S44} {us : List S57} (hg : degV n u e mn md q = 0) (G : Gd u q l) (h : alGo q l u none (fun _ => 0) (fun _ => 0) us = true) : missV n u e mn md q us = (totS q - allS us, 0) ∧ 0 ≤ totS q - allS us := by
  have A := al_all G h
  obtain ⟨r, h1, h2, h3⟩ := mis_al G us none _ _ (q.map S92.f1) h (fun a => by simp) (fun a => by simp) (by simp) (fun r h0 h9 => by
    have := rd_f1 q (k := r.toNat) (by omega)
    rw [show ((r.toNat : Nat) : Int) = r by omega] at this
    simp [this])
  have hel : ∀ k : Nat, k < q.length → rd r k = (rd_T92 q k).f1 - sb (atR k) us := fun k hk => by have := h3 k (by omega) (by omega); simpa using this
  have hall : sg (fun k => sb (atR k) us) q.length = allS us := sg_split (c := S57.f1) (fun k u => by simp [atR]) fun u hu => ⟨(A.use u hu).2.2.1, (A.use u hu).2.2.2.1⟩
  have hb : ∀ k : Nat, k < q.length → 0 ≤ rd r k ∧ rd r k ≤ 10000 := fun k hk => by
    have := A.col k (by omega) (by omega)
    have := G.q1 _ (rd_memQ (q := q) (a := k) (by omega) (by omega))
    have := sb_nonneg (p := atR k) (us := us) fun u hu => (A.use u hu).2.2.2.2.1
    rw [hel k hk]; omega
  have hsum : sg (fun k => rd r k) q.length = totS q - allS us := by
    rw [sg_congr hel, sg_sub, hall]; rfl
  have hlen := G.len
  have hS : sumW r 0 = totS q - allS us := by
    rw [sumW_eq _ _ (fun x hx => ?_) (Int.le_refl _) (by omega), list_sum, h2, hsum]; omega
    obtain ⟨i, hi, rfl⟩ := List.mem_iff_getElem.1 hx
    have := hb i (by omega)
    unfold rd at this
    rw [List.getD_eq_getElem?_getD, Int.toNat_natCast, List.getElem?_eq_getElem hi] at this
    exact this
  refine ⟨?_, ?_⟩
  · unfold missV
    rw [if_pos hg, h1]; show (sumW r 0, (0 : Int)) = _; rw [hS]
  · have := sg_bound hb; omega
theorem al_zero {n u e mn md : Int} {q : List S92} {l : List S44} {us : List S57} (h : alV n u e mn md q l us = 0) : askV n u e mn md q l = 0 ∧ alGo q l u none (fun _ => 0) (fun _ => 0) us = true := by
  unfold alV at h
  split at h
  · rename_i h1
    split at h
    · rename_i h2; exact ⟨h1, h2⟩
    · cases h
  · rename_i h1; exact absurd h h1
theorem ev_few (s : ByteArray) (n u e mn md : Int) (q : List S92) (l : List S44) : ∃ b, Ev (fun k => sizarref20_Few.f k s n u e mn md q l) b ∧ (b = true → q.length ≤ 10 ∧ l.length ≤ 12) := by
  have hloop : q.length ≤ 10 → ∀ (m : Nat) (i : Int), 0 ≤ i → i ≤ q.length → m = q.length - i.toNat → ∃ b, Ev (fun k => sizarref20_Few.l0 k i s n u e mn md q) b := by
    intro hq m
    induction m with
    | zero =>
      intro i h0 h1 hm
      refine ⟨true, Ev.step ?_ (fun k => by rw [sizarref20_Few.l0])⟩
      exact Ev.neg (by omega) (Ev.of _)
    | succ m ih =>
      intro i h0 h1 hm
      obtain ⟨b, hb⟩ := ih (i + 1) (by omega) (by omega) (by omega)
      by_cases c : (((rd_T92 q i).f5).length : Int) > 20
      · refine ⟨false, Ev.step ?_ (fun k => by rw [sizarref20_Few.l0])⟩
        exact Ev.pos (by omega) (Ev.pos h0 (Ev.pos c (Ev.of _)))
      · refine ⟨b, Ev.step ?_ (fun k => by rw [sizarref20_Few.l0])⟩
        refine Ev.pos (by omega) (Ev.pos h0 (Ev.neg c ?_))
        rw [wrap_id (i + 1) (by omega) (by omega)]
        exact hb
  unfold sizarref20_Few.f
  by_cases hq : (q.length : Int) > 10
  · refine ⟨false, Ev.pos hq (Ev.step ?_ (fun k => by rw [sizarref20_Few.j0])), fun h => by cases h⟩
    exact Ev.pos rfl (Ev.of _)
  · by_cases hl : (l.length : Int) > 12
    · refine ⟨false, Ev.neg hq (Ev.step ?_ (fun k => by rw [sizarref20_Few.j0])), fun h => by cases h⟩
      exact Ev.pos (decide_eq_true hl) (Ev.of _)
    · obtain ⟨b, hb⟩ := hloop (by omega) q.length 0 (by omega) (by omega) (by simp)
      refine ⟨b, Ev.neg hq (Ev.step ?_ (fun k => by rw [sizarref20_Few.j0])), fun _ => ⟨by omega, by omega⟩⟩
      exact Ev.neg (by simpa using hl) hb
end Go.Proofs.Ytadeidhefjifaaa.Px.L20
end
section
namespace Go.Proofs.Ytadeidhefjifaaa.Px
set_option linter.unusedVariables false
set_option linter.unusedSimpArgs false
open Go.RowKit Go.Proofs.YtadeidhefjifaaaW.PrintWords Go.Proofs.YtadeidhefjifaaaW.PrintLast Go.Proofs.YtadeidhefjifaaaW.PrintMore
/-- is v one of the nodes 0 .. n-1 -/
def nodeB (n v : Int) : Bool := decide (0 ≤ v) && decide (v < n)
/-- is an edge not valid -/
def badE (n : Int) (x : S61) : Bool := !nodeB n x.f0 || !nodeB n x.f1 || x.f0 == x.f1 || decide (x.f2 < 0) || decide (1073741824 < x.f2)
/-- the place of the first element that fits, counted from i on; -1 if none fits -/
def fIdx {α : Type} (p : α → Bool) : List α → Int → Int
  | [], _ => -1
  | x :: l, i => if p x = true then i else fIdx p l (i + 1)
theorem fIdx_any {α : Type} (p : α → Bool) : ∀ (l : List α) (i : Int), 0 ≤ i → decide (0 ≤ fIdx p l i) = l.any p
  | [], i, _ => by simp [fIdx]
  | x :: l, i, h => by
    simp only [fIdx, List.any_cons]
    by_cases hp : p x = true
    · simp [hp, h]
    · simp only [hp]; simpa using fIdx_any p l (i + 1) (by omega)
theorem chk1 (v n : Int) (B : Nat) (w : World) (hc : w.cell? ⟨B, 0, none⟩ = some (.int .i64 n)) :
    Calls Try.prog 45 #[.int .i64 v, .pointer (some ⟨B, 0, none⟩)] w fun e w' => e = .returned (.bool (nodeB n v)) ∧ w = w' := by
  unfold nodeB
  by_cases h1 : 0 ≤ v
  · have b1 : decide (0 ≤ v) = true := decide_eq_true h1
    have b2 : decide (v < 0) = false := decide_eq_false (by omega)
    go_enter Try.func45, Try.ntmps45
    go_wp2
    go_ret
    exact ⟨by simp; omega, rfl⟩
  · have b1 : decide (0 ≤ v) = false := decide_eq_false h1
    go_enter Try.func45, Try.ntmps45
    go_wp2
    go_ret
    exact ⟨by simp, rfl⟩
theorem cell_lt {w : World} {a : Addr} {v : Value} (h : w.cell? a = some v) (o : Obj) : (w.alloc o).cell? a = some v := pw_cell_below (below_alloc (Below.refl _ _) o) h
theorem below_cell {w W : World} (hb : Below w.heap.size w W) {a : Addr} {v : Value} (h : w.cell? a = some v) : W.cell? a = some v := pw_cell_below hb h
theorem drop_rd (l : List S61) (i : Int) (h0 : 0 ≤ i) (h : i < l.length) : l.drop i.toNat = rd_T61 l i :: l.drop (i + 1).toNat := by
  rw [List.drop_eq_getElem_cons (show i.toNat < l.length by omega), show (i + 1).toNat = i.toNat + 1 by omega]; congr 1; simp [rd_T61, List.getD, show i.toNat < l.length by omega]
set_option maxHeartbeats 1000000 in
theorem chk2 (n : Int) (x : S61) (Bf Bn : Nat) (w : World) (hn : w.cell? ⟨Bn, 0, none⟩ = some (.int .i64 n)) (hf : w.cell? ⟨Bf, 0, none⟩ = some (.func (.func 45) #[] #[.pointer (some ⟨Bn, 0, none⟩)])) :
    Calls Try.prog 47 #[.agg #[.int .i64 x.f0, .int .i64 x.f1, .int .i64 x.f2], .pointer (some ⟨Bf, 0, none⟩)] w fun e w' => e = .returned (.bool (badE n x)) ∧ Below w.heap.size w w' := by
  have hu61 := Try.underlying61
  have hn' := fun o => cell_lt hn o
  have hf' := fun o => cell_lt hf o
  have hb : ∀ o, Below w.heap.size w (w.alloc o) := fun o => below_alloc (Below.refl _ _) o
  unfold badE
  by_cases b1 : nodeB n x.f0 = true
  · by_cases b2 : nodeB n x.f1 = true
    · by_cases b3 : x.f0 = x.f1
      · have b3b : (x.f0 == x.f1) = true := beq_iff_eq.mpr b3
        clear b3
        go_enter Try.func47, Try.ntmps47
        go_wp2_with (go_at_call 45; refine (chk1 _ n _ _ (hn' _)).mono ?_; rintro e w' ⟨rfl, rfl⟩)
        go_ret
        exact ⟨by simp [b1, b2, b3b], hb _⟩
      · have b3b : (x.f0 == x.f1) = false := beq_eq_false_iff_ne.mpr b3
        clear b3
        by_cases b4 : x.f2 < 0
        · have b4b : decide (x.f2 < 0) = true := decide_eq_true b4
          clear b4
          go_enter Try.func47, Try.ntmps47
          go_wp2_with (go_at_call 45; refine (chk1 _ n _ _ (hn' _)).mono ?_; rintro e w' ⟨rfl, rfl⟩)
          go_ret
          exact ⟨by simp [b1, b2, b3b, b4b], hb _⟩
        · have b4b : decide (x.f2 < 0) = false := decide_eq_false b4
          clear b4
          go_enter Try.func47, Try.ntmps47
          go_wp2_with (go_at_call 45; refine (chk1 _ n _ _ (hn' _)).mono ?_; rintro e w' ⟨rfl, rfl⟩)
          go_ret
          exact ⟨by simp [b1, b2, b3b, b4b], hb _⟩
    · have b2' : nodeB n x.f1 = false := by simpa using b2
      clear b2
      go_enter Try.func47, Try.ntmps47
      go_wp2_with (go_at_call 45; refine (chk1 _ n _ _ (hn' _)).mono ?_; rintro e w' ⟨rfl, rfl⟩)
      go_ret
      exact ⟨by simp [b1, b2'], hb _⟩
  · have b1' : nodeB n x.f0 = false := by simpa using b1
    clear b1
    go_enter Try.func47, Try.ntmps47
    go_wp2_with (go_at_call 45; refine (chk1 _ n _ _ (hn' _)).mono ?_; rintro e w' ⟨rfl, rfl⟩)
    go_ret
    exact ⟨by simp [b1'], hb _⟩
set_option maxHeartbeats 1000000 in
set_option maxRecDepth 100000 in
theorem idxFunc61 (n : Int) (Bf Bn : Nat) (A : Option Addr) (c : Nat) (l : List S61) (w : World) (hr : Kd.C k61 w A l.length l) (hc : l.length ≤ c)
    (hn : w.cell? ⟨Bn, 0, none⟩ = some (.int .i64 n)) (hf : w.cell? ⟨Bf, 0, none⟩ = some (.func (.func 45) #[] #[.pointer (some ⟨Bn, 0, none⟩)])) :
    Calls Try.prog 73 #[.slice A l.length c, .func (.func 47) #[] #[.pointer (some ⟨Bf, 0, none⟩)]] w fun e w' => e = .returned (.int .i64 (fIdx (badE n) l 0)) ∧ Below w.heap.size w w' := by
  have hu61 := Try.underlying61
  have hm : (l.length : Int) ≤ 9223372036854775807 := by have := hr.2.1; omega
  have HR := Aside0.mk hr
  have HN := Aside0.mk hn
  have HF := Aside0.mk hf
  clear hr hn hf
  go_enter Try.func73, Try.ntmps73
  go_wp2_with fail
  go_loopw [8] (fun v wr => ∃ i : Int, v = .int .i64 i ∧ 0 ≤ i ∧ i ≤ l.length ∧ Aside0 (fIdx (badE n) (l.drop i.toNat) i = fIdx (badE n) l 0) ∧ Aside0 (Below w.heap.size w wr)) (fun v _ => l.length - (intOf v).toNat)
  case atStart => exact ⟨0, rfl, by omega, by omega, ⟨rfl⟩, ⟨Below.refl _ _⟩⟩
  case round =>
    obtain ⟨i, rfl, h0, h1, HI, HB⟩ := hrel
    by_cases hlt : i < l.length
    · have b0 : decide (i < (l.length : Int)) = true := decide_eq_true hlt
      have b1 : decide (0 ≤ i) = true := decide_eq_true h0
      obtain ⟨ad, e, x0, x1, x2⟩ := at_T61 (Kd.C_below HR.out HB.out) i h0 hlt
      cases e
      have hd := Aside0.mk (drop_rd l i h0 hlt)
      have HN' := below_cell HB.out HN.out
      have HF' := below_cell HB.out HF.out
      go_wp2_with (go_at_call 47; refine (chk2 n (rd_T61 l i) Bf Bn _ HN' HF').mono ?_; rintro e w1 ⟨rfl, hb1⟩)
      · go_ret
        refine ⟨?_, HB.out.trans (hb1.mono HB.out.size)⟩
        have hI := HI.out
        rw [hd.out, fIdx, if_pos (by assumption)] at hI
        rw [hI]; rfl
      · have hI := HI.out
        rw [hd.out, fIdx, if_neg (by simp [*])] at hI
        go_roundw
        case rel => exact ⟨i + 1, rfl, by omega, by omega, ⟨hI⟩, ⟨HB.out.trans (hb1.mono HB.out.size)⟩⟩
        case measure => simp [intOf]; omega
    · have b0 : decide (i < (l.length : Int)) = false := decide_eq_false hlt
      have hI := HI.out
      rw [List.drop_eq_nil_of_le (by omega), fIdx] at hI
      have HI' := Aside0.mk hI
      clear hI
      go_wp2
      go_ret
      exact ⟨by rw [← HI'.out]; rfl, HB.out⟩
set_option maxHeartbeats 1000000 in
set_option maxRecDepth 100000 in
theorem contains61 (n : Int) (Bf Bn : Nat) (A : Option Addr) (c : Nat) (l : List S61) (w : World) (hr : Kd.C k61 w A l.length l) (hc : l.length ≤ c)
    (hn : w.cell? ⟨Bn, 0, none⟩ = some (.int .i64 n)) (hf : w.cell? ⟨Bf, 0, none⟩ = some (.func (.func 45) #[] #[.pointer (some ⟨Bn, 0, none⟩)])) :
    Calls Try.prog 46 #[.slice A l.length c, .func (.func 47) #[] #[.pointer (some ⟨Bf, 0, none⟩)]] w fun e w' => e = .returned (.bool (l.any (badE n))) ∧ Below w.heap.size w w' := by
  have h := fIdx_any (badE n) l 0 (by omega)
  have H := Aside0.mk h
  clear h
  go_enter Try.func46, Try.ntmps46
  go_wp2_with (go_at_call 73; refine (idxFunc61 n Bf Bn A c l _ hr hc hn hf).mono ?_; rintro e w1 ⟨rfl, hb1⟩)
  go_ret
  exact ⟨by rw [← H.out]; rfl, hb1⟩
/-- flow.Check's answer -/
def chkV (n : Int) (l : List S61) : Int := if n < 2 ∨ 4096 < n ∨ 65536 < (l.length : Int) then 180 else if l.any (badE n) = true then 180 else 0
def flow_Check.f (a0 : Int) (l1 : List S61) : Option Int := some (chkV a0 l1)
set_option maxHeartbeats 1000000 in
set_option maxRecDepth 100000 in
theorem flow_Check.calls (a0 : Int) (A1 : Option Addr) (c1 : Nat) (l1 : List S61) (r : Int) (w : World) (hr1 : Kd.C k61 w A1 l1.length l1) (hc1 : l1.length ≤ c1) (h : flow_Check.f a0 l1 = some r) :
    Calls Try.prog 25 #[.int .i64 a0, .slice A1 l1.length c1] w fun e w' => e = .returned (.int .i64 r) ∧ Below w.heap.size w w' := by
  have hm : (l1.length : Int) ≤ 9223372036854775807 := by have := hr1.2.1; omega
  obtain rfl := Option.some.inj h
  clear h
  have HR := Aside0.mk hr1
  clear hr1
  have hb : ∀ o, Below w.heap.size w (w.alloc o) := fun o => below_alloc (Below.refl _ _) o
  have hb2 : ∀ o o2, Below w.heap.size w ((w.alloc o).alloc o2) := fun o o2 => below_alloc (hb o) o2
  have HB := Aside0.mk hb
  have HB2 := Aside0.mk hb2
  clear hb hb2
  by_cases h1 : a0 < 2
  · have b1 : decide (a0 < 2) = true := decide_eq_true h1
    have hv : chkV a0 l1 = 180 := by unfold chkV; rw [if_pos (.inl h1)]
    have HV := Aside0.mk hv
    clear hv h1
    go_enter Try.func25, Try.ntmps25
    go_wp2
    go_ret
    exact ⟨by rw [HV.out]; rfl, HB.out _⟩
  · have b1 : decide (a0 < 2) = false := decide_eq_false h1
    by_cases h2 : 4096 < a0
    · have b2 : decide (4096 < a0) = true := decide_eq_true h2
      have hv : chkV a0 l1 = 180 := by unfold chkV; rw [if_pos (.inr (.inl h2))]
      have HV := Aside0.mk hv
      clear hv h1 h2
      go_enter Try.func25, Try.ntmps25
      go_wp2
      go_ret
      exact ⟨by rw [HV.out]; rfl, HB.out _⟩
    · have b2 : decide (4096 < a0) = false := decide_eq_false h2
      by_cases h3 : 65536 < (l1.length : Int)
      · have b3 : decide (65536 < (l1.length : Int)) = true := decide_eq_true h3
        have hv : chkV a0 l1 = 180 := by unfold chkV; rw [if_pos (.inr (.inr h3))]
        have HV := Aside0.mk hv
        clear hv h1 h2 h3
        go_enter Try.func25, Try.ntmps25
        go_wp2
        go_ret
        exact ⟨by rw [HV.out]; rfl, HB.out _⟩
      · have b3 : decide (65536 < (l1.length : Int)) = false := decide_eq_false h3
        have hv : chkV a0 l1 = if l1.any (badE a0) = true then 180 else 0 := by unfold chkV; rw [if_neg (by omega)]
        have HV := Aside0.mk hv
        clear hv h1 h2 h3
        go_enter Try.func25, Try.ntmps25
        go_wp2_with fail
        have c1_ : ((w.alloc (Obj.cells #[Value.int IntKind.i64 a0] 3)).alloc (Obj.cells #[Value.func (Fn.func 45) #[] #[Value.pointer (some ⟨w.heap.size, 0, none⟩)]] 73)).cell? ⟨w.heap.size, 0, none⟩ = some (.int .i64 a0) := by go_simp
        have c2_ : ((w.alloc (Obj.cells #[Value.int IntKind.i64 a0] 3)).alloc (Obj.cells #[Value.func (Fn.func 45) #[] #[Value.pointer (some ⟨w.heap.size, 0, none⟩)]] 73)).cell? ⟨w.heap.size + 1, 0, none⟩ = some (.func (.func 45) #[] #[.pointer (some ⟨w.heap.size, 0, none⟩)]) := by go_simp
        have hr2 := Kd.C_below HR.out (HB2.out (Obj.cells #[Value.int IntKind.i64 a0] 3) (Obj.cells #[Value.func (Fn.func 45) #[] #[Value.pointer (some ⟨w.heap.size, 0, none⟩)]] 73))
        refine (contains61 a0 _ _ A1 c1 l1 _ hr2 hc1 c1_ c2_).mono ?_
        rintro e w1 ⟨rfl, hb1⟩
        have hb3 := (HB2.out _ _).trans (hb1.mono (HB2.out _ _).size)
        clear hr2 c1_ c2_ hb1
        have HB3 := Aside0.mk hb3
        clear hb3
        go_wp2
        all_goals (go_ret; exact ⟨by rw [HV.out]; simp [*], HB3.out⟩)
end Go.Proofs.Ytadeidhefjifaaa.Px
end
section
set_option linter.unusedVariables false
set_option linter.unusedSimpArgs false
namespace Go.Proofs.Ytadeidhefjifaaa.Px
open Go.RowKit Go.Proofs.YtadeidhefjifaaaW.PrintWords Go.Proofs.YtadeidhefjifaaaW.PrintLast Go.Proofs.YtadeidhefjifaaaW.PrintMore
/-- the network in block G, all that it leads to below U: the edges l, the flows fl, the lists adj; w0: the world when Max began -/
structure NS (w0 : World) (U : Nat) (W : World) (G : Nat) (A : Option Addr) (c : Nat) (l : List S61) (vF : Value) (fl : List Int) (vA : Value) (adj : List (List Int)) : Prop where
  hG : W.heap[G]? = some (.cells #[.slice A l.length c, vF, vA] 81 (0, 0))
  hB : w0.heap.size ≤ G
  hU : G < U
  hW : Below w0.heap.size w0 W
  hE0 : Kd.C k61 w0 A l.length l
  hc : l.length ≤ c
  hF : Kd.R (Kd.int .i64) 3 W w0.heap.size (fun k => k ≠ G ∧ k < U) vF fl
  hA : Kd.R (Kd.slice 3 (Kd.int .i64)) 23 W w0.heap.size (fun k => (k ≠ G ∧ k < U) ∧ some k ≠ vF.ownBlock) vA adj
  hl : fl.length = l.length
  hm : l.length ≤ 65536
section
variable {w0 : World} {U : Nat} {W W' : World} {G : Nat} {A : Option Addr} {c : Nat} {l : List S61} {vF : Value} {fl fl' : List Int} {vA : Value} {adj : List (List Int)}
theorem NS.hE (h : NS w0 U W G A c l vF fl vA adj) : Kd.C k61 W A l.length l := Kd.C_below h.hE0 h.hW
theorem NS.lt (h : NS w0 U W G A c l vF fl vA adj) : G < W.heap.size := (Array.getElem?_eq_some_iff.1 h.hG).1
/-- whatever lies below U stays -/
theorem NS.below (h : NS w0 U W G A c l vF fl vA adj) (hb : Below U W W') : NS w0 U W' G A c l vF fl vA adj :=
  { h with
    hG := (hb.block G h.hU).trans h.hG
    hW := h.hW.trans (hb.mono (Nat.le_of_lt (Nat.lt_of_le_of_lt h.hB h.hU)))
    hF := Kd.R_step h.hF (fun k hk _ => hb.block k hk.2)
    hA := Kd.R_step h.hA (fun k hk _ => hb.block k hk.1.2) }
/-- the flows alone have been written -/
theorem NS.flows (h : NS w0 U W G A c l vF fl vA adj) (hg : W.grownBy W' vF.ownBlock) (hF : Kd.R (Kd.int .i64) 3 W' w0.heap.size (fun k => k ≠ G ∧ k < U) vF fl') (hl : fl'.length = fl.length) : NS w0 U W' G A c l vF fl' vA adj :=
  { h with
    hG := (hg.block G h.lt (fun e => (h.hF.1 G e.symm).1 rfl)).trans h.hG
    hW := pw_below_grown h.hW _ h.hW.size hg (fun k hk => Kd.R_base h.hF k hk)
    hF := hF
    hA := Kd.R_grown h.hA hg (fun k hk => hk.2)
    hl := hl.trans h.hl }
end
/-- how much more can flow along a residual edge -/
def capR (l : List S61) (fl : List Int) (r : Int) : Int := if r % 2 = 0 then (rd_T61 l (r / 2)).f2 - rd fl (r / 2) else rd fl (r / 2)
/-- where a residual edge ends -/
def endR (l : List S61) (r : Int) : Int := if r % 2 = 0 then (rd_T61 l (r / 2)).f1 else (rd_T61 l (r / 2)).f0
theorem rd_at {w : World} {A : Option Addr} {n : Nat} {xs : List Int} (h : Kd.C (Kd.int .i64) w A n xs) (i : Int) (h0 : 0 ≤ i) (h1 : i < n) : ∃ ad, A = some ad ∧ w.cell? (ad.add i.toNat) = some (.int .i64 (rd xs i)) := by
  obtain ⟨ad, c, e, _, hK, hc⟩ := Kd.C_get h 0 i h0 h1
  obtain rfl : c = [Value.int .i64 (xs.getD i.toNat 0)] := hK
  have := hc 0 _ rfl
  refine ⟨ad, e, ?_⟩
  rw [show i.toNat * (Kd.int .i64).sz + 0 = i.toNat from by show i.toNat * 1 + 0 = _; omega] at this
  exact this
set_option maxHeartbeats 1000000 in
set_option maxRecDepth 100000 in
theorem end_calls {w0 : World} {U : Nat} {w : World} {G : Nat} {A : Option Addr} {c : Nat} {l : List S61} {vF : Value} {fl : List Int} {vA : Value} {adj : List (List Int)}
    (hN : NS w0 U w G A c l vF fl vA adj) (r : Int) (h0 : 0 ≤ r) (h1 : r < 2 * l.length) :
    Calls Try.prog 51 #[.pointer (some ⟨G, 0, none⟩), .int .i64 r] w fun e w' => e = .returned (.int .i64 (endR l r)) ∧ w = w' := by
  have hu61 := Try.underlying61
  have hu81 := Try.underlying81
  have hm : (l.length : Int) ≤ 65536 := by have := hN.hm; omega
  have hr : r ≤ 131072 := by omega
  have g0 := (blk_cell hN.hG 0).trans (show _ = some _ from rfl)
  have q0 : 0 ≤ r / 2 := by omega
  have q1 : r / 2 < l.length := by omega
  obtain ⟨ad, e, x0, x1, x2⟩ := at_T61 hN.hE (r / 2) q0 q1
  cases e
  have p0 : decide (0 ≤ r / 2) = true := decide_eq_true q0
  have p1 : decide (r / 2 < (l.length : Int)) = true := decide_eq_true q1
  unfold endR
  clear hN
  by_cases hp : r % 2 = 0
  · have b : (r % 2 == 0) = true := beq_iff_eq.mpr hp
    rw [if_pos hp]
    clear hp
    go_enter Try.func51, Try.ntmps51
    go_wp2
    go_ret
    exact ⟨rfl, rfl⟩
  · have b : (r % 2 == 0) = false := beq_eq_false_iff_ne.mpr hp
    rw [if_neg hp]
    clear hp
    go_enter Try.func51, Try.ntmps51
    go_wp2
    go_ret
    exact ⟨rfl, rfl⟩
set_option maxHeartbeats 1000000 in
set_option maxRecDepth 100000 in
theorem cap_calls {w0 : World} {U : Nat} {w : World} {G : Nat} {A : Option Addr} {c : Nat} {l : List S61} {vF : Value} {fl : List Int} {vA : Value} {adj : List (List Int)}
    (hN : NS w0 U w G A c l vF fl vA adj) (r : Int) (h0 : 0 ≤ r) (h1 : r < 2 * l.length)
    (f0 : 0 ≤ rd fl (r / 2)) (f1 : rd fl (r / 2) ≤ 1073741824) (m0 : 0 ≤ (rd_T61 l (r / 2)).f2) (m1 : (rd_T61 l (r / 2)).f2 ≤ 1073741824) :
    Calls Try.prog 53 #[.pointer (some ⟨G, 0, none⟩), .int .i64 r] w fun e w' => e = .returned (.int .i64 (capR l fl r)) ∧ Drawn0 w w' := by
  have hu61 := Try.underlying61
  have hu81 := Try.underlying81
  have hm : (l.length : Int) ≤ 65536 := by have := hN.hm; omega
  have hr : r ≤ 131072 := by omega
  have g0 := (blk_cell hN.hG 0).trans (show _ = some _ from rfl)
  have g1 := (blk_cell hN.hG 1).trans (show _ = some _ from rfl)
  have q0 : 0 ≤ r / 2 := by omega
  have q1 : r / 2 < l.length := by omega
  have q2 : r / 2 < fl.length := by have := hN.hl; omega
  obtain ⟨ad, e, x0, x1, x2⟩ := at_T61 hN.hE (r / 2) q0 q1
  cases e
  obtain ⟨Af, cf, rfl, hcf, hrf⟩ := Kd.R_reads hN.hF
  obtain ⟨af, e, y0⟩ := rd_at hrf (r / 2) q0 q2
  cases e
  have p0 : decide (0 ≤ r / 2) = true := decide_eq_true q0
  have p1 : decide (r / 2 < (l.length : Int)) = true := decide_eq_true q1
  have p2 : decide (r / 2 < (fl.length : Int)) = true := decide_eq_true q2
  unfold capR
  clear hN
  by_cases hp : r % 2 = 0
  · have b : (r % 2 == 0) = true := beq_iff_eq.mpr hp
    rw [if_pos hp]
    clear hp
    go_enter Try.func53, Try.ntmps53
    go_wp2
    go_quiet (fail)
    go_wp2
    go_ret
    exact ⟨rfl, ⟨⟨_, rfl⟩⟩⟩
  · have b : (r % 2 == 0) = false := beq_eq_false_iff_ne.mpr hp
    rw [if_neg hp]
    clear hp
    go_enter Try.func53, Try.ntmps53
    go_wp2
    go_ret
    exact ⟨rfl, Drawn0.refl _⟩
/-- the flows when more flows along a residual edge -/
def pushF (fl : List Int) (r b : Int) : List Int := fl.set (r / 2).toNat (if r % 2 = 1 then rd fl (r / 2) - b else rd fl (r / 2) + b)
set_option maxHeartbeats 1000000 in
set_option maxRecDepth 100000 in
theorem push_calls {w0 : World} {U : Nat} {w : World} {G : Nat} {A : Option Addr} {c : Nat} {l : List S61} {vF : Value} {fl : List Int} {vA : Value} {adj : List (List Int)}
    (hN : NS w0 U w G A c l vF fl vA adj) (r by_ : Int) (h0 : 0 ≤ r) (h1 : r < 2 * l.length) (f0 : 0 ≤ rd fl (r / 2)) (f1 : rd fl (r / 2) ≤ 1073741824) (b0 : 0 ≤ by_) (b1 : by_ ≤ 1073741824) :
    Calls Try.prog 55 #[.pointer (some ⟨G, 0, none⟩), .int .i64 r, .int .i64 by_] w fun e w' => e = .returned (.tuple #[]) ∧ NS w0 U w' G A c l vF (pushF fl r by_) vA adj ∧ w.grownBy w' vF.ownBlock := by
  have hu81 := Try.underlying81
  have hm : (l.length : Int) ≤ 65536 := by have := hN.hm; omega
  have hr : r ≤ 131072 := by omega
  have g1 := (blk_cell hN.hG 1).trans (show _ = some _ from rfl)
  have q0 : 0 ≤ r / 2 := by omega
  have q2 : r / 2 < fl.length := by have := hN.hl; omega
  obtain ⟨F, cf, rfl, hF1, hF2, cells, hFc⟩ := Kd.R_form hN.hF (by omega)
  obtain ⟨y0, y1⟩ := Kd.R_celln 0 hN.hF (r / 2) q0 q2
  have y0' : w.cell? ⟨F, (r / 2).toNat, none⟩ = some (.int .i64 (rd fl (r / 2))) := y0
  have p0 : decide (0 ≤ r / 2) = true := decide_eq_true q0
  have p2 : decide (r / 2 < (fl.length : Int)) = true := decide_eq_true q2
  have HN := Aside0.mk hN
  clear hN y0
  unfold pushF
  by_cases hp : r % 2 = 1
  · have b : (r % 2 == 1) = true := beq_iff_eq.mpr hp
    rw [if_pos hp]
    clear hp
    go_enter Try.func55, Try.ntmps55
    go_wp2
    go_end0
    obtain ⟨z1, z2⟩ := Kd.R_putg HN.out.hF (r / 2) (rd fl (r / 2) - by_)
    rw [show rd fl (r / 2) + -by_ = rd fl (r / 2) - by_ from by omega]
    exact ⟨rfl, HN.out.flows z2 z1 (by simp), z2⟩
  · have b : (r % 2 == 1) = false := beq_eq_false_iff_ne.mpr hp
    rw [if_neg hp]
    clear hp
    go_enter Try.func55, Try.ntmps55
    go_wp2
    go_end0
    obtain ⟨z1, z2⟩ := Kd.R_putg HN.out.hF (r / 2) (rd fl (r / 2) + by_)
    exact ⟨rfl, HN.out.flows z2 z1 (by simp), z2⟩
end Go.Proofs.Ytadeidhefjifaaa.Px
end
section
set_option linter.unusedVariables false
set_option linter.unusedSimpArgs false
namespace Go.Proofs.Ytadeidhefjifaaa.Px
open Go.RowKit Go.Proofs.YtadeidhefjifaaaW.PrintWords Go.Proofs.YtadeidhefjifaaaW.PrintLast Go.Proofs.YtadeidhefjifaaaW.PrintMore
attribute [local go_sem] max2_int min2_int max_two min_two
/-- flows lie between 0 and the capacities, these at most 2^30 -/
def Okf (l : List S61) (fl : List Int) : Prop := ∀ i : Int, 0 ≤ i → i < l.length → (0 ≤ rd fl i ∧ rd fl i ≤ 1073741824) ∧ (0 ≤ (rd_T61 l i).f2 ∧ (rd_T61 l i).f2 ≤ 1073741824)
theorem Okf.cap {l : List S61} {fl : List Int} (h : Okf l fl) (r : Int) (h0 : 0 ≤ r) (h1 : r < 2 * l.length) : -1073741824 ≤ capR l fl r ∧ capR l fl r ≤ 1073741824 := by
  have := h (r / 2) (by omega) (by omega)
  unfold capR; split <;> omega
theorem grown_one (w : World) (n L : Nat) (v : Value) : w.grownBy ((w.drewN n).setCell ⟨L, 0, none⟩ v) (some L) :=
  ⟨rfl, rfl, rfl, by simp, fun k hk hne => Below.heap_setCell (w.drewN n) ⟨L, 0, none⟩ v k (fun e => hne (by rw [e]))⟩
section
variable {w0 : World} {U : Nat} {w : World} {G : Nat} {A : Option Addr} {c : Nat} {l : List S61} {vF : Value} {fl : List Int} {vA : Value} {adj : List (List Int)}
set_option maxHeartbeats 1000000 in
set_option maxRecDepth 100000 in
theorem least_calls (hN : NS w0 U w G A c l vF fl vA adj) (hk : Okf l fl) (r : Int) (h0 : 0 ≤ r) (h1 : r < 2 * l.length) (L Bw : Nat) (m : Int)
    (hL : w.heap[L]? = some (.cells #[.int .i64 m] 3 (0, 0))) (hw : w.heap[Bw]? = some (.cells #[.pointer (some ⟨G, 0, none⟩)] 76 (0, 0))) :
    Calls Try.prog 52 #[.int .i64 r, .pointer (some ⟨L, 0, none⟩), .pointer (some ⟨Bw, 0, none⟩)] w fun e w' => e = .returned (.tuple #[]) ∧ w'.heap[L]? = some (.cells #[.int .i64 (mn m (capR l fl r))] 3 (0, 0)) ∧ w.grownBy w' (some L) := by
  have k := hk (r / 2) (by omega) (by omega)
  have c0 : w.cell? ⟨L, 0, none⟩ = some (.int .i64 m) := (blk_cell hL 0).trans rfl
  have c1 : w.cell? ⟨Bw, 0, none⟩ = some (.pointer (some ⟨G, 0, none⟩)) := (blk_cell hw 0).trans rfl
  have z0 := blk_frozen hL 0
  have HL := Aside0.mk hL
  clear hL hw
  go_enter Try.func52, Try.ntmps52
  go_wp2_with fail
  go_region_with (go_at_call 53; refine (cap_calls (hN.below ?_) r h0 h1 k.1.1 k.1.2 k.2.1 k.2.2).mono ?_; rotate_left 1; rintro e w1 ⟨rfl, ⟨⟨nn, rfl⟩⟩⟩; rotate_left 1; (first | exact Below.refl _ _ | exact pw_below_drewN (Below.refl _ _) _); skip)
  all_goals go_wp2
  all_goals go_end0
  all_goals (refine ⟨rfl, ?_, grown_one _ _ _ _⟩; rw [one_setCell (w := w.drewN _) HL.out]; unfold mn; first | (rw [if_pos (by assumption)]; done) | rw [if_neg (by omega)])
end
end Go.Proofs.Ytadeidhefjifaaa.Px
end
section
set_option linter.unusedVariables false
set_option linter.unusedSimpArgs false
namespace Go.Proofs.Ytadeidhefjifaaa.Px
open Go.RowKit Go.Shelf Go.Proofs.YtadeidhefjifaaaW.PrintWords Go.Proofs.YtadeidhefjifaaaW.PrintLast Go.Proofs.YtadeidhefjifaaaW.PrintMore
attribute [local go_sem] Oper.semAt_some
theorem row_at {w : World} {A : Option Addr} {n : Nat} {xs : List (List Int)} (h : Kd.C (Kd.slice 3 (Kd.int .i64)) w A n xs) (i : Int) (h0 : 0 ≤ i) (h1 : i < n) :
    ∃ ad A0 c0, A = some ad ∧ w.cell? (ad.add i.toNat) = some (.slice A0 (xs.getD i.toNat []).length c0) ∧ (xs.getD i.toNat []).length ≤ c0 ∧ Kd.C (Kd.int .i64) w A0 (xs.getD i.toNat []).length (xs.getD i.toNat []) := by
  obtain ⟨ad, c, e, _, hK, hc0⟩ := Kd.C_get h ([] : List Int) i h0 h1
  have hc : ∀ j u, c[j]? = some u → w.cell? (ad.add (i.toNat * 1 + j)) = some u := hc0
  obtain ⟨A0, c0, rfl, l0, g0⟩ := hK
  exact ⟨ad, A0, c0, e, by have hq := hc 0 _ rfl; rwa [Nat.mul_one, Nat.add_zero] at hq, l0, g0⟩
/-- a residual edge and the node where it ends -/
abbrev RE (n : Nat) := { x : Int × Int // 0 ≤ x.2 ∧ x.2 < n }
def encRE (n : Nat) (x : RE n) : Array Value := #[.int .i64 x.1.1, .int .i64 x.1.2]
/-- what a round of the search keeps for the iterator -/
def KpS (B b1 : Nat) (W W' : World) : Prop := Below B W W' ∧ ∀ (cs : Array Value) (t : TypeId), W.heap[b1]? = some (Obj.cells cs t (0, 0)) → W'.heap[b1]? = some (Obj.cells cs t (0, 0))
theorem KpS.refl (B b1 : Nat) (W : World) : KpS B b1 W W := ⟨Below.refl _ _, fun _ _ h => h⟩
theorem KpS.trans {B b1 : Nat} {W1 W2 W3 : World} (h : KpS B b1 W1 W2) (k : KpS B b1 W2 W3) : KpS B b1 W1 W3 := ⟨h.1.trans k.1, fun cs t e => k.2 cs t (h.2 cs t e)⟩
/-- the residual edges of a list that can be used -/
def useL (l : List S61) (fl : List Int) (n : Nat) (rs : List Int) : List (RE n) :=
  rs.filterMap fun r => if h : capR l fl r > 0 ∧ 0 ≤ endR l r ∧ endR l r < n then some ⟨(r, endR l r), h.2⟩ else none
theorem useL_snoc (l : List S61) (fl : List Int) (n : Nat) (rs : List Int) (k : Nat) (hk : k < rs.length) (r : Int) (hr : rs[k] = r) :
    useL l fl n (rs.take (k + 1)) = useL l fl n (rs.take k) ++ (if h : capR l fl r > 0 ∧ 0 ≤ endR l r ∧ endR l r < n then [⟨(r, endR l r), h.2⟩] else []) := by
  unfold useL
  rw [List.take_succ_eq_append_getElem hk, List.filterMap_append, hr]
  congr 1
  by_cases h : capR l fl r > 0 ∧ 0 ≤ endR l r ∧ endR l r < n
  · simp [List.filterMap_cons, h]
  · simp [List.filterMap_cons, h]
theorem useL_prefix (l : List S61) (fl : List Int) (n : Nat) (rs : List Int) (k : Nat) : useL l fl n (rs.take k) <+: useL l fl n rs := by
  unfold useL
  conv => rhs; rw [← List.take_append_drop k rs, List.filterMap_append]
  exact List.prefix_append _ _
section
variable {w0 : World} {U : Nat} {w : World} {G : Nat} {A : Option Addr} {c : Nat} {l : List S61} {vF : Value} {fl : List Int} {vA : Value} {adj : List (List Int)}
theorem add_block (a : Addr) (i : Nat) : (a.add i).block = a.block := by unfold Addr.add; split <;> rfl
theorem adj_lt {ad : Addr} {n ca i : Nat} (hN : NS w0 U w G A c l vF fl (.slice (some ad) n ca) adj) (h : 0 < n) : (ad.add i).block < U := by
  rw [add_block]
  exact (hN.hA.1 ad.block (by simp [Value.ownBlock])).1.2
set_option maxRecDepth 100000 in
set_option maxHeartbeats 4000000 in
theorem usable1_in (m n B l0 b1 b2 : Nat) (hm : 1 ≤ m) (hUB : U ≤ B) (W : World) (hN : NS w0 U W G A c l vF fl vA adj) (hk : Okf l fl) (v : Int) (v0 : 0 ≤ v) (v1 : v < adj.length)
    (he : ∀ r : Int, 0 ≤ r → r < 2 * l.length → 0 ≤ endR l r ∧ endR l r < n) (rs : List Int) (hrs : adj.getD v.toNat [] = rs) (hr : ∀ r ∈ rs, 0 ≤ r ∧ r < 2 * (l.length : Int))
    (h1 : W.heap[b1]? = some (.cells #[.pointer (some ⟨G, 0, none⟩)] 76 (0, 0))) (h2 : W.heap[b2]? = some (.cells #[.int .i64 v] 3 (0, 0)))
    (J Jx : List (RE n) → World → Prop)
    (hY : ∀ pre x W1, J pre W1 → pre.length < (useL l fl n rs).length → YieldAt Fence.wide (m - 1) Try.prog l0 (encRE n x) W1 fun e W' =>
      (e = .returned (.bool true) ∧ J (pre ++ [x]) W' ∧ KpS B b1 W1 W') ∨ (e = .returned (.bool false) ∧ Jx (pre ++ [x]) W'))
    (hJd : ∀ pre W1 k, J pre W1 → J pre (W1.drewN k)) (h0 : J [] W) :
    CallsIn Fence.wide m Try.prog 90 #[.func (.yield l0) #[] #[], .pointer (some ⟨b1, 0, none⟩), .pointer (some ⟨b2, 0, none⟩)] W fun e W' => (∃ v, e = .returned v) ∧
      ((∃ ys, ys = useL l fl n rs ∧ J ys W') ∨ (∃ pre, pre <+: useL l fl n rs ∧ Jx pre W')) := by
  have hu81 := Try.underlying81
  have c1 : W.cell? ⟨b1, 0, none⟩ = some (.pointer (some ⟨G, 0, none⟩)) := (blk_cell h1 0).trans rfl
  have c2 : W.cell? ⟨b2, 0, none⟩ = some (.int .i64 v) := (blk_cell h2 0).trans rfl
  have g2 := (blk_cell hN.hG 2).trans (show _ = some _ from rfl)
  have p0 : decide (0 ≤ v) = true := decide_eq_true v0
  have p1 : decide (v < (adj.length : Int)) = true := decide_eq_true v1
  have HN := Aside0.mk hN
  have HY := Aside0.mk hY
  have HJD := Aside0.mk hJd
  have H0 := Aside0.mk h0
  obtain ⟨Aa, ca, rfl, hca, hra⟩ := Kd.R_reads hN.hA
  obtain ⟨ad, A0, c0, e, y0, y1, y2⟩ := row_at hra v v0 v1
  cases e
  rw [hrs] at y0 y1 y2
  have hrl : (rs.length : Int) ≤ 9223372036854775807 := by have := y2.2.1; omega
  have HR := Aside0.mk hr
  have HY2 := Aside0.mk y2
  have HRS := Aside0.mk hrs
  have H1 := Aside0.mk h1
  clear hrs y2 hJd h0 hra h1
  refine callsIn_of_wp Try.func90 rfl trivial ?_ rfl
  simp only [Try.ntmps90, List.size_toArray, List.length_cons, List.length_nil, Nat.reduceAdd, Nat.reduceSub, Array.replicate_succ, Array.replicate_zero, List.push_toArray, List.append_toArray, List.nil_append, List.cons_append]
  gi_wp2
  gi_region
  gi_wp2
  gi_loopw [14] (fun i wr => ∃ (k : Nat), k ≤ rs.length ∧ i = .int .i64 k ∧ Aside0 (J (useL l fl n (rs.take k)) wr) ∧ Aside0 (KpS B b1 W wr)) (fun i _ => rs.length - (intOf i).toNat)
  case atStart => exact ⟨0, by omega, rfl, ⟨HJD.out _ _ 1 H0.out⟩, ⟨⟨below_drew (Below.refl _ _), fun _ _ h => h⟩⟩⟩
  case round =>
    obtain ⟨k, hkl, rfl, HJ, HK⟩ := hrel
    by_cases hlt : k < rs.length
    · have q0 : (0 : Int) ≤ (k : Int) := by omega
      have q1 : (k : Int) < (rs.length : Int) := by omega
      have b0 : decide (k < rs.length) = true := decide_eq_true hlt
      obtain ⟨r, hrk⟩ : ∃ r, rs[k] = r := ⟨_, rfl⟩
      have hrr := HR.out r (by rw [← hrk]; exact List.getElem_mem _)
      have hNr := HN.out.below (HK.out.1.mono hUB)
      obtain ⟨Aa', ca', e, hca', hra'⟩ := Kd.R_reads hNr.hA
      simp only [Value.slice.injEq] at e
      obtain ⟨e, -, -⟩ := e
      subst e
      obtain ⟨ad', A0', c0', e, z0, z1, z2⟩ := row_at hra' v v0 v1
      cases e
      have hcell : wr.cell? (ad.add v.toNat) = W.cell? (ad.add v.toNat) := HK.out.1.cell (Nat.lt_of_lt_of_le (adj_lt HN.out (by omega)) hUB)
      rw [hcell, y0, HRS.out] at z0
      simp only [Option.some.injEq, Value.slice.injEq] at z0
      obtain ⟨rfl, -, rfl⟩ := z0
      rw [HRS.out] at z2
      obtain ⟨ar, e, x0⟩ := rd_at z2 k q0 q1
      cases e
      have hrd : rd rs k = r := by rw [← hrk]; simp [rd, List.getD, hlt]
      rw [hrd, Int.toNat_natCast] at x0
      have hcw : wr.cell? ⟨b1, 0, none⟩ = some (.pointer (some ⟨G, 0, none⟩)) := (blk_cell (HK.out.2 _ _ H1.out) 0).trans rfl
      have kk := hk (r / 2) (by omega) (by omega)
      have hcap := cap_calls hNr r hrr.1 hrr.2 kk.1.1 kk.1.2 kk.2.1 kk.2.2
      have HCAP := Aside0.mk hcap
      have HNr := Aside0.mk hNr
      clear hcap z1 z2 hra' hNr hrd hcell hca'
      have hen := he r hrr.1 hrr.2
      have hsn := useL_snoc l fl n rs k hlt r hrk
      have hpf := useL_prefix l fl n rs (k + 1)
      by_cases hcp : capR l fl r > 0
      · have b1' : decide (0 < capR l fl r) = true := decide_eq_true hcp
        rw [dif_pos ⟨hcp, hen⟩] at hsn
        obtain ⟨x, hx⟩ : ∃ x : RE n, x = ⟨(r, endR l r), hen⟩ := ⟨_, rfl⟩
        rw [← hx] at hsn
        have hx1 : x.1.1 = r := by rw [hx]
        have hx2 : x.1.2 = endR l r := by rw [hx]
        have hlen : (useL l fl n (rs.take k)).length < (useL l fl n rs).length := by
          have := hpf.length_le
          rw [hsn] at this; simp at this; omega
        have HS := Aside0.mk hsn
        have HP := Aside0.mk hpf
        have HX := Aside0.mk (And.intro hx1 hx2)
        clear hsn hpf hx hen
        gi_wp2_with fail
        refine ⟨trivial, (callsIn_wide.2 HCAP.out).mono ?_⟩
        rintro e w1 ⟨rfl, ⟨⟨nn, rfl⟩⟩⟩
        have hEND := end_calls (HNr.out.below (pw_below_drewN (Below.refl _ _) nn)) r hrr.1 hrr.2
        rw [← HX.out.2] at hEND
        have HEND := Aside0.mk hEND
        obtain ⟨fn, tmps, assign, body, hy, hR⟩ := HY.out (useL l fl n (rs.take k)) x (wr.drewN nn) (HJD.out _ _ _ HJ.out) hlen
        unfold encRE at hy
        rw [HX.out.1] at hy
        have HRR := Aside0.mk hR
        clear hR hx1 hx2 hEND hlen
        gi_wp2_with fail
        refine ⟨trivial, (callsIn_wide.2 HEND.out).mono ?_⟩
        rintro e w1 ⟨rfl, rfl⟩
        gi_wp2_with fail
        refine HRR.out.mono ?_
        rintro e W3 (⟨rfl, hJ3, hk3⟩ | ⟨rfl, hJx3⟩)
        · rw [← HS.out] at hJ3
          have HJ3 := Aside0.mk hJ3
          have HK3 := Aside0.mk ((HK.out.trans ⟨pw_below_drewN (Below.refl _ _) nn, fun _ _ h => h⟩).trans hk3)
          clear hJ3 hk3
          gi_wp2
          go_roundw
          case rel => exact ⟨k + 1, by omega, by simp, HJ3, HK3⟩
          case measure => simp [intOf]; omega
        · rw [← HS.out] at hJx3
          have HJ3 := Aside0.mk hJx3
          clear hJx3
          gi_wp2
          refine bodyPost_ret (results_none rfl _ _ _) rfl ?_
          exact ⟨⟨_, rfl⟩, .inr ⟨_, HP.out, HJ3.out⟩⟩
      · have b1' : decide (0 < capR l fl r) = false := decide_eq_false hcp
        rw [dif_neg (fun h => hcp h.1), List.append_nil] at hsn
        have HS := Aside0.mk hsn
        clear hsn hpf hen
        gi_wp2_with fail
        refine ⟨trivial, (callsIn_wide.2 HCAP.out).mono ?_⟩
        rintro e w1 ⟨rfl, ⟨⟨nn, rfl⟩⟩⟩
        gi_wp2
        refine ⟨trivial, ?_⟩
        gi_wp2
        refine ⟨fun _ h => (by cases h), ?_⟩
        gi_wp2
        go_roundw
        case rel => exact ⟨k + 1, by omega, by simp, ⟨by rw [HS.out]; exact HJD.out _ _ _ HJ.out⟩, ⟨HK.out.trans ⟨pw_below_drewN (Below.refl _ _) nn, fun _ _ h => h⟩⟩⟩
        case measure => simp [intOf]; omega
    · have b0 : decide (k < rs.length) = false := decide_eq_false hlt
      have hJ := HJ.out
      rw [List.take_of_length_le (by omega)] at hJ
      have HJ' := Aside0.mk hJ
      clear hJ
      gi_wp2
      go_end0
      exact ⟨⟨_, rfl⟩, .inl ⟨_, rfl, HJ'.out⟩⟩
end
end Go.Proofs.Ytadeidhefjifaaa.Px
end
section
set_option linter.unusedVariables false
set_option linter.unusedSimpArgs false
namespace Go.Proofs.Ytadeidhefjifaaa.Px
open Go.RowKit Go.Proofs.YtadeidhefjifaaaW.PrintWords Go.Proofs.YtadeidhefjifaaaW.PrintLast Go.Proofs.YtadeidhefjifaaaW.PrintMore
/-- a network that is being made -/
structure NN (w0 W : World) (G F Ab : Nat) (A : Option Addr) (c : Nat) (l : List S61) (cF : Array Value) (n : Nat) (vals : List Value) (adj : List (List Int)) : Prop where
  hG : W.heap[G]? = some (.cells #[.slice A l.length c, .slice (some ⟨F, 0, none⟩) l.length l.length, .slice (some ⟨Ab, 0, none⟩) n n] 81 (0, 0))
  hF : W.heap[F]? = some (.cells cF 3 (0, 0))
  hO : W.ownsRow w0.heap.size 23 1 (.slice (some ⟨Ab, 0, none⟩) n n) n vals
  hW : Below w0.heap.size w0 W
  bG : w0.heap.size ≤ G
  bF : w0.heap.size ≤ F
  hlen : adj.length = n
  hrow : ∀ j, j < n → Kd.R (Kd.int .i64) 3 W w0.heap.size (fun k => k ≠ F) (vals.getD j undef) (adj.getD j [])
  hap : ∀ i j, i < n → j < n → i ≠ j → ∀ k, (vals.getD i undef).ownBlock = some k → (vals.getD j undef).ownBlock ≠ some k
/-- an element is appended to the list of a node -/
def addAt (adj : List (List Int)) (u : Int) (y : Int) : List (List Int) := adj.set u.toNat (adj.getD u.toNat [] ++ [y])
def adjStep (adj : List (List Int)) (x : S61) (i : Int) : List (List Int) := addAt (addAt adj x.f0 (2 * i)) x.f1 (2 * i + 1)
/-- the residual edges that begin at each node -/
def adjOf : List S61 → Int → List (List Int) → List (List Int)
  | [], _, a => a
  | x :: l, i, a => adjOf l (i + 1) (adjStep a x i)
theorem made_nil (n : Nat) : (madeCells #[Value.slice none 0 0] n).toList = List.replicate n (.slice none 0 0) := by
  simp only [madeCells, Array.toList_map, Array.toList_range]
  apply List.ext_getElem
  · simp
  · intro i h1 h2; simp [Nat.mod_one]
section
variable {w0 W W1 : World} {G F Ab : Nat} {A : Option Addr} {c : Nat} {l : List S61} {cF : Array Value} {n : Nat} {vals : List Value} {adj : List (List Int)}
theorem NN.start (hn : n ≤ 4096) (hG : W.heap[G]? = some (.cells #[.slice A l.length c, .slice (some ⟨F, 0, none⟩) l.length l.length, .slice (some ⟨Ab, 0, none⟩) n n] 81 (0, 0)))
    (hF : W.heap[F]? = some (.cells cF 3 (0, 0))) (hA : W.heap[Ab]? = some (.cells (madeCells #[.slice none 0 0] n) 23 (0, 0))) (hW : Below w0.heap.size w0 W) (bG : w0.heap.size ≤ G) (bF : w0.heap.size ≤ F) (bA : w0.heap.size ≤ Ab) :
    NN w0 W G F Ab A c l cF n (List.replicate n (.slice none 0 0)) (List.replicate n []) where
  hG := hG
  hF := hF
  hO := ⟨by simp, .inr ⟨Ab, n, _, rfl, bA, hA, Nat.le_refl _, by unfold maxLen; omega, by simp [size_madeCells], by rw [made_nil]; simp⟩⟩
  hW := hW
  bG := bG
  bF := bF
  hlen := by simp
  hrow := fun j hj => by
    have e1 : (List.replicate n (Value.slice none 0 0)).getD j undef = .slice none 0 0 := by simp [List.getD, hj]
    have e2 : (List.replicate n ([] : List Int)).getD j [] = [] := by simp [List.getD, hj]
    rw [e1, e2]; exact Kd.R_nil _ _ _ _ _
  hap := fun i j hi hj _ k hk => by
    have e1 : (List.replicate n (Value.slice none 0 0)).getD i undef = .slice none 0 0 := by simp [List.getD, hi]
    rw [e1] at hk; simp [Value.ownBlock] at hk
theorem NN.below (h : NN w0 W G F Ab A c l cF n vals adj) (hb : Below W.heap.size W W1) : NN w0 W1 G F Ab A c l cF n vals adj :=
  { h with
    hG := (hb.block G (lt_of_block h.hG)).trans h.hG
    hF := (hb.block F (lt_of_block h.hF)).trans h.hF
    hO := pw_own_below h.hO hb
    hW := below_step h.hW hb
    hrow := fun j hj => Kd.R_below (h.hrow j hj) hb }
theorem getD_set_self {α : Type} (xs : List α) (i : Nat) (x d : α) (h : i < xs.length) : (xs.set i x).getD i d = x := by simp [List.getD, h]
theorem getD_set_ne {α : Type} (xs : List α) (i j : Nat) (x d : α) (h : i ≠ j) : (xs.set i x).getD j d = xs.getD j d := by simp [List.getD, h]
/-- an append to the list of node u, and its value stored -/
theorem NN.append (h : NN w0 W G F Ab A c l cF n vals adj) (u : Int) (h0 : 0 ≤ u) (h1 : u < n) (y : Int) (v1 : Value)
    (hr : Kd.R (Kd.int .i64) 3 W1 w0.heap.size (fun k => k ≠ F) v1 (adj.getD u.toNat [] ++ [y])) (hg : W.grownBy W1 (vals.getD u.toNat undef).ownBlock)
    (hv : v1.ownBlock = (vals.getD u.toNat undef).ownBlock ∨ ∃ b, v1.ownBlock = some b ∧ W.heap.size ≤ b) :
    NN w0 (W1.setCell ⟨Ab, u.toNat, none⟩ v1) G F Ab A c l cF n (vals.set u.toNat v1) (addAt adj u y) := by
  have hu : u.toNat < n := by omega
  have hlv : vals.length = n := by have := h.hO.1; omega
  have ho := h.hrow u.toNat hu
  obtain ⟨-, hO2⟩ := h.hO
  have hAc : ∃ cells, W.heap[Ab]? = some (.cells cells 23 (0, 0)) := by
    rcases hO2 with ⟨e, _⟩ | ⟨g, cap, cur, e, _, hh, _⟩
    · simp at e
    · simp at e; obtain ⟨rfl, -⟩ := e; exact ⟨cur, hh⟩
  obtain ⟨cA, hA⟩ := hAc
  have hne : ∀ g t (cs : Array Value), W.heap[g]? = some (.cells cs t (0, 0)) → t ≠ 3 → some g ≠ (vals.getD u.toNat undef).ownBlock := fun g t cs hg' ht e => by
    obtain ⟨cells, hc⟩ := Kd.R_typed ho g e.symm
    rw [hc] at hg'
    simp at hg'; exact ht hg'.2.symm
  have nF : some F ≠ (vals.getD u.toNat undef).ownBlock := fun e => ho.1 F e.symm rfl
  have hG1 : W1.heap[G]? = _ := (hg.block G (lt_of_block h.hG) (hne _ _ _ h.hG (by decide))).trans h.hG
  have hF1 : W1.heap[F]? = _ := (hg.block F (lt_of_block h.hF) nF).trans h.hF
  have hA1 : W1.heap[Ab]? = _ := (hg.block Ab (lt_of_block hA) (hne _ _ _ hA (by decide))).trans hA
  have bA : w0.heap.size ≤ Ab := by
    rcases hO2 with ⟨e, _⟩ | ⟨g, cap, cur, e, hb, _⟩
    · simp at e
    · simp at e; obtain ⟨rfl, -⟩ := e; exact hb
  have GA : G ≠ Ab := fun e => by have := h.hG; rw [e, hA] at this; simp at this
  have FA : F ≠ Ab := fun e => by have := h.hF; rw [e, hA] at this; simp at this
  have hO1 := own_other h.hO hg (.inr (fun e => hne Ab 23 cA hA (by decide) e))
  have hst := hO1.stored u.toNat v1
  have far : ∀ k, k ≠ Ab → (W1.setCell ⟨Ab, u.toNat, none⟩ v1).heap[k]? = W1.heap[k]? := fun k hk => Below.heap_setCell W1 ⟨Ab, u.toNat, none⟩ v1 k hk
  have tyA : ∀ {v : Value} {xs : List Int} {ok : Nat → Prop}, Kd.R (Kd.int .i64) 3 W1 w0.heap.size ok v xs → ∀ k, v.ownBlock = some k → k ≠ Ab := fun hR k hk e => by
    obtain ⟨cells, hc⟩ := Kd.R_typed hR k hk
    rw [e, hA1] at hc; simp at hc
  have keep : ∀ {v : Value} {xs : List Int}, Kd.R (Kd.int .i64) 3 W1 w0.heap.size (fun k => k ≠ F) v xs → Kd.R (Kd.int .i64) 3 (W1.setCell ⟨Ab, u.toNat, none⟩ v1) w0.heap.size (fun k => k ≠ F) v xs := fun hR =>
    Kd.R_mono (Kd.R_far (p := ⟨Ab, u.toNat, none⟩) (Kd.R_types hR hA1 (by intro q hq; rcases List.mem_cons.1 hq with rfl | hq; exact (by decide); exact absurd hq (by simp [Kd.int, Kd.scalar]))) (fun k hk => hk.2) v1) (fun k hk => hk.1)
  have other : ∀ j, j < n → j ≠ u.toNat → Kd.R (Kd.int .i64) 3 W1 w0.heap.size (fun k => k ≠ F) (vals.getD j undef) (adj.getD j []) := fun j hj hju =>
    Kd.R_mono (Kd.R_grown (Kd.R_mono (ok' := fun k => k ≠ F ∧ some k ≠ (vals.getD u.toNat undef).ownBlock) ⟨fun k hk => ⟨(h.hrow j hj).1 k hk, fun e => h.hap j u.toNat hj hu hju k hk e.symm⟩, by
      obtain ⟨a, inner, b, c'⟩ := h.hrow j hj
      exact ⟨inner, b, c'.imp_ (fun _ _ hp => hp)⟩⟩ (fun _ hk => hk)) hg (fun k hk => hk.2)) (fun k hk => hk.1)
  refine ⟨(far G GA).trans hG1, (far F FA).trans hF1, hst.1, ?_, h.bG, h.bF, by simp [addAt, h.hlen], ?_, ?_⟩
  · have hb1 : Below w0.heap.size w0 W1 := pw_below_grown h.hW _ h.hW.size hg (fun k hk => Kd.R_base ho k hk)
    exact pw_below_grown hb1 _ hb1.size hst.2 (fun k hk => by cases hk; exact bA)
  · intro j hj
    by_cases e : u.toNat = j
    · subst e
      rw [getD_set_self _ _ _ _ (by omega), addAt, getD_set_self _ _ _ _ (by rw [h.hlen]; omega)]
      exact keep hr
    · rw [getD_set_ne _ _ _ _ _ e, addAt, getD_set_ne _ _ _ _ _ e]
      exact keep (other j hj (fun e' => e e'.symm))
  · intro i j hi hj hij k hk
    by_cases e : u.toNat = i
    · subst e
      rw [getD_set_self _ _ _ _ (by omega)] at hk
      rw [getD_set_ne _ _ _ _ _ hij]
      rcases hv with hv | ⟨b, hb, hbs⟩
      · exact h.hap _ j hu hj hij k (hv ▸ hk)
      · intro e
        have := Kd.R_lt (h.hrow j hj) k e
        rw [hb] at hk; cases hk; omega
    · rw [getD_set_ne _ _ _ _ _ e] at hk
      by_cases e2 : u.toNat = j
      · subst e2
        rw [getD_set_self _ _ _ _ (by omega)]
        rcases hv with hv | ⟨b, hb, hbs⟩
        · rw [hv]; exact h.hap i _ hi hu hij k hk
        · intro e
          have := Kd.R_lt (h.hrow i hi) k hk
          rw [hb] at e; cases e; omega
      · rw [getD_set_ne _ _ _ _ _ e2]; exact h.hap i j hi hj hij k hk
end
end Go.Proofs.Ytadeidhefjifaaa.Px
end
