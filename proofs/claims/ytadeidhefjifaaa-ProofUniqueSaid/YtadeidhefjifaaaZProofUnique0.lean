/- Parts of the proof of ProofUnique, put together from several texts: the declarations that this law needs beside those of ProofAccepts. -/
import Derived.Test.YtadeidhefjifaaaZProofAccepts8
import Derived.ArgAppend
import Derived.Below
import Derived.BigQuiet
import Derived.ChangeSame
import Derived.Deep.AppendLies
import Derived.Deep.CutBlock
import Derived.Deep.DeepCutAuto
import Derived.Deep.Draws
import Derived.Deep.Fields
import Derived.Deep.Grids
import Derived.Deep.LoopGhost
import Derived.Deep.OwnRows
import Derived.Deep.QuietTactic
import Derived.Deep.RegionHeld3
import Derived.Deep.Slices
import Derived.KernelRfl
import Derived.Laws.BitsLemmas
import Derived.Laws.BytesArg
import Derived.Laws.IdiomCopy
import Derived.Laws.MakeOwn
import Derived.Laws.OwnMore
import Derived.Laws.Rows
import Derived.Laws.Slices
import Derived.Lib.AppendStr
import Derived.Lib.ConvBytes
import Derived.Maps.AppendAt
import Derived.OrdersHeld
import Derived.OwnWalk
import Derived.RowKit
import Derived.RowKit3
import Derived.Tactics
import Derived.Test.YtadeidhefjifaaaProg
import Derived.WalkKit
import Derived.WideLaws
section
namespace Go.Proofs.Ytadeidhefjifaaa.Px
open Go.RowKit Go.Proofs.YtadeidhefjifaaaW.PrintWords Go.Proofs.YtadeidhefjifaaaW.PrintLast Go.Proofs.YtadeidhefjifaaaW.PrintMore
attribute [local go_sem] max2_int min2_int max_two min_two max_three min_three max_four min_four   -- for this text's walks alone
set_option linter.unusedVariables false
set_option linter.unusedSimpArgs false
theorem k57_mk (w : World) (x : S57)  : k57.K w x [.int .i64 x.f0, .int .i64 x.f1, .int .i64 x.f2] := ⟨[.int .i64 x.f0], [.int .i64 x.f1, .int .i64 x.f2], rfl, rfl, ⟨[.int .i64 x.f1], [.int .i64 x.f2], rfl, rfl, rfl⟩⟩
end Go.Proofs.Ytadeidhefjifaaa.Px
end
section
set_option linter.unusedVariables false
set_option linter.unusedSimpArgs false
namespace Go.Proofs.Ytadeidhefjifaaa.Px.L20
open Go.RowKit Go.Proofs.YtadeidhefjifaaaW.PrintWords Go.Proofs.YtadeidhefjifaaaW.PrintLast Go.Proofs.YtadeidhefjifaaaW.PrintMore
section
variable {α β : Type} {f F A B : Nat → Option α} {r x : α} {y : β} {g : Nat → α → Option β} {c : Prop} [Decidable c]
end
theorem sg_swap (x : Nat → Nat → Int) (m : Nat) : ∀ n, sg (fun j => sg (x j) m) n = sg (fun k => sg (fun j => x j k) n) m
  | 0 => by simp only [sg]; exact (sg_zero m).symm
  | n + 1 => by simp only [sg]; rw [sg_swap x m n, sg_add]
theorem sb_zero {p : S57 → Bool} : ∀ {us : List S57}, (∀ u ∈ us, ¬ p u = true) → sb p us = 0
  | [], _ => rfl
  | u :: us, h => by rw [sb_no (h u (by simp))]; exact sb_zero fun x hx => h x (by simp [hx])
/-- NO ASSIGNMENT EXCEEDS A CUT. -/
theorem dual {pu : Int} {q : List S92} {l : List S44} (G : Gd pu q l) {us : List S57} (A : Al q l pu us) (ca cr : List Bool) : allS us ≤ sg (outS q l pu ca cr) l.length + sg (finS q cr) q.length := by
  have hpos : ∀ p, 0 ≤ sb p us := fun p => sb_nonneg fun u hu => (A.use u hu).2.2.2.2.1
  have hS : sg (fun j => sb (atA j) us) l.length = allS us := sg_split (c := S57.f0) (fun k u => by simp [atA]) fun u hu => ⟨(A.use u hu).1, (A.use u hu).2.1⟩
  have hR : ∀ j : Nat, sg (fun k => sb (atB j k) us) q.length = sb (atA j) us := fun j => sg_split (c := S57.f1) (fun k u => by simp [atB, atA]) fun u hu => ⟨(A.use u hu).2.2.1, (A.use u hu).2.2.2.1⟩
  have hC : ∀ k : Nat, sg (fun j => sb (atB j k) us) l.length = sb (atR k) us := fun k => sg_split (c := S57.f0) (fun j u => by simp [atB, atR, Bool.and_comm]) fun u hu => ⟨(A.use u hu).1, (A.use u hu).2.1⟩
  have hrow : ∀ j, j < l.length → sb (atA j) us ≤ outS q l pu ca cr j + sg (fun k => if rdOf false cr (k : Int) = true then sb (atB j k) us else 0) q.length := by
    intro j hj
    have h0 : 0 ≤ sg (fun k => if rdOf false cr (k : Int) = true then sb (atB j k) us else 0) q.length := by
      have h := sg_le (f := fun _ => 0) (g := fun k => if rdOf false cr (k : Int) = true then sb (atB j k) us else 0) (n := q.length) fun k hk => by
        split
        · exact hpos _
        · exact Int.le_refl _
      rwa [sg_zero] at h
    unfold outS
    split
    · have := A.row j (by omega) (by omega); omega
    · rw [← hR j]
      have h1 : sg (fun k => sb (atB j k) us) q.length = sg (fun k => if rdOf false cr (k : Int) = true then 0 else sb (atB j k) us) q.length + sg (fun k => if rdOf false cr (k : Int) = true then sb (atB j k) us else 0) q.length := by
        rw [← sg_add]
        exact sg_congr fun k hk => by split <;> simp
      have h2 : sg (fun k => if rdOf false cr (k : Int) = true then 0 else sb (atB j k) us) q.length ≤ rowS q cr (rd_T44 l j) q.length := by
        refine sg_le fun k hk => ?_
        have hc := G.l1 _ (rd_memA (l := l) (a := (j : Int)) (by omega) (by omega))
        by_cases e : rdOf false cr (k : Int) = true
        · rw [if_pos e, if_neg (by simp [e])]; exact Int.le_refl _
        · rw [if_neg e]
          by_cases e2 : eligB (rd_T92 q k) (rd_T44 l j) = true
          · rw [if_pos ⟨by simpa using e, e2⟩]; exact A.one j k (by omega) (by omega)
          · rw [if_neg (fun h => e2 h.2)]
            refine Int.le_of_eq (sb_zero fun u hu hb => ?_)
            have := (A.use u hu).2.2.2.2.2.2
            simp only [atB, decide_eq_true_eq] at hb
            rw [hb.1, hb.2] at this
            exact e2 this
      omega
  have hsum := sg_le hrow
  rw [sg_add, hS, sg_swap] at hsum
  have hfin : sg (fun k => sg (fun j => if rdOf false cr (k : Int) = true then sb (atB j k) us else 0) l.length) q.length ≤ sg (finS q cr) q.length := by
    refine sg_le fun k hk => ?_
    unfold finS
    by_cases e : rdOf false cr (k : Int) = true
    · simp only [e, if_true]
      rw [hC k]
      exact A.col k (by omega) (by omega)
    · rw [if_neg e]
      refine Int.le_of_eq ((sg_congr fun j hj => ?_).trans (sg_zero l.length))
      rw [if_neg e]
  omega
/-- THE MAIN THEOREM: an assignment leaves at least as much open as every cut says. -/
theorem main {n u e mn md : Int} {q : List S92} {l : List S44} {us : List S57} (h : alV n u e mn md q l us = 0) (hl : l.length ≤ 12000000) (c : List Bool) : (missV n u e mn md q us).2 = 0 ∧ 0 ≤ (missV n u e mn md q us).1 ∧ ((boundV n u e mn md q l c).2 = 0 → 0 ≤ (boundV n u e mn md q l c).1 ∧ (boundV n u e mn md q l c).1 ≤ (missV n u e mn md q us).1) := by
  obtain ⟨h1, h2⟩ := al_zero h
  obtain ⟨h3, h4, G⟩ := gd_of h1
  obtain ⟨e1, e2⟩ := miss_al h3 G h2
  rw [e1]
  refine ⟨rfl, e2, fun hb => ?_⟩
  unfold boundV at hb ⊢
  rw [if_pos h1] at hb ⊢
  split at hb
  · rename_i hc
    rw [if_pos hc]
    have := dual G (al_all G h2) ((c.drop 1).take l.length) (c.drop (1 + l.length))
    have := bound_eq G hl ((c.drop 1).take l.length) (c.drop (1 + l.length))
    dsimp only
    unfold mx
    split <;> omega
  · cases hb
end Go.Proofs.Ytadeidhefjifaaa.Px.L20
end
section
namespace Go.Proofs.Ytadeidhefjifaaa.Px
noncomputable section
open Go.RowKit Go.Proofs.YtadeidhefjifaaaW.PrintWords Go.Proofs.YtadeidhefjifaaaW.PrintLast Go.Proofs.YtadeidhefjifaaaW.PrintMore
attribute [local go_sem] max2_int min2_int max_two min_two max_three min_three max_four min_four   -- for this text's walks alone
set_option linter.unusedVariables false
set_option linter.unusedSimpArgs false
def sizarlaw20_ProofUnique.j0 : Nat → List (S44) → Bool → ByteArray → Int → Int → Int → Int → Int → List (S92) → List (S57) → Int → List Bool → Option (Bool)
  | 0, _, _, _, _, _, _, _, _, _, _, _, _ => none
  | k + 1, x1, x20, x631000, x631001, x631002, x631003, x631004, x631005, x631006, x632000, x632001, x632002 => if x20 = true then (some true) else ((degree_Audit.f k x631000 x631001 x631002 x631003 x631004 x631005 x631006 x1).bind fun bt634 => ((proof_Check.f k x631000 x631001 x631002 x631003 x631004 x631005 x631006 x1 x632000 x632001 x632002).bind fun t643 => (if t643 = 0 then (if bt634.2.2.2 = 0 then (some (x632001 == bt634.2.1)) else (some false)) else (some true))))
def sizarlaw20_ProofUnique.f (k : Nat) (a0_0 : ByteArray) (a0_1 : Int) (a0_2 : Int) (a0_3 : Int) (a0_4 : Int) (a0_5 : Int) (l0_6 : List (S92)) (l1 : List (S44)) (l2_0 : List (S57)) (a2_1 : Int) (l2_2 : List Bool) : Option (Bool) := (sizarlaw20_sane.f k).bind fun t632 => (if t632 = true then ((sizarref20_Few.f k a0_0 a0_1 a0_2 a0_3 a0_4 a0_5 l0_6 l1).bind fun t633 => (if t633 = true then (sizarlaw20_ProofUnique.j0 k l1 (decide ((l2_0.length : Int) > 60)) a0_0 a0_1 a0_2 a0_3 a0_4 a0_5 l0_6 l2_0 a2_1 l2_2) else (sizarlaw20_ProofUnique.j0 k l1 true a0_0 a0_1 a0_2 a0_3 a0_4 a0_5 l0_6 l2_0 a2_1 l2_2))) else (some false))
set_option maxHeartbeats 8000000 in
set_option maxRecDepth 100000 in
theorem sizarlaw20_ProofUnique.calls (k : Nat) (a0_0 : ByteArray) (a0_1 : Int) (a0_2 : Int) (a0_3 : Int) (a0_4 : Int) (a0_5 : Int) (A0_6 : Option Addr) (c0_6 : Nat) (l0_6 : List (S92)) (A1 : Option Addr) (c1 : Nat) (l1 : List (S44)) (A2_0 : Option Addr) (c2_0 : Nat) (l2_0 : List (S57)) (a2_1 : Int) (A2_2 : Option Addr) (c2_2 : Nat) (l2_2 : List Bool) (r : Bool) (w : World) (hr0_6 : Kd.C k92 w A0_6 l0_6.length l0_6) (hc0_6 : l0_6.length ≤ c0_6) (hr1 : Kd.C k44 w A1 l1.length l1) (hc1 : l1.length ≤ c1) (hr2_0 : Kd.C k57 w A2_0 l2_0.length l2_0) (hc2_0 : l2_0.length ≤ c2_0) (hr2_2 : Kd.C Kd.bool w A2_2 l2_2.length l2_2) (hc2_2 : l2_2.length ≤ c2_2) (h : sizarlaw20_ProofUnique.f k a0_0 a0_1 a0_2 a0_3 a0_4 a0_5 l0_6 l1 l2_0 a2_1 l2_2 = some r) :
    Calls Try.prog 18 #[.agg #[.string a0_0, .int .i64 a0_1, .int .i64 a0_2, .int .i64 a0_3, .int .i64 a0_4, .int .i64 a0_5, .slice A0_6 l0_6.length c0_6], .slice A1 l1.length c1, .agg #[.slice A2_0 l2_0.length c2_0, .int .i64 a2_1, .slice A2_2 l2_2.length c2_2]] w fun e w' => e = .returned (.bool r) ∧ Below w.heap.size w w' := by
  have hu41 := Try.underlying41
  have hu48 := Try.underlying48
  have HR0_6 := Aside0.mk hr0_6
  have HC0_6 := Aside0.mk hc0_6
  clear hr0_6 hc0_6
  have HR1 := Aside0.mk hr1
  have HC1 := Aside0.mk hc1
  clear hr1 hc1
  have HR2_0 := Aside0.mk hr2_0
  have HC2_0 := Aside0.mk hc2_0
  clear hr2_0 hc2_0
  have HR2_2 := Aside0.mk hr2_2
  have HC2_2 := Aside0.mk hc2_2
  clear hr2_2 hc2_2
  have HB := Aside0.mk (Below.refl w.heap.size w)
  have H : ((sizarlaw20_sane.f k).bind fun t632 => (if t632 = true then ((sizarref20_Few.f k a0_0 a0_1 a0_2 a0_3 a0_4 a0_5 l0_6 l1).bind fun t633 => (if t633 = true then (sizarlaw20_ProofUnique.j0 k l1 (decide ((l2_0.length : Int) > 60)) a0_0 a0_1 a0_2 a0_3 a0_4 a0_5 l0_6 l2_0 a2_1 l2_2) else (sizarlaw20_ProofUnique.j0 k l1 true a0_0 a0_1 a0_2 a0_3 a0_4 a0_5 l0_6 l2_0 a2_1 l2_2))) else (some false))) = some r := h
  clear h
  replace H := Option.bind_eq_some_iff.mp H
  obtain ⟨t632, A40, H⟩ := H
  replace H : (if t632 = true then ((sizarref20_Few.f k a0_0 a0_1 a0_2 a0_3 a0_4 a0_5 l0_6 l1).bind fun t633 => (if t633 = true then (sizarlaw20_ProofUnique.j0 k l1 (decide ((l2_0.length : Int) > 60)) a0_0 a0_1 a0_2 a0_3 a0_4 a0_5 l0_6 l2_0 a2_1 l2_2) else (sizarlaw20_ProofUnique.j0 k l1 true a0_0 a0_1 a0_2 a0_3 a0_4 a0_5 l0_6 l2_0 a2_1 l2_2))) else (some false)) = some r := H
  have A4 := Aside0.mk A40
  clear A40
  by_cases c5 : t632 = true
  · subst c5
    have H1 : ((sizarref20_Few.f k a0_0 a0_1 a0_2 a0_3 a0_4 a0_5 l0_6 l1).bind fun t633 => (if t633 = true then (sizarlaw20_ProofUnique.j0 k l1 (decide ((l2_0.length : Int) > 60)) a0_0 a0_1 a0_2 a0_3 a0_4 a0_5 l0_6 l2_0 a2_1 l2_2) else (sizarlaw20_ProofUnique.j0 k l1 true a0_0 a0_1 a0_2 a0_3 a0_4 a0_5 l0_6 l2_0 a2_1 l2_2))) = some r := by rw [if_pos rfl] at H; exact H
    clear H
    have H := H1
    clear H1
    have HC6 := Aside0.mk H
    clear H
    go_enter Try.func18, Try.ntmps18
    go_upto_region 3 with (first | ((with_reducible refine gate_dst (N := 3) rfl ?_); (try (refine gate_guard (by rfl) ?_; dsimp only)); refine box_event ?hg (N := 3) ?hd (cs := #[.string a0_0, .int .i64 a0_1, .int .i64 a0_2, .int .i64 a0_3, .int .i64 a0_4, .int .i64 a0_5, .slice A0_6 l0_6.length c0_6]) (t := 41) ?hr ?_; (case hd => rfl); (case hg => rfl); (case hr => first | (go_simp; done) | (go_simp; rfl)); intro gb630 hg w7 hbox hb; have n0_ := Aside0.mk (below_step (by repeat (first | (with_reducible first | exact HB.out | apply below_alloc | apply pw_below_drewN | apply below_drew1) | exact HB.out)) hb); have n1_ := Aside0.mk (hbox); have n2_ := Aside0.mk ((by rw [hg]; exact (below_size (by repeat (first | (with_reducible first | exact HB.out | apply below_alloc | apply pw_below_drewN | apply below_drew1) | exact HB.out))) : w.heap.size ≤ gb630)); have n3_ := Aside0.mk ((by rw [hg]; exact (below_size (by repeat (first | (with_reducible first | exact HB.out | apply below_alloc | apply pw_below_drewN | apply below_drew1) | exact HB.out))) : w.heap.size ≤ gb630)); clear HB; have HB := n0_; have BK630 := n1_; have GW630 := n2_; have GE630 := n3_; clear n0_ n1_ n2_ n3_; clear hb hbox hg) | ((with_reducible refine gate_dst (N := 5) rfl ?_); (try (refine gate_guard (by rfl) ?_; dsimp only)); refine box_event ?hg (N := 5) ?hd (cs := #[.slice A2_0 l2_0.length c2_0, .int .i64 a2_1, .slice A2_2 l2_2.length c2_2]) (t := 48) ?hr ?_; (case hd => rfl); (case hg => rfl); (case hr => first | (go_simp; done) | (go_simp; rfl)); intro gb631 hg w8 hbox hb; have n0_ := Aside0.mk (blk_below (g := gb630) (o := .cells #[.string a0_0, .int .i64 a0_1, .int .i64 a0_2, .int .i64 a0_3, .int .i64 a0_4, .int .i64 a0_5, .slice A0_6 l0_6.length c0_6] 41 (0, 0)) (by (with_reducible repeat (first | refine blk_drewN ?_ _ | refine blk_drew ?_ | refine blk_alloc ?_ _)); exact BK630.out) hb); have n1_ := Aside0.mk (below_step (by repeat (first | (with_reducible first | exact HB.out | apply below_alloc | apply pw_below_drewN | apply below_drew1 | refine below_set ?_ GE630.out) | exact HB.out)) hb); have n2_ := Aside0.mk (hbox); have n3_ := Aside0.mk ((by rw [hg]; exact (below_size (by repeat (first | (with_reducible first | exact HB.out | apply below_alloc | apply pw_below_drewN | apply below_drew1 | refine below_set ?_ GE630.out) | exact HB.out))) : w.heap.size ≤ gb631)); have n4_ := Aside0.mk ((by rw [hg]; exact (below_size (by repeat (first | (with_reducible first | exact HB.out | apply below_alloc | apply pw_below_drewN | apply below_drew1 | refine below_set ?_ GE630.out) | exact HB.out))) : w.heap.size ≤ gb631)); have n5_ := Aside0.mk ((by rw [hg]; exact Nat.ne_of_lt (blk_lt (g := gb630) (o := .cells #[.string a0_0, .int .i64 a0_1, .int .i64 a0_2, .int .i64 a0_3, .int .i64 a0_4, .int .i64 a0_5, .slice A0_6 l0_6.length c0_6] 41 (0, 0)) (by (with_reducible repeat (first | refine blk_drewN ?_ _ | refine blk_drew ?_ | refine blk_alloc ?_ _)); exact BK630.out)) : gb630 ≠ gb631)); have n6_ := Aside0.mk ((by rw [hg]; exact Nat.ne_of_gt (blk_lt (g := gb630) (o := .cells #[.string a0_0, .int .i64 a0_1, .int .i64 a0_2, .int .i64 a0_3, .int .i64 a0_4, .int .i64 a0_5, .slice A0_6 l0_6.length c0_6] 41 (0, 0)) (by (with_reducible repeat (first | refine blk_drewN ?_ _ | refine blk_drew ?_ | refine blk_alloc ?_ _)); exact BK630.out)) : gb631 ≠ gb630)); clear BK630; clear HB; have BK630 := n0_; have HB := n1_; have BK631 := n2_; have GW631 := n3_; have GE631 := n4_; have NB630_631 := n5_; have NB631_630 := n6_; clear n0_ n1_ n2_ n3_ n4_ n5_ n6_; clear hb hbox hg) | ((with_reducible refine gate_callee (f := 30) rfl ?_); refine goesL_ (some 9) rfl rfl Try.func30 (by kernel_rfl) rfl #[] rfl (by (try simp only [List.map_toArray, List.map_cons, List.map_nil]); first | done | rfl | (simp only [List.length_drop, List.length_take]; rfl)) ?_; (with_reducible refine (sizarlaw20_sane.calls k  true _ A4.out).mono ?_); rintro e w9 ⟨rfl, hb⟩; refine ⟨_, rfl, ?_⟩; have n0_ := Aside0.mk (blk_below (g := gb630) (o := .cells #[.string a0_0, .int .i64 a0_1, .int .i64 a0_2, .int .i64 a0_3, .int .i64 a0_4, .int .i64 a0_5, .slice A0_6 l0_6.length c0_6] 41 (0, 0)) (by (with_reducible repeat (first | refine blk_drewN ?_ _ | refine blk_drew ?_ | refine blk_alloc ?_ _)); exact BK630.out) hb); have n1_ := Aside0.mk (blk_below (g := gb631) (o := .cells #[.slice A2_0 l2_0.length c2_0, .int .i64 a2_1, .slice A2_2 l2_2.length c2_2] 48 (0, 0)) (by (with_reducible repeat (first | refine blk_drewN ?_ _ | refine blk_drew ?_ | refine blk_alloc ?_ _)); exact BK631.out) hb); have n2_ := Aside0.mk (below_step (by repeat (first | (with_reducible first | exact HB.out | apply below_alloc | apply pw_below_drewN | apply below_drew1 | refine below_set ?_ GE630.out | refine below_set ?_ GE631.out) | exact HB.out)) hb); clear BK630; clear BK631; clear HB; have BK630 := n0_; have BK631 := n1_; have HB := n2_; clear n0_ n1_ n2_; (try clear hb); (try clear hb2); (try clear hk); (try clear hi)))
    (try simp only [Act.put, List.setIfInBounds_toArray, List.set_cons_zero, List.set_cons_succ])
    go_cut [20] (fun v20 wc => ∃ (kq : Nat) (x20_5 : Bool), v20 = .bool x20_5 ∧ Aside0 (sizarlaw20_ProofUnique.j0 kq l1 x20_5 a0_0 a0_1 a0_2 a0_3 a0_4 a0_5 l0_6 l2_0 a2_1 l2_2 = some r) ∧ Aside0 (kq ≤ k) ∧ Aside0 (wc.heap[gb630]? = some (.cells #[.string a0_0, .int .i64 a0_1, .int .i64 a0_2, .int .i64 a0_3, .int .i64 a0_4, .int .i64 a0_5, (.slice A0_6 l0_6.length c0_6)] 41 (0, 0))) ∧ Aside0 (wc.heap[gb631]? = some (.cells #[(.slice A2_0 l2_0.length c2_0), .int .i64 a2_1, (.slice A2_2 l2_2.length c2_2)] 48 (0, 0))) ∧ Aside0 (Below w.heap.size w wc))
    case first =>
      have H := HC6.out
      clear HC6
      replace H := Option.bind_eq_some_iff.mp H
      obtain ⟨t633, A100, H⟩ := H
      replace H : (if t633 = true then (sizarlaw20_ProofUnique.j0 k l1 (decide ((l2_0.length : Int) > 60)) a0_0 a0_1 a0_2 a0_3 a0_4 a0_5 l0_6 l2_0 a2_1 l2_2) else (sizarlaw20_ProofUnique.j0 k l1 true a0_0 a0_1 a0_2 a0_3 a0_4 a0_5 l0_6 l2_0 a2_1 l2_2)) = some r := H
      have A10 := Aside0.mk A100
      clear A100
      by_cases c11 : t633 = true
      · subst c11
        have H1 : (sizarlaw20_ProofUnique.j0 k l1 (decide ((l2_0.length : Int) > 60)) a0_0 a0_1 a0_2 a0_3 a0_4 a0_5 l0_6 l2_0 a2_1 l2_2) = some r := by rw [if_pos rfl] at H; exact H
        clear H
        have H := H1
        clear H1
        have H' := Aside0.mk H
        clear H
        have hnb12 := NB630_631.out
        have hnc12 := NB631_630.out
        have hcz13_0 : w9.cell? ⟨gb630, 0, none⟩ = some (.string a0_0) := (blk_cell BK630.out 0).trans rfl
        have hcz13_1 : w9.cell? ⟨gb630, 1, none⟩ = some (.int .i64 a0_1) := (blk_cell BK630.out 1).trans rfl
        have hcz13_2 : w9.cell? ⟨gb630, 2, none⟩ = some (.int .i64 a0_2) := (blk_cell BK630.out 2).trans rfl
        have hcz13_3 : w9.cell? ⟨gb630, 3, none⟩ = some (.int .i64 a0_3) := (blk_cell BK630.out 3).trans rfl
        have hcz13_4 : w9.cell? ⟨gb630, 4, none⟩ = some (.int .i64 a0_4) := (blk_cell BK630.out 4).trans rfl
        have hcz13_5 : w9.cell? ⟨gb630, 5, none⟩ = some (.int .i64 a0_5) := (blk_cell BK630.out 5).trans rfl
        have hcz13_6 : w9.cell? ⟨gb630, 6, none⟩ = some (.slice A0_6 l0_6.length c0_6) := (blk_cell BK630.out 6).trans rfl
        have hfz13_0 := blk_frozen BK630.out 0
        have hfz13_1 := blk_frozen BK630.out 1
        have hfz13_2 := blk_frozen BK630.out 2
        have hfz13_3 := blk_frozen BK630.out 3
        have hfz13_4 := blk_frozen BK630.out 4
        have hfz13_5 := blk_frozen BK630.out 5
        have hfz13_6 := blk_frozen BK630.out 6
        go_wp2_with (first | ((with_reducible refine gate_callee (f := 31) rfl ?_); refine goesL_ (some 13) rfl rfl Try.func31 (by kernel_rfl) rfl #[.agg #[.string a0_0, .int .i64 a0_1, .int .i64 a0_2, .int .i64 a0_3, .int .i64 a0_4, .int .i64 a0_5, .slice A0_6 l0_6.length c0_6], .slice A1 l1.length c1] rfl (by (try simp only [List.map_toArray, List.map_cons, List.map_nil]); first | done | rfl | (simp only [List.length_drop, List.length_take]; rfl)) ?_; (with_reducible refine (sizarref20_Few.calls k a0_0 a0_1 a0_2 a0_3 a0_4 a0_5 _ _ l0_6 _ _ l1 true _ ?side1 ?side2 ?side3 ?side4 A10.out).mono ?_); (case side1 => repeat (first | exact (Kd.C_below HR0_6.out HB.out) | (with_reducible refine Kd.C_alloc ?_ _) | (with_reducible refine Kd.C_drewN ?_ _) | (with_reducible refine Kd.C_drew ?_))); (case side2 => exact HC0_6.out); (case side3 => repeat (first | exact (Kd.C_below HR1.out HB.out) | (with_reducible refine Kd.C_alloc ?_ _) | (with_reducible refine Kd.C_drewN ?_ _) | (with_reducible refine Kd.C_drew ?_))); (case side4 => exact HC1.out); rintro e w14 ⟨rfl, hb⟩; refine ⟨_, rfl, ?_⟩; have n0_ := Aside0.mk (blk_below (g := gb630) (o := .cells #[.string a0_0, .int .i64 a0_1, .int .i64 a0_2, .int .i64 a0_3, .int .i64 a0_4, .int .i64 a0_5, .slice A0_6 l0_6.length c0_6] 41 (0, 0)) (by (with_reducible repeat (first | refine blk_drewN ?_ _ | refine blk_drew ?_ | refine blk_alloc ?_ _)); exact BK630.out) hb); have n1_ := Aside0.mk (blk_below (g := gb631) (o := .cells #[.slice A2_0 l2_0.length c2_0, .int .i64 a2_1, .slice A2_2 l2_2.length c2_2] 48 (0, 0)) (by (with_reducible repeat (first | refine blk_drewN ?_ _ | refine blk_drew ?_ | refine blk_alloc ?_ _)); exact BK631.out) hb); have n2_ := Aside0.mk (below_step (by repeat (first | (with_reducible first | exact HB.out | apply below_alloc | apply pw_below_drewN | apply below_drew1 | refine below_set ?_ GE630.out | refine below_set ?_ GE631.out) | exact HB.out)) hb); clear BK630; clear BK631; clear HB; have BK630 := n0_; have BK631 := n1_; have HB := n2_; clear n0_ n1_ n2_; (try clear hb); (try clear hb2); (try clear hk); (try clear hi); have hcz15_0 : w14.cell? ⟨gb631, 0, none⟩ = some (.slice A2_0 l2_0.length c2_0) := (blk_cell BK631.out 0).trans rfl; have hcz15_1 : w14.cell? ⟨gb631, 1, none⟩ = some (.int .i64 a2_1) := (blk_cell BK631.out 1).trans rfl; have hcz15_2 : w14.cell? ⟨gb631, 2, none⟩ = some (.slice A2_2 l2_2.length c2_2) := (blk_cell BK631.out 2).trans rfl; have hfz15_0 := blk_frozen BK631.out 0; have hfz15_1 := blk_frozen BK631.out 1; have hfz15_2 := blk_frozen BK631.out 2))
        go_meet
        case rel => exact ⟨_, (decide ((l2_0.length : Int) > 60)), (by first | rfl | (simp; done) | (simp [*]; done)), H', ⟨by first | omega | exact Nat.le_refl _⟩, ⟨by (with_reducible repeat (first | refine blk_drewN ?_ _ | refine blk_drew ?_ | refine blk_alloc ?_ _)); exact BK630.out⟩, ⟨by (with_reducible repeat (first | refine blk_drewN ?_ _ | refine blk_drew ?_ | refine blk_alloc ?_ _)); exact BK631.out⟩, ⟨by repeat (first | (with_reducible first | exact HB.out | apply below_alloc | apply pw_below_drewN | apply below_drew1 | refine below_set ?_ GE630.out | refine below_set ?_ GE631.out) | exact HB.out)⟩⟩
      · replace c11 := Bool.eq_false_iff.mpr c11
        subst c11
        have H1 : (sizarlaw20_ProofUnique.j0 k l1 true a0_0 a0_1 a0_2 a0_3 a0_4 a0_5 l0_6 l2_0 a2_1 l2_2) = some r := by rw [if_neg (show ¬ (false = true) by decide)] at H; exact H
        clear H
        have H := H1
        clear H1
        have H' := Aside0.mk H
        clear H
        have hnb16 := NB630_631.out
        have hnc16 := NB631_630.out
        have hcz17_0 : w9.cell? ⟨gb630, 0, none⟩ = some (.string a0_0) := (blk_cell BK630.out 0).trans rfl
        have hcz17_1 : w9.cell? ⟨gb630, 1, none⟩ = some (.int .i64 a0_1) := (blk_cell BK630.out 1).trans rfl
        have hcz17_2 : w9.cell? ⟨gb630, 2, none⟩ = some (.int .i64 a0_2) := (blk_cell BK630.out 2).trans rfl
        have hcz17_3 : w9.cell? ⟨gb630, 3, none⟩ = some (.int .i64 a0_3) := (blk_cell BK630.out 3).trans rfl
        have hcz17_4 : w9.cell? ⟨gb630, 4, none⟩ = some (.int .i64 a0_4) := (blk_cell BK630.out 4).trans rfl
        have hcz17_5 : w9.cell? ⟨gb630, 5, none⟩ = some (.int .i64 a0_5) := (blk_cell BK630.out 5).trans rfl
        have hcz17_6 : w9.cell? ⟨gb630, 6, none⟩ = some (.slice A0_6 l0_6.length c0_6) := (blk_cell BK630.out 6).trans rfl
        have hfz17_0 := blk_frozen BK630.out 0
        have hfz17_1 := blk_frozen BK630.out 1
        have hfz17_2 := blk_frozen BK630.out 2
        have hfz17_3 := blk_frozen BK630.out 3
        have hfz17_4 := blk_frozen BK630.out 4
        have hfz17_5 := blk_frozen BK630.out 5
        have hfz17_6 := blk_frozen BK630.out 6
        go_wp2_with (first | ((with_reducible refine gate_callee (f := 31) rfl ?_); refine goesL_ (some 13) rfl rfl Try.func31 (by kernel_rfl) rfl #[.agg #[.string a0_0, .int .i64 a0_1, .int .i64 a0_2, .int .i64 a0_3, .int .i64 a0_4, .int .i64 a0_5, .slice A0_6 l0_6.length c0_6], .slice A1 l1.length c1] rfl (by (try simp only [List.map_toArray, List.map_cons, List.map_nil]); first | done | rfl | (simp only [List.length_drop, List.length_take]; rfl)) ?_; (with_reducible refine (sizarref20_Few.calls k a0_0 a0_1 a0_2 a0_3 a0_4 a0_5 _ _ l0_6 _ _ l1 false _ ?side1 ?side2 ?side3 ?side4 A10.out).mono ?_); (case side1 => repeat (first | exact (Kd.C_below HR0_6.out HB.out) | (with_reducible refine Kd.C_alloc ?_ _) | (with_reducible refine Kd.C_drewN ?_ _) | (with_reducible refine Kd.C_drew ?_))); (case side2 => exact HC0_6.out); (case side3 => repeat (first | exact (Kd.C_below HR1.out HB.out) | (with_reducible refine Kd.C_alloc ?_ _) | (with_reducible refine Kd.C_drewN ?_ _) | (with_reducible refine Kd.C_drew ?_))); (case side4 => exact HC1.out); rintro e w18 ⟨rfl, hb⟩; refine ⟨_, rfl, ?_⟩; have n0_ := Aside0.mk (blk_below (g := gb630) (o := .cells #[.string a0_0, .int .i64 a0_1, .int .i64 a0_2, .int .i64 a0_3, .int .i64 a0_4, .int .i64 a0_5, .slice A0_6 l0_6.length c0_6] 41 (0, 0)) (by (with_reducible repeat (first | refine blk_drewN ?_ _ | refine blk_drew ?_ | refine blk_alloc ?_ _)); exact BK630.out) hb); have n1_ := Aside0.mk (blk_below (g := gb631) (o := .cells #[.slice A2_0 l2_0.length c2_0, .int .i64 a2_1, .slice A2_2 l2_2.length c2_2] 48 (0, 0)) (by (with_reducible repeat (first | refine blk_drewN ?_ _ | refine blk_drew ?_ | refine blk_alloc ?_ _)); exact BK631.out) hb); have n2_ := Aside0.mk (below_step (by repeat (first | (with_reducible first | exact HB.out | apply below_alloc | apply pw_below_drewN | apply below_drew1 | refine below_set ?_ GE630.out | refine below_set ?_ GE631.out) | exact HB.out)) hb); clear BK630; clear BK631; clear HB; have BK630 := n0_; have BK631 := n1_; have HB := n2_; clear n0_ n1_ n2_; (try clear hb); (try clear hb2); (try clear hk); (try clear hi)))
        go_meet
        case rel => exact ⟨_, (true), (by first | rfl | (simp; done) | (simp [*]; done)), H', ⟨by first | omega | exact Nat.le_refl _⟩, ⟨by (with_reducible repeat (first | refine blk_drewN ?_ _ | refine blk_drew ?_ | refine blk_alloc ?_ _)); exact BK630.out⟩, ⟨by (with_reducible repeat (first | refine blk_drewN ?_ _ | refine blk_drew ?_ | refine blk_alloc ?_ _)); exact BK631.out⟩, ⟨by repeat (first | (with_reducible first | exact HB.out | apply below_alloc | apply pw_below_drewN | apply below_drew1 | refine below_set ?_ GE630.out | refine below_set ?_ GE631.out) | exact HB.out)⟩⟩
    case rest =>
      clear HC6
      try clear c1
      try clear c2
      try clear p2
      try clear c3
      try clear c5
      try clear c11
      try clear c12
      try clear c16
      try clear c18
      try clear hcz13_0
      try clear hcz13_1
      try clear hcz13_2
      try clear hcz13_3
      try clear hcz13_4
      try clear hcz13_5
      try clear hcz13_6
      try clear hcz15_0
      try clear hcz15_1
      try clear hcz15_2
      try clear hcz17_0
      try clear hcz17_1
      try clear hcz17_2
      try clear hcz17_3
      try clear hcz17_4
      try clear hcz17_5
      try clear hcz17_6
      try clear hfz13_0
      try clear hfz13_1
      try clear hfz13_2
      try clear hfz13_3
      try clear hfz13_4
      try clear hfz13_5
      try clear hfz13_6
      try clear hfz15_0
      try clear hfz15_1
      try clear hfz15_2
      try clear hfz17_0
      try clear hfz17_1
      try clear hfz17_2
      try clear hfz17_3
      try clear hfz17_4
      try clear hfz17_5
      try clear hfz17_6
      obtain ⟨kq, x20_5, rfl, HA, HJ5, BK630, BK631, HB⟩ := hcut
      cases kq with
      | zero => exact absurd HA.out (by simp [sizarlaw20_ProofUnique.j0])
      | succ kj5 =>
        have H := HA.out
        clear HA
        simp only [sizarlaw20_ProofUnique.j0] at H
        by_cases c19 : x20_5 = true
        · subst c19
          have H1 : (some true) = some r := by rw [if_pos rfl] at H; exact H
          clear H
          have H := H1
          clear H1
          obtain rfl := Option.some.inj H
          go_wp2
          go_ret
          exact ⟨by first | rfl | (simp [errW_none, errW_some] <;> rfl) | (simp [*, errW_none, errW_some] <;> rfl), by repeat (first | (with_reducible first | exact HB.out | apply below_alloc | apply pw_below_drewN | apply below_drew1 | refine below_set ?_ GE630.out | refine below_set ?_ GE631.out) | exact HB.out)⟩
        · replace c19 := Bool.eq_false_iff.mpr c19
          subst c19
          have H1 : ((degree_Audit.f kj5 a0_0 a0_1 a0_2 a0_3 a0_4 a0_5 l0_6 l1).bind fun bt634 => ((proof_Check.f kj5 a0_0 a0_1 a0_2 a0_3 a0_4 a0_5 l0_6 l1 l2_0 a2_1 l2_2).bind fun t643 => (if t643 = 0 then (if bt634.2.2.2 = 0 then (some (a2_1 == bt634.2.1)) else (some false)) else (some true)))) = some r := by rw [if_neg (show ¬ (false = true) by decide)] at H; exact H
          clear H
          have H := H1
          clear H1
          replace H := Option.bind_eq_some_iff.mp H
          obtain ⟨⟨t634, t637, t638, t641⟩, A200, H⟩ := H
          replace H : ((proof_Check.f kj5 a0_0 a0_1 a0_2 a0_3 a0_4 a0_5 l0_6 l1 l2_0 a2_1 l2_2).bind fun t643 => (if t643 = 0 then (if t641 = 0 then (some (a2_1 == t637)) else (some false)) else (some true))) = some r := H
          have A20 := Aside0.mk A200
          clear A200
          replace H := Option.bind_eq_some_iff.mp H
          obtain ⟨t643, A210, H⟩ := H
          replace H : (if t643 = 0 then (if t641 = 0 then (some (a2_1 == t637)) else (some false)) else (some true)) = some r := H
          have A21 := Aside0.mk A210
          clear A210
          by_cases c22 : t643 = 0
          · rw [if_pos c22] at H
            have c22b0 : (t643 == 0) = true := beq_iff_eq.mpr c22
            have c22b1 : (t643 != 0) = false := bne_eq_false_iff_eq.mpr c22
            clear c22
            by_cases c23 : t641 = 0
            · rw [if_pos c23] at H
              have c23b0 : (t641 == 0) = true := beq_iff_eq.mpr c23
              have c23b1 : (t641 != 0) = false := bne_eq_false_iff_eq.mpr c23
              clear c23
              obtain rfl := Option.some.inj H
              have hnb24 := NB630_631.out
              have hnc24 := NB631_630.out
              have hcz25_0 : wc.cell? ⟨gb630, 0, none⟩ = some (.string a0_0) := (blk_cell BK630.out 0).trans rfl
              have hcz25_1 : wc.cell? ⟨gb630, 1, none⟩ = some (.int .i64 a0_1) := (blk_cell BK630.out 1).trans rfl
              have hcz25_2 : wc.cell? ⟨gb630, 2, none⟩ = some (.int .i64 a0_2) := (blk_cell BK630.out 2).trans rfl
              have hcz25_3 : wc.cell? ⟨gb630, 3, none⟩ = some (.int .i64 a0_3) := (blk_cell BK630.out 3).trans rfl
              have hcz25_4 : wc.cell? ⟨gb630, 4, none⟩ = some (.int .i64 a0_4) := (blk_cell BK630.out 4).trans rfl
              have hcz25_5 : wc.cell? ⟨gb630, 5, none⟩ = some (.int .i64 a0_5) := (blk_cell BK630.out 5).trans rfl
              have hcz25_6 : wc.cell? ⟨gb630, 6, none⟩ = some (.slice A0_6 l0_6.length c0_6) := (blk_cell BK630.out 6).trans rfl
              have hfz25_0 := blk_frozen BK630.out 0
              have hfz25_1 := blk_frozen BK630.out 1
              have hfz25_2 := blk_frozen BK630.out 2
              have hfz25_3 := blk_frozen BK630.out 3
              have hfz25_4 := blk_frozen BK630.out 4
              have hfz25_5 := blk_frozen BK630.out 5
              have hfz25_6 := blk_frozen BK630.out 6
              go_wp2_with (first | ((with_reducible refine gate_callee (f := 32) rfl ?_); refine goesL_ (some 24) rfl rfl Try.func32 (by kernel_rfl) rfl #[.agg #[.string a0_0, .int .i64 a0_1, .int .i64 a0_2, .int .i64 a0_3, .int .i64 a0_4, .int .i64 a0_5, .slice A0_6 l0_6.length c0_6], .slice A1 l1.length c1] rfl (by (try simp only [List.map_toArray, List.map_cons, List.map_nil]); first | done | rfl | (simp only [List.length_drop, List.length_take]; rfl)) ?_; (with_reducible refine (degree_Audit.calls kj5 a0_0 a0_1 a0_2 a0_3 a0_4 a0_5 _ _ l0_6 _ _ l1 t634 t637 t638 t641 _ ?side1 ?side2 ?side3 ?side4 A20.out).mono ?_); (case side1 => repeat (first | exact (Kd.C_below HR0_6.out HB.out) | (with_reducible refine Kd.C_alloc ?_ _) | (with_reducible refine Kd.C_drewN ?_ _) | (with_reducible refine Kd.C_drew ?_))); (case side2 => exact HC0_6.out); (case side3 => repeat (first | exact (Kd.C_below HR1.out HB.out) | (with_reducible refine Kd.C_alloc ?_ _) | (with_reducible refine Kd.C_drewN ?_ _) | (with_reducible refine Kd.C_drew ?_))); (case side4 => exact HC1.out); rintro e w26 ⟨v635, v639, rfl, ho0, ho1, hb⟩; refine ⟨_, rfl, ?_⟩; have n0_ := Aside0.mk (Kd.R_lower ho0 (below_size (by repeat (first | (with_reducible first | exact HB.out | apply below_alloc | apply pw_below_drewN | apply below_drew1 | refine below_set ?_ GE630.out | refine below_set ?_ GE631.out) | exact HB.out)))); have n1_ := Aside0.mk (Kd.R_lower ho1 (below_size (by repeat (first | (with_reducible first | exact HB.out | apply below_alloc | apply pw_below_drewN | apply below_drew1 | refine below_set ?_ GE630.out | refine below_set ?_ GE631.out) | exact HB.out)))); have n2_ := Aside0.mk (blk_below (g := gb630) (o := .cells #[.string a0_0, .int .i64 a0_1, .int .i64 a0_2, .int .i64 a0_3, .int .i64 a0_4, .int .i64 a0_5, .slice A0_6 l0_6.length c0_6] 41 (0, 0)) (by (with_reducible repeat (first | refine blk_drewN ?_ _ | refine blk_drew ?_ | refine blk_alloc ?_ _)); exact BK630.out) hb); have n3_ := Aside0.mk (blk_below (g := gb631) (o := .cells #[.slice A2_0 l2_0.length c2_0, .int .i64 a2_1, .slice A2_2 l2_2.length c2_2] 48 (0, 0)) (by (with_reducible repeat (first | refine blk_drewN ?_ _ | refine blk_drew ?_ | refine blk_alloc ?_ _)); exact BK631.out) hb); have n4_ := Aside0.mk (below_step (by repeat (first | (with_reducible first | exact HB.out | apply below_alloc | apply pw_below_drewN | apply below_drew1 | refine below_set ?_ GE630.out | refine below_set ?_ GE631.out) | exact HB.out)) hb); clear BK630; clear BK631; clear HB; have HO636 := n0_; have HO640 := n1_; have BK630 := n2_; have BK631 := n3_; have HB := n4_; clear n0_ n1_ n2_ n3_ n4_; (try clear hb); (try clear hb2); (try clear hk); (try clear hi); (try clear ho0); (try clear ho1)) | ((with_reducible refine gate_dst (N := 7) rfl ?_); (try (refine gate_guard (by rfl) ?_; dsimp only)); refine box_event ?hg (N := 7) ?hd (cs := #[.slice none 0 0, .int .i64 0, .slice none 0 0]) (t := 48) ?hr ?_; (case hd => rfl); (case hg => rfl); (case hr => first | (go_simp; done) | (go_simp; rfl)); intro gb642 hg w27 hbox hb; have n0_ := Aside0.mk (Kd.R_below (by (with_reducible repeat (first | apply Kd.R_alloc | apply Kd.R_drewN | apply Kd.R_drew)); exact HO636.out) hb); have n1_ := Aside0.mk (Kd.R_below (by (with_reducible repeat (first | apply Kd.R_alloc | apply Kd.R_drewN | apply Kd.R_drew)); exact HO640.out) hb); have n2_ := Aside0.mk (blk_below (g := gb630) (o := .cells #[.string a0_0, .int .i64 a0_1, .int .i64 a0_2, .int .i64 a0_3, .int .i64 a0_4, .int .i64 a0_5, .slice A0_6 l0_6.length c0_6] 41 (0, 0)) (by (with_reducible repeat (first | refine blk_drewN ?_ _ | refine blk_drew ?_ | refine blk_alloc ?_ _)); exact BK630.out) hb); have n3_ := Aside0.mk (blk_below (g := gb631) (o := .cells #[.slice A2_0 l2_0.length c2_0, .int .i64 a2_1, .slice A2_2 l2_2.length c2_2] 48 (0, 0)) (by (with_reducible repeat (first | refine blk_drewN ?_ _ | refine blk_drew ?_ | refine blk_alloc ?_ _)); exact BK631.out) hb); have n4_ := Aside0.mk (below_step (by repeat (first | (with_reducible first | exact HB.out | apply below_alloc | apply pw_below_drewN | apply below_drew1 | refine below_set ?_ GE630.out | refine below_set ?_ GE631.out) | exact HB.out)) hb); have n5_ := Aside0.mk (hbox); have n6_ := Aside0.mk ((by rw [hg]; exact (below_size (by repeat (first | (with_reducible first | exact HB.out | apply below_alloc | apply pw_below_drewN | apply below_drew1 | refine below_set ?_ GE630.out | refine below_set ?_ GE631.out) | exact HB.out))) : w.heap.size ≤ gb642)); have n7_ := Aside0.mk ((by rw [hg]; exact (below_size (by repeat (first | (with_reducible first | exact HB.out | apply below_alloc | apply pw_below_drewN | apply below_drew1 | refine below_set ?_ GE630.out | refine below_set ?_ GE631.out) | exact HB.out))) : w.heap.size ≤ gb642)); have n8_ := Aside0.mk ((by rw [hg]; exact Nat.ne_of_lt (blk_lt (g := gb630) (o := .cells #[.string a0_0, .int .i64 a0_1, .int .i64 a0_2, .int .i64 a0_3, .int .i64 a0_4, .int .i64 a0_5, .slice A0_6 l0_6.length c0_6] 41 (0, 0)) (by (with_reducible repeat (first | refine blk_drewN ?_ _ | refine blk_drew ?_ | refine blk_alloc ?_ _)); exact BK630.out)) : gb630 ≠ gb642)); have n9_ := Aside0.mk ((by rw [hg]; exact Nat.ne_of_gt (blk_lt (g := gb630) (o := .cells #[.string a0_0, .int .i64 a0_1, .int .i64 a0_2, .int .i64 a0_3, .int .i64 a0_4, .int .i64 a0_5, .slice A0_6 l0_6.length c0_6] 41 (0, 0)) (by (with_reducible repeat (first | refine blk_drewN ?_ _ | refine blk_drew ?_ | refine blk_alloc ?_ _)); exact BK630.out)) : gb642 ≠ gb630)); have n10_ := Aside0.mk ((by rw [hg]; exact Nat.ne_of_lt (blk_lt (g := gb631) (o := .cells #[.slice A2_0 l2_0.length c2_0, .int .i64 a2_1, .slice A2_2 l2_2.length c2_2] 48 (0, 0)) (by (with_reducible repeat (first | refine blk_drewN ?_ _ | refine blk_drew ?_ | refine blk_alloc ?_ _)); exact BK631.out)) : gb631 ≠ gb642)); have n11_ := Aside0.mk ((by rw [hg]; exact Nat.ne_of_gt (blk_lt (g := gb631) (o := .cells #[.slice A2_0 l2_0.length c2_0, .int .i64 a2_1, .slice A2_2 l2_2.length c2_2] 48 (0, 0)) (by (with_reducible repeat (first | refine blk_drewN ?_ _ | refine blk_drew ?_ | refine blk_alloc ?_ _)); exact BK631.out)) : gb642 ≠ gb631)); clear HO636; clear HO640; clear BK630; clear BK631; clear HB; have HO636 := n0_; have HO640 := n1_; have BK630 := n2_; have BK631 := n3_; have HB := n4_; have BK642 := n5_; have GW642 := n6_; have GE642 := n7_; have NB630_642 := n8_; have NB642_630 := n9_; have NB631_642 := n10_; have NB642_631 := n11_; clear n0_ n1_ n2_ n3_ n4_ n5_ n6_ n7_ n8_ n9_ n10_ n11_; clear hb hbox hg; obtain ⟨Ao28, co28, eo28⟩ := Kd.R_slice HO636.out; subst eo28; have hnb29 := NB642_630.out; have hnc29 := NB630_642.out; have hnb30 := NB642_631.out; have hnc30 := NB631_642.out; have hcz31_0 : w27.cell? ⟨gb642, 0, none⟩ = some (.slice none 0 0) := (blk_cell BK642.out 0).trans rfl; have hcz31_1 : w27.cell? ⟨gb642, 1, none⟩ = some (.int .i64 0) := (blk_cell BK642.out 1).trans rfl; have hcz31_2 : w27.cell? ⟨gb642, 2, none⟩ = some (.slice none 0 0) := (blk_cell BK642.out 2).trans rfl; have hfz31_0 := blk_frozen BK642.out 0; have hfz31_1 := blk_frozen BK642.out 1; have hfz31_2 := blk_frozen BK642.out 2; obtain ⟨Ao32, co32, eo32⟩ := Kd.R_slice HO640.out; subst eo32; have hcz33_0 : w27.cell? ⟨gb630, 0, none⟩ = some (.string a0_0) := (blk_cell BK630.out 0).trans rfl; have hcz33_1 : w27.cell? ⟨gb630, 1, none⟩ = some (.int .i64 a0_1) := (blk_cell BK630.out 1).trans rfl; have hcz33_2 : w27.cell? ⟨gb630, 2, none⟩ = some (.int .i64 a0_2) := (blk_cell BK630.out 2).trans rfl; have hcz33_3 : w27.cell? ⟨gb630, 3, none⟩ = some (.int .i64 a0_3) := (blk_cell BK630.out 3).trans rfl; have hcz33_4 : w27.cell? ⟨gb630, 4, none⟩ = some (.int .i64 a0_4) := (blk_cell BK630.out 4).trans rfl; have hcz33_5 : w27.cell? ⟨gb630, 5, none⟩ = some (.int .i64 a0_5) := (blk_cell BK630.out 5).trans rfl; have hcz33_6 : w27.cell? ⟨gb630, 6, none⟩ = some (.slice A0_6 l0_6.length c0_6) := (blk_cell BK630.out 6).trans rfl; have hfz33_0 := blk_frozen BK630.out 0; have hfz33_1 := blk_frozen BK630.out 1; have hfz33_2 := blk_frozen BK630.out 2; have hfz33_3 := blk_frozen BK630.out 3; have hfz33_4 := blk_frozen BK630.out 4; have hfz33_5 := blk_frozen BK630.out 5; have hfz33_6 := blk_frozen BK630.out 6; have hcz34_0 : w27.cell? ⟨gb631, 0, none⟩ = some (.slice A2_0 l2_0.length c2_0) := (blk_cell BK631.out 0).trans rfl; have hcz34_1 : w27.cell? ⟨gb631, 1, none⟩ = some (.int .i64 a2_1) := (blk_cell BK631.out 1).trans rfl; have hcz34_2 : w27.cell? ⟨gb631, 2, none⟩ = some (.slice A2_2 l2_2.length c2_2) := (blk_cell BK631.out 2).trans rfl; have hfz34_0 := blk_frozen BK631.out 0; have hfz34_1 := blk_frozen BK631.out 1; have hfz34_2 := blk_frozen BK631.out 2) | ((with_reducible refine gate_callee (f := 35) rfl ?_); refine goesL_ (some 30) rfl rfl Try.func35 (by kernel_rfl) rfl #[.agg #[.string a0_0, .int .i64 a0_1, .int .i64 a0_2, .int .i64 a0_3, .int .i64 a0_4, .int .i64 a0_5, .slice A0_6 l0_6.length c0_6], .slice A1 l1.length c1, .agg #[.slice A2_0 l2_0.length c2_0, .int .i64 a2_1, .slice A2_2 l2_2.length c2_2]] rfl (by (try simp only [List.map_toArray, List.map_cons, List.map_nil]); first | done | rfl | (simp only [List.length_drop, List.length_take]; rfl)) ?_; (with_reducible refine (proof_Check.calls kj5 a0_0 a0_1 a0_2 a0_3 a0_4 a0_5 _ _ l0_6 _ _ l1 _ _ l2_0 a2_1 _ _ l2_2 t643 _ ?side1 ?side2 ?side3 ?side4 ?side5 ?side6 ?side7 ?side8 A21.out).mono ?_); (case side1 => exact Kd.C_below HR0_6.out (by repeat (first | (with_reducible first | exact HB.out | apply below_alloc | apply pw_below_drewN | apply below_drew1 | refine below_set ?_ GE630.out | refine below_set ?_ GE631.out | refine below_set ?_ GE642.out) | exact HB.out))); (case side2 => exact HC0_6.out); (case side3 => exact Kd.C_below HR1.out (by repeat (first | (with_reducible first | exact HB.out | apply below_alloc | apply pw_below_drewN | apply below_drew1 | refine below_set ?_ GE630.out | refine below_set ?_ GE631.out | refine below_set ?_ GE642.out) | exact HB.out))); (case side4 => exact HC1.out); (case side5 => exact Kd.C_below HR2_0.out (by repeat (first | (with_reducible first | exact HB.out | apply below_alloc | apply pw_below_drewN | apply below_drew1 | refine below_set ?_ GE630.out | refine below_set ?_ GE631.out | refine below_set ?_ GE642.out) | exact HB.out))); (case side6 => exact HC2_0.out); (case side7 => exact Kd.C_below HR2_2.out (by repeat (first | (with_reducible first | exact HB.out | apply below_alloc | apply pw_below_drewN | apply below_drew1 | refine below_set ?_ GE630.out | refine below_set ?_ GE631.out | refine below_set ?_ GE642.out) | exact HB.out))); (case side8 => exact HC2_2.out); rintro e w35 ⟨rfl, hb⟩; refine ⟨_, rfl, ?_⟩; have n0_ := Aside0.mk (Kd.R_below (by (with_reducible repeat (first | apply Kd.R_alloc | apply Kd.R_drewN | apply Kd.R_drew)); exact (Kd.R_mono (Kd.R_far (p := ⟨gb642, 2, none⟩) (Kd.R_far (p := ⟨gb642, 1, none⟩) (Kd.R_far (p := ⟨gb642, 0, none⟩) (Kd.R_types HO636.out BK642.out (by decide)) (fun _ hk => hk.2) (.slice Ao28 t634.length co28)) (fun _ hk => hk.2) (.int .i64 t637)) (fun _ hk => hk.2) (.slice Ao32 t638.length co32)) (fun _ h_ => h_.1))) hb); have n1_ := Aside0.mk (Kd.R_below (by (with_reducible repeat (first | apply Kd.R_alloc | apply Kd.R_drewN | apply Kd.R_drew)); exact (Kd.R_mono (Kd.R_far (p := ⟨gb642, 2, none⟩) (Kd.R_far (p := ⟨gb642, 1, none⟩) (Kd.R_far (p := ⟨gb642, 0, none⟩) (Kd.R_types HO640.out BK642.out (by decide)) (fun _ hk => hk.2) (.slice Ao28 t634.length co28)) (fun _ hk => hk.2) (.int .i64 t637)) (fun _ hk => hk.2) (.slice Ao32 t638.length co32)) (fun _ h_ => h_.1))) hb); have n2_ := Aside0.mk (blk_below (g := gb630) (o := .cells #[.string a0_0, .int .i64 a0_1, .int .i64 a0_2, .int .i64 a0_3, .int .i64 a0_4, .int .i64 a0_5, .slice A0_6 l0_6.length c0_6] 41 (0, 0)) (by (with_reducible repeat (first | refine blk_drewN ?_ _ | refine blk_drew ?_ | refine blk_alloc ?_ _)); refine blk_far ?_ NB630_642.out _; (with_reducible repeat (first | refine blk_drewN ?_ _ | refine blk_drew ?_ | refine blk_alloc ?_ _)); refine blk_far ?_ NB630_642.out _; (with_reducible repeat (first | refine blk_drewN ?_ _ | refine blk_drew ?_ | refine blk_alloc ?_ _)); refine blk_far ?_ NB630_642.out _; (with_reducible repeat (first | refine blk_drewN ?_ _ | refine blk_drew ?_ | refine blk_alloc ?_ _)); exact BK630.out) hb); have n3_ := Aside0.mk (blk_below (g := gb631) (o := .cells #[.slice A2_0 l2_0.length c2_0, .int .i64 a2_1, .slice A2_2 l2_2.length c2_2] 48 (0, 0)) (by (with_reducible repeat (first | refine blk_drewN ?_ _ | refine blk_drew ?_ | refine blk_alloc ?_ _)); refine blk_far ?_ NB631_642.out _; (with_reducible repeat (first | refine blk_drewN ?_ _ | refine blk_drew ?_ | refine blk_alloc ?_ _)); refine blk_far ?_ NB631_642.out _; (with_reducible repeat (first | refine blk_drewN ?_ _ | refine blk_drew ?_ | refine blk_alloc ?_ _)); refine blk_far ?_ NB631_642.out _; (with_reducible repeat (first | refine blk_drewN ?_ _ | refine blk_drew ?_ | refine blk_alloc ?_ _)); exact BK631.out) hb); have n4_ := Aside0.mk (blk_below (g := gb642) (o := .cells #[.slice Ao28 t634.length co28, .int .i64 t637, .slice Ao32 t638.length co32] 48 (0, 0)) (by (with_reducible repeat (first | refine blk_drewN ?_ _ | refine blk_drew ?_ | refine blk_alloc ?_ _)); refine blk_put (cs := #[.slice Ao28 t634.length co28, .int .i64 t637, .slice none 0 0]) ?_ 2 _ rfl; (with_reducible repeat (first | refine blk_drewN ?_ _ | refine blk_drew ?_ | refine blk_alloc ?_ _)); refine blk_put (cs := #[.slice Ao28 t634.length co28, .int .i64 0, .slice none 0 0]) ?_ 1 _ rfl; (with_reducible repeat (first | refine blk_drewN ?_ _ | refine blk_drew ?_ | refine blk_alloc ?_ _)); refine blk_put (cs := #[.slice none 0 0, .int .i64 0, .slice none 0 0]) ?_ 0 _ rfl; (with_reducible repeat (first | refine blk_drewN ?_ _ | refine blk_drew ?_ | refine blk_alloc ?_ _)); exact BK642.out) hb); have n5_ := Aside0.mk (below_step (by repeat (first | (with_reducible first | exact HB.out | apply below_alloc | apply pw_below_drewN | apply below_drew1 | refine below_set ?_ GE630.out | refine below_set ?_ GE631.out | refine below_set ?_ GE642.out) | exact HB.out)) hb); clear HO636; clear HO640; clear BK630; clear BK631; clear BK642; clear HB; have HO636 := n0_; have HO640 := n1_; have BK630 := n2_; have BK631 := n3_; have BK642 := n4_; have HB := n5_; clear n0_ n1_ n2_ n3_ n4_ n5_; (try clear hb); (try clear hb2); (try clear hk); (try clear hi); have hcz36_0 : w35.cell? ⟨gb631, 0, none⟩ = some (.slice A2_0 l2_0.length c2_0) := (blk_cell BK631.out 0).trans rfl; have hcz36_1 : w35.cell? ⟨gb631, 1, none⟩ = some (.int .i64 a2_1) := (blk_cell BK631.out 1).trans rfl; have hcz36_2 : w35.cell? ⟨gb631, 2, none⟩ = some (.slice A2_2 l2_2.length c2_2) := (blk_cell BK631.out 2).trans rfl; have hfz36_0 := blk_frozen BK631.out 0; have hfz36_1 := blk_frozen BK631.out 1; have hfz36_2 := blk_frozen BK631.out 2; have hcz37_0 : w35.cell? ⟨gb642, 0, none⟩ = some (.slice Ao28 t634.length co28) := (blk_cell BK642.out 0).trans rfl; have hcz37_1 : w35.cell? ⟨gb642, 1, none⟩ = some (.int .i64 t637) := (blk_cell BK642.out 1).trans rfl; have hcz37_2 : w35.cell? ⟨gb642, 2, none⟩ = some (.slice Ao32 t638.length co32) := (blk_cell BK642.out 2).trans rfl; have hfz37_0 := blk_frozen BK642.out 0; have hfz37_1 := blk_frozen BK642.out 1; have hfz37_2 := blk_frozen BK642.out 2))
              go_ret
              exact ⟨by first | rfl | (simp [errW_none, errW_some] <;> rfl) | (simp [*, errW_none, errW_some] <;> rfl), by repeat (first | (with_reducible first | exact HB.out | apply below_alloc | apply pw_below_drewN | apply below_drew1 | refine below_set ?_ GE630.out | refine below_set ?_ GE631.out | refine below_set ?_ GE642.out) | exact HB.out)⟩
            · rw [if_neg c23] at H
              have c23b0 : (t641 == 0) = false := beq_eq_false_iff_ne.mpr c23
              have c23b1 : (t641 != 0) = true := bne_iff_ne.mpr c23
              obtain rfl := Option.some.inj H
              have hnb38 := NB630_631.out
              have hnc38 := NB631_630.out
              have hcz39_0 : wc.cell? ⟨gb630, 0, none⟩ = some (.string a0_0) := (blk_cell BK630.out 0).trans rfl
              have hcz39_1 : wc.cell? ⟨gb630, 1, none⟩ = some (.int .i64 a0_1) := (blk_cell BK630.out 1).trans rfl
              have hcz39_2 : wc.cell? ⟨gb630, 2, none⟩ = some (.int .i64 a0_2) := (blk_cell BK630.out 2).trans rfl
              have hcz39_3 : wc.cell? ⟨gb630, 3, none⟩ = some (.int .i64 a0_3) := (blk_cell BK630.out 3).trans rfl
              have hcz39_4 : wc.cell? ⟨gb630, 4, none⟩ = some (.int .i64 a0_4) := (blk_cell BK630.out 4).trans rfl
              have hcz39_5 : wc.cell? ⟨gb630, 5, none⟩ = some (.int .i64 a0_5) := (blk_cell BK630.out 5).trans rfl
              have hcz39_6 : wc.cell? ⟨gb630, 6, none⟩ = some (.slice A0_6 l0_6.length c0_6) := (blk_cell BK630.out 6).trans rfl
              have hfz39_0 := blk_frozen BK630.out 0
              have hfz39_1 := blk_frozen BK630.out 1
              have hfz39_2 := blk_frozen BK630.out 2
              have hfz39_3 := blk_frozen BK630.out 3
              have hfz39_4 := blk_frozen BK630.out 4
              have hfz39_5 := blk_frozen BK630.out 5
              have hfz39_6 := blk_frozen BK630.out 6
              go_wp2_with (first | ((with_reducible refine gate_callee (f := 32) rfl ?_); refine goesL_ (some 24) rfl rfl Try.func32 (by kernel_rfl) rfl #[.agg #[.string a0_0, .int .i64 a0_1, .int .i64 a0_2, .int .i64 a0_3, .int .i64 a0_4, .int .i64 a0_5, .slice A0_6 l0_6.length c0_6], .slice A1 l1.length c1] rfl (by (try simp only [List.map_toArray, List.map_cons, List.map_nil]); first | done | rfl | (simp only [List.length_drop, List.length_take]; rfl)) ?_; (with_reducible refine (degree_Audit.calls kj5 a0_0 a0_1 a0_2 a0_3 a0_4 a0_5 _ _ l0_6 _ _ l1 t634 t637 t638 t641 _ ?side1 ?side2 ?side3 ?side4 A20.out).mono ?_); (case side1 => repeat (first | exact (Kd.C_below HR0_6.out HB.out) | (with_reducible refine Kd.C_alloc ?_ _) | (with_reducible refine Kd.C_drewN ?_ _) | (with_reducible refine Kd.C_drew ?_))); (case side2 => exact HC0_6.out); (case side3 => repeat (first | exact (Kd.C_below HR1.out HB.out) | (with_reducible refine Kd.C_alloc ?_ _) | (with_reducible refine Kd.C_drewN ?_ _) | (with_reducible refine Kd.C_drew ?_))); (case side4 => exact HC1.out); rintro e w40 ⟨v635, v639, rfl, ho0, ho1, hb⟩; refine ⟨_, rfl, ?_⟩; have n0_ := Aside0.mk (Kd.R_lower ho0 (below_size (by repeat (first | (with_reducible first | exact HB.out | apply below_alloc | apply pw_below_drewN | apply below_drew1 | refine below_set ?_ GE630.out | refine below_set ?_ GE631.out) | exact HB.out)))); have n1_ := Aside0.mk (Kd.R_lower ho1 (below_size (by repeat (first | (with_reducible first | exact HB.out | apply below_alloc | apply pw_below_drewN | apply below_drew1 | refine below_set ?_ GE630.out | refine below_set ?_ GE631.out) | exact HB.out)))); have n2_ := Aside0.mk (blk_below (g := gb630) (o := .cells #[.string a0_0, .int .i64 a0_1, .int .i64 a0_2, .int .i64 a0_3, .int .i64 a0_4, .int .i64 a0_5, .slice A0_6 l0_6.length c0_6] 41 (0, 0)) (by (with_reducible repeat (first | refine blk_drewN ?_ _ | refine blk_drew ?_ | refine blk_alloc ?_ _)); exact BK630.out) hb); have n3_ := Aside0.mk (blk_below (g := gb631) (o := .cells #[.slice A2_0 l2_0.length c2_0, .int .i64 a2_1, .slice A2_2 l2_2.length c2_2] 48 (0, 0)) (by (with_reducible repeat (first | refine blk_drewN ?_ _ | refine blk_drew ?_ | refine blk_alloc ?_ _)); exact BK631.out) hb); have n4_ := Aside0.mk (below_step (by repeat (first | (with_reducible first | exact HB.out | apply below_alloc | apply pw_below_drewN | apply below_drew1 | refine below_set ?_ GE630.out | refine below_set ?_ GE631.out) | exact HB.out)) hb); clear BK630; clear BK631; clear HB; have HO636 := n0_; have HO640 := n1_; have BK630 := n2_; have BK631 := n3_; have HB := n4_; clear n0_ n1_ n2_ n3_ n4_; (try clear hb); (try clear hb2); (try clear hk); (try clear hi); (try clear ho0); (try clear ho1)) | ((with_reducible refine gate_dst (N := 7) rfl ?_); (try (refine gate_guard (by rfl) ?_; dsimp only)); refine box_event ?hg (N := 7) ?hd (cs := #[.slice none 0 0, .int .i64 0, .slice none 0 0]) (t := 48) ?hr ?_; (case hd => rfl); (case hg => rfl); (case hr => first | (go_simp; done) | (go_simp; rfl)); intro gb642 hg w41 hbox hb; have n0_ := Aside0.mk (Kd.R_below (by (with_reducible repeat (first | apply Kd.R_alloc | apply Kd.R_drewN | apply Kd.R_drew)); exact HO636.out) hb); have n1_ := Aside0.mk (Kd.R_below (by (with_reducible repeat (first | apply Kd.R_alloc | apply Kd.R_drewN | apply Kd.R_drew)); exact HO640.out) hb); have n2_ := Aside0.mk (blk_below (g := gb630) (o := .cells #[.string a0_0, .int .i64 a0_1, .int .i64 a0_2, .int .i64 a0_3, .int .i64 a0_4, .int .i64 a0_5, .slice A0_6 l0_6.length c0_6] 41 (0, 0)) (by (with_reducible repeat (first | refine blk_drewN ?_ _ | refine blk_drew ?_ | refine blk_alloc ?_ _)); exact BK630.out) hb); have n3_ := Aside0.mk (blk_below (g := gb631) (o := .cells #[.slice A2_0 l2_0.length c2_0, .int .i64 a2_1, .slice A2_2 l2_2.length c2_2] 48 (0, 0)) (by (with_reducible repeat (first | refine blk_drewN ?_ _ | refine blk_drew ?_ | refine blk_alloc ?_ _)); exact BK631.out) hb); have n4_ := Aside0.mk (below_step (by repeat (first | (with_reducible first | exact HB.out | apply below_alloc | apply pw_below_drewN | apply below_drew1 | refine below_set ?_ GE630.out | refine below_set ?_ GE631.out) | exact HB.out)) hb); have n5_ := Aside0.mk (hbox); have n6_ := Aside0.mk ((by rw [hg]; exact (below_size (by repeat (first | (with_reducible first | exact HB.out | apply below_alloc | apply pw_below_drewN | apply below_drew1 | refine below_set ?_ GE630.out | refine below_set ?_ GE631.out) | exact HB.out))) : w.heap.size ≤ gb642)); have n7_ := Aside0.mk ((by rw [hg]; exact (below_size (by repeat (first | (with_reducible first | exact HB.out | apply below_alloc | apply pw_below_drewN | apply below_drew1 | refine below_set ?_ GE630.out | refine below_set ?_ GE631.out) | exact HB.out))) : w.heap.size ≤ gb642)); have n8_ := Aside0.mk ((by rw [hg]; exact Nat.ne_of_lt (blk_lt (g := gb630) (o := .cells #[.string a0_0, .int .i64 a0_1, .int .i64 a0_2, .int .i64 a0_3, .int .i64 a0_4, .int .i64 a0_5, .slice A0_6 l0_6.length c0_6] 41 (0, 0)) (by (with_reducible repeat (first | refine blk_drewN ?_ _ | refine blk_drew ?_ | refine blk_alloc ?_ _)); exact BK630.out)) : gb630 ≠ gb642)); have n9_ := Aside0.mk ((by rw [hg]; exact Nat.ne_of_gt (blk_lt (g := gb630) (o := .cells #[.string a0_0, .int .i64 a0_1, .int .i64 a0_2, .int .i64 a0_3, .int .i64 a0_4, .int .i64 a0_5, .slice A0_6 l0_6.length c0_6] 41 (0, 0)) (by (with_reducible repeat (first | refine blk_drewN ?_ _ | refine blk_drew ?_ | refine blk_alloc ?_ _)); exact BK630.out)) : gb642 ≠ gb630)); have n10_ := Aside0.mk ((by rw [hg]; exact Nat.ne_of_lt (blk_lt (g := gb631) (o := .cells #[.slice A2_0 l2_0.length c2_0, .int .i64 a2_1, .slice A2_2 l2_2.length c2_2] 48 (0, 0)) (by (with_reducible repeat (first | refine blk_drewN ?_ _ | refine blk_drew ?_ | refine blk_alloc ?_ _)); exact BK631.out)) : gb631 ≠ gb642)); have n11_ := Aside0.mk ((by rw [hg]; exact Nat.ne_of_gt (blk_lt (g := gb631) (o := .cells #[.slice A2_0 l2_0.length c2_0, .int .i64 a2_1, .slice A2_2 l2_2.length c2_2] 48 (0, 0)) (by (with_reducible repeat (first | refine blk_drewN ?_ _ | refine blk_drew ?_ | refine blk_alloc ?_ _)); exact BK631.out)) : gb642 ≠ gb631)); clear HO636; clear HO640; clear BK630; clear BK631; clear HB; have HO636 := n0_; have HO640 := n1_; have BK630 := n2_; have BK631 := n3_; have HB := n4_; have BK642 := n5_; have GW642 := n6_; have GE642 := n7_; have NB630_642 := n8_; have NB642_630 := n9_; have NB631_642 := n10_; have NB642_631 := n11_; clear n0_ n1_ n2_ n3_ n4_ n5_ n6_ n7_ n8_ n9_ n10_ n11_; clear hb hbox hg; obtain ⟨Ao42, co42, eo42⟩ := Kd.R_slice HO636.out; subst eo42; have hnb43 := NB642_630.out; have hnc43 := NB630_642.out; have hnb44 := NB642_631.out; have hnc44 := NB631_642.out; have hcz45_0 : w41.cell? ⟨gb642, 0, none⟩ = some (.slice none 0 0) := (blk_cell BK642.out 0).trans rfl; have hcz45_1 : w41.cell? ⟨gb642, 1, none⟩ = some (.int .i64 0) := (blk_cell BK642.out 1).trans rfl; have hcz45_2 : w41.cell? ⟨gb642, 2, none⟩ = some (.slice none 0 0) := (blk_cell BK642.out 2).trans rfl; have hfz45_0 := blk_frozen BK642.out 0; have hfz45_1 := blk_frozen BK642.out 1; have hfz45_2 := blk_frozen BK642.out 2; obtain ⟨Ao46, co46, eo46⟩ := Kd.R_slice HO640.out; subst eo46; have hcz47_0 : w41.cell? ⟨gb630, 0, none⟩ = some (.string a0_0) := (blk_cell BK630.out 0).trans rfl; have hcz47_1 : w41.cell? ⟨gb630, 1, none⟩ = some (.int .i64 a0_1) := (blk_cell BK630.out 1).trans rfl; have hcz47_2 : w41.cell? ⟨gb630, 2, none⟩ = some (.int .i64 a0_2) := (blk_cell BK630.out 2).trans rfl; have hcz47_3 : w41.cell? ⟨gb630, 3, none⟩ = some (.int .i64 a0_3) := (blk_cell BK630.out 3).trans rfl; have hcz47_4 : w41.cell? ⟨gb630, 4, none⟩ = some (.int .i64 a0_4) := (blk_cell BK630.out 4).trans rfl; have hcz47_5 : w41.cell? ⟨gb630, 5, none⟩ = some (.int .i64 a0_5) := (blk_cell BK630.out 5).trans rfl; have hcz47_6 : w41.cell? ⟨gb630, 6, none⟩ = some (.slice A0_6 l0_6.length c0_6) := (blk_cell BK630.out 6).trans rfl; have hfz47_0 := blk_frozen BK630.out 0; have hfz47_1 := blk_frozen BK630.out 1; have hfz47_2 := blk_frozen BK630.out 2; have hfz47_3 := blk_frozen BK630.out 3; have hfz47_4 := blk_frozen BK630.out 4; have hfz47_5 := blk_frozen BK630.out 5; have hfz47_6 := blk_frozen BK630.out 6; have hcz48_0 : w41.cell? ⟨gb631, 0, none⟩ = some (.slice A2_0 l2_0.length c2_0) := (blk_cell BK631.out 0).trans rfl; have hcz48_1 : w41.cell? ⟨gb631, 1, none⟩ = some (.int .i64 a2_1) := (blk_cell BK631.out 1).trans rfl; have hcz48_2 : w41.cell? ⟨gb631, 2, none⟩ = some (.slice A2_2 l2_2.length c2_2) := (blk_cell BK631.out 2).trans rfl; have hfz48_0 := blk_frozen BK631.out 0; have hfz48_1 := blk_frozen BK631.out 1; have hfz48_2 := blk_frozen BK631.out 2) | ((with_reducible refine gate_callee (f := 35) rfl ?_); refine goesL_ (some 30) rfl rfl Try.func35 (by kernel_rfl) rfl #[.agg #[.string a0_0, .int .i64 a0_1, .int .i64 a0_2, .int .i64 a0_3, .int .i64 a0_4, .int .i64 a0_5, .slice A0_6 l0_6.length c0_6], .slice A1 l1.length c1, .agg #[.slice A2_0 l2_0.length c2_0, .int .i64 a2_1, .slice A2_2 l2_2.length c2_2]] rfl (by (try simp only [List.map_toArray, List.map_cons, List.map_nil]); first | done | rfl | (simp only [List.length_drop, List.length_take]; rfl)) ?_; (with_reducible refine (proof_Check.calls kj5 a0_0 a0_1 a0_2 a0_3 a0_4 a0_5 _ _ l0_6 _ _ l1 _ _ l2_0 a2_1 _ _ l2_2 t643 _ ?side1 ?side2 ?side3 ?side4 ?side5 ?side6 ?side7 ?side8 A21.out).mono ?_); (case side1 => exact Kd.C_below HR0_6.out (by repeat (first | (with_reducible first | exact HB.out | apply below_alloc | apply pw_below_drewN | apply below_drew1 | refine below_set ?_ GE630.out | refine below_set ?_ GE631.out | refine below_set ?_ GE642.out) | exact HB.out))); (case side2 => exact HC0_6.out); (case side3 => exact Kd.C_below HR1.out (by repeat (first | (with_reducible first | exact HB.out | apply below_alloc | apply pw_below_drewN | apply below_drew1 | refine below_set ?_ GE630.out | refine below_set ?_ GE631.out | refine below_set ?_ GE642.out) | exact HB.out))); (case side4 => exact HC1.out); (case side5 => exact Kd.C_below HR2_0.out (by repeat (first | (with_reducible first | exact HB.out | apply below_alloc | apply pw_below_drewN | apply below_drew1 | refine below_set ?_ GE630.out | refine below_set ?_ GE631.out | refine below_set ?_ GE642.out) | exact HB.out))); (case side6 => exact HC2_0.out); (case side7 => exact Kd.C_below HR2_2.out (by repeat (first | (with_reducible first | exact HB.out | apply below_alloc | apply pw_below_drewN | apply below_drew1 | refine below_set ?_ GE630.out | refine below_set ?_ GE631.out | refine below_set ?_ GE642.out) | exact HB.out))); (case side8 => exact HC2_2.out); rintro e w49 ⟨rfl, hb⟩; refine ⟨_, rfl, ?_⟩; have n0_ := Aside0.mk (Kd.R_below (by (with_reducible repeat (first | apply Kd.R_alloc | apply Kd.R_drewN | apply Kd.R_drew)); exact (Kd.R_mono (Kd.R_far (p := ⟨gb642, 2, none⟩) (Kd.R_far (p := ⟨gb642, 1, none⟩) (Kd.R_far (p := ⟨gb642, 0, none⟩) (Kd.R_types HO636.out BK642.out (by decide)) (fun _ hk => hk.2) (.slice Ao42 t634.length co42)) (fun _ hk => hk.2) (.int .i64 t637)) (fun _ hk => hk.2) (.slice Ao46 t638.length co46)) (fun _ h_ => h_.1))) hb); have n1_ := Aside0.mk (Kd.R_below (by (with_reducible repeat (first | apply Kd.R_alloc | apply Kd.R_drewN | apply Kd.R_drew)); exact (Kd.R_mono (Kd.R_far (p := ⟨gb642, 2, none⟩) (Kd.R_far (p := ⟨gb642, 1, none⟩) (Kd.R_far (p := ⟨gb642, 0, none⟩) (Kd.R_types HO640.out BK642.out (by decide)) (fun _ hk => hk.2) (.slice Ao42 t634.length co42)) (fun _ hk => hk.2) (.int .i64 t637)) (fun _ hk => hk.2) (.slice Ao46 t638.length co46)) (fun _ h_ => h_.1))) hb); have n2_ := Aside0.mk (blk_below (g := gb630) (o := .cells #[.string a0_0, .int .i64 a0_1, .int .i64 a0_2, .int .i64 a0_3, .int .i64 a0_4, .int .i64 a0_5, .slice A0_6 l0_6.length c0_6] 41 (0, 0)) (by (with_reducible repeat (first | refine blk_drewN ?_ _ | refine blk_drew ?_ | refine blk_alloc ?_ _)); refine blk_far ?_ NB630_642.out _; (with_reducible repeat (first | refine blk_drewN ?_ _ | refine blk_drew ?_ | refine blk_alloc ?_ _)); refine blk_far ?_ NB630_642.out _; (with_reducible repeat (first | refine blk_drewN ?_ _ | refine blk_drew ?_ | refine blk_alloc ?_ _)); refine blk_far ?_ NB630_642.out _; (with_reducible repeat (first | refine blk_drewN ?_ _ | refine blk_drew ?_ | refine blk_alloc ?_ _)); exact BK630.out) hb); have n3_ := Aside0.mk (blk_below (g := gb631) (o := .cells #[.slice A2_0 l2_0.length c2_0, .int .i64 a2_1, .slice A2_2 l2_2.length c2_2] 48 (0, 0)) (by (with_reducible repeat (first | refine blk_drewN ?_ _ | refine blk_drew ?_ | refine blk_alloc ?_ _)); refine blk_far ?_ NB631_642.out _; (with_reducible repeat (first | refine blk_drewN ?_ _ | refine blk_drew ?_ | refine blk_alloc ?_ _)); refine blk_far ?_ NB631_642.out _; (with_reducible repeat (first | refine blk_drewN ?_ _ | refine blk_drew ?_ | refine blk_alloc ?_ _)); refine blk_far ?_ NB631_642.out _; (with_reducible repeat (first | refine blk_drewN ?_ _ | refine blk_drew ?_ | refine blk_alloc ?_ _)); exact BK631.out) hb); have n4_ := Aside0.mk (blk_below (g := gb642) (o := .cells #[.slice Ao42 t634.length co42, .int .i64 t637, .slice Ao46 t638.length co46] 48 (0, 0)) (by (with_reducible repeat (first | refine blk_drewN ?_ _ | refine blk_drew ?_ | refine blk_alloc ?_ _)); refine blk_put (cs := #[.slice Ao42 t634.length co42, .int .i64 t637, .slice none 0 0]) ?_ 2 _ rfl; (with_reducible repeat (first | refine blk_drewN ?_ _ | refine blk_drew ?_ | refine blk_alloc ?_ _)); refine blk_put (cs := #[.slice Ao42 t634.length co42, .int .i64 0, .slice none 0 0]) ?_ 1 _ rfl; (with_reducible repeat (first | refine blk_drewN ?_ _ | refine blk_drew ?_ | refine blk_alloc ?_ _)); refine blk_put (cs := #[.slice none 0 0, .int .i64 0, .slice none 0 0]) ?_ 0 _ rfl; (with_reducible repeat (first | refine blk_drewN ?_ _ | refine blk_drew ?_ | refine blk_alloc ?_ _)); exact BK642.out) hb); have n5_ := Aside0.mk (below_step (by repeat (first | (with_reducible first | exact HB.out | apply below_alloc | apply pw_below_drewN | apply below_drew1 | refine below_set ?_ GE630.out | refine below_set ?_ GE631.out | refine below_set ?_ GE642.out) | exact HB.out)) hb); clear HO636; clear HO640; clear BK630; clear BK631; clear BK642; clear HB; have HO636 := n0_; have HO640 := n1_; have BK630 := n2_; have BK631 := n3_; have BK642 := n4_; have HB := n5_; clear n0_ n1_ n2_ n3_ n4_ n5_; (try clear hb); (try clear hb2); (try clear hk); (try clear hi)))
              go_ret
              exact ⟨by first | rfl | (simp [errW_none, errW_some] <;> rfl) | (simp [*, errW_none, errW_some] <;> rfl), by repeat (first | (with_reducible first | exact HB.out | apply below_alloc | apply pw_below_drewN | apply below_drew1 | refine below_set ?_ GE630.out | refine below_set ?_ GE631.out | refine below_set ?_ GE642.out) | exact HB.out)⟩
          · rw [if_neg c22] at H
            have c22b0 : (t643 == 0) = false := beq_eq_false_iff_ne.mpr c22
            have c22b1 : (t643 != 0) = true := bne_iff_ne.mpr c22
            obtain rfl := Option.some.inj H
            have hnb50 := NB630_631.out
            have hnc50 := NB631_630.out
            have hcz51_0 : wc.cell? ⟨gb630, 0, none⟩ = some (.string a0_0) := (blk_cell BK630.out 0).trans rfl
            have hcz51_1 : wc.cell? ⟨gb630, 1, none⟩ = some (.int .i64 a0_1) := (blk_cell BK630.out 1).trans rfl
            have hcz51_2 : wc.cell? ⟨gb630, 2, none⟩ = some (.int .i64 a0_2) := (blk_cell BK630.out 2).trans rfl
            have hcz51_3 : wc.cell? ⟨gb630, 3, none⟩ = some (.int .i64 a0_3) := (blk_cell BK630.out 3).trans rfl
            have hcz51_4 : wc.cell? ⟨gb630, 4, none⟩ = some (.int .i64 a0_4) := (blk_cell BK630.out 4).trans rfl
            have hcz51_5 : wc.cell? ⟨gb630, 5, none⟩ = some (.int .i64 a0_5) := (blk_cell BK630.out 5).trans rfl
            have hcz51_6 : wc.cell? ⟨gb630, 6, none⟩ = some (.slice A0_6 l0_6.length c0_6) := (blk_cell BK630.out 6).trans rfl
            have hfz51_0 := blk_frozen BK630.out 0
            have hfz51_1 := blk_frozen BK630.out 1
            have hfz51_2 := blk_frozen BK630.out 2
            have hfz51_3 := blk_frozen BK630.out 3
            have hfz51_4 := blk_frozen BK630.out 4
            have hfz51_5 := blk_frozen BK630.out 5
            have hfz51_6 := blk_frozen BK630.out 6
            go_wp2_with (first | ((with_reducible refine gate_callee (f := 32) rfl ?_); refine goesL_ (some 24) rfl rfl Try.func32 (by kernel_rfl) rfl #[.agg #[.string a0_0, .int .i64 a0_1, .int .i64 a0_2, .int .i64 a0_3, .int .i64 a0_4, .int .i64 a0_5, .slice A0_6 l0_6.length c0_6], .slice A1 l1.length c1] rfl (by (try simp only [List.map_toArray, List.map_cons, List.map_nil]); first | done | rfl | (simp only [List.length_drop, List.length_take]; rfl)) ?_; (with_reducible refine (degree_Audit.calls kj5 a0_0 a0_1 a0_2 a0_3 a0_4 a0_5 _ _ l0_6 _ _ l1 t634 t637 t638 t641 _ ?side1 ?side2 ?side3 ?side4 A20.out).mono ?_); (case side1 => repeat (first | exact (Kd.C_below HR0_6.out HB.out) | (with_reducible refine Kd.C_alloc ?_ _) | (with_reducible refine Kd.C_drewN ?_ _) | (with_reducible refine Kd.C_drew ?_))); (case side2 => exact HC0_6.out); (case side3 => repeat (first | exact (Kd.C_below HR1.out HB.out) | (with_reducible refine Kd.C_alloc ?_ _) | (with_reducible refine Kd.C_drewN ?_ _) | (with_reducible refine Kd.C_drew ?_))); (case side4 => exact HC1.out); rintro e w52 ⟨v635, v639, rfl, ho0, ho1, hb⟩; refine ⟨_, rfl, ?_⟩; have n0_ := Aside0.mk (Kd.R_lower ho0 (below_size (by repeat (first | (with_reducible first | exact HB.out | apply below_alloc | apply pw_below_drewN | apply below_drew1 | refine below_set ?_ GE630.out | refine below_set ?_ GE631.out) | exact HB.out)))); have n1_ := Aside0.mk (Kd.R_lower ho1 (below_size (by repeat (first | (with_reducible first | exact HB.out | apply below_alloc | apply pw_below_drewN | apply below_drew1 | refine below_set ?_ GE630.out | refine below_set ?_ GE631.out) | exact HB.out)))); have n2_ := Aside0.mk (blk_below (g := gb630) (o := .cells #[.string a0_0, .int .i64 a0_1, .int .i64 a0_2, .int .i64 a0_3, .int .i64 a0_4, .int .i64 a0_5, .slice A0_6 l0_6.length c0_6] 41 (0, 0)) (by (with_reducible repeat (first | refine blk_drewN ?_ _ | refine blk_drew ?_ | refine blk_alloc ?_ _)); exact BK630.out) hb); have n3_ := Aside0.mk (blk_below (g := gb631) (o := .cells #[.slice A2_0 l2_0.length c2_0, .int .i64 a2_1, .slice A2_2 l2_2.length c2_2] 48 (0, 0)) (by (with_reducible repeat (first | refine blk_drewN ?_ _ | refine blk_drew ?_ | refine blk_alloc ?_ _)); exact BK631.out) hb); have n4_ := Aside0.mk (below_step (by repeat (first | (with_reducible first | exact HB.out | apply below_alloc | apply pw_below_drewN | apply below_drew1 | refine below_set ?_ GE630.out | refine below_set ?_ GE631.out) | exact HB.out)) hb); clear BK630; clear BK631; clear HB; have HO636 := n0_; have HO640 := n1_; have BK630 := n2_; have BK631 := n3_; have HB := n4_; clear n0_ n1_ n2_ n3_ n4_; (try clear hb); (try clear hb2); (try clear hk); (try clear hi); (try clear ho0); (try clear ho1)) | ((with_reducible refine gate_dst (N := 7) rfl ?_); (try (refine gate_guard (by rfl) ?_; dsimp only)); refine box_event ?hg (N := 7) ?hd (cs := #[.slice none 0 0, .int .i64 0, .slice none 0 0]) (t := 48) ?hr ?_; (case hd => rfl); (case hg => rfl); (case hr => first | (go_simp; done) | (go_simp; rfl)); intro gb642 hg w53 hbox hb; have n0_ := Aside0.mk (Kd.R_below (by (with_reducible repeat (first | apply Kd.R_alloc | apply Kd.R_drewN | apply Kd.R_drew)); exact HO636.out) hb); have n1_ := Aside0.mk (Kd.R_below (by (with_reducible repeat (first | apply Kd.R_alloc | apply Kd.R_drewN | apply Kd.R_drew)); exact HO640.out) hb); have n2_ := Aside0.mk (blk_below (g := gb630) (o := .cells #[.string a0_0, .int .i64 a0_1, .int .i64 a0_2, .int .i64 a0_3, .int .i64 a0_4, .int .i64 a0_5, .slice A0_6 l0_6.length c0_6] 41 (0, 0)) (by (with_reducible repeat (first | refine blk_drewN ?_ _ | refine blk_drew ?_ | refine blk_alloc ?_ _)); exact BK630.out) hb); have n3_ := Aside0.mk (blk_below (g := gb631) (o := .cells #[.slice A2_0 l2_0.length c2_0, .int .i64 a2_1, .slice A2_2 l2_2.length c2_2] 48 (0, 0)) (by (with_reducible repeat (first | refine blk_drewN ?_ _ | refine blk_drew ?_ | refine blk_alloc ?_ _)); exact BK631.out) hb); have n4_ := Aside0.mk (below_step (by repeat (first | (with_reducible first | exact HB.out | apply below_alloc | apply pw_below_drewN | apply below_drew1 | refine below_set ?_ GE630.out | refine below_set ?_ GE631.out) | exact HB.out)) hb); have n5_ := Aside0.mk (hbox); have n6_ := Aside0.mk ((by rw [hg]; exact (below_size (by repeat (first | (with_reducible first | exact HB.out | apply below_alloc | apply pw_below_drewN | apply below_drew1 | refine below_set ?_ GE630.out | refine below_set ?_ GE631.out) | exact HB.out))) : w.heap.size ≤ gb642)); have n7_ := Aside0.mk ((by rw [hg]; exact (below_size (by repeat (first | (with_reducible first | exact HB.out | apply below_alloc | apply pw_below_drewN | apply below_drew1 | refine below_set ?_ GE630.out | refine below_set ?_ GE631.out) | exact HB.out))) : w.heap.size ≤ gb642)); have n8_ := Aside0.mk ((by rw [hg]; exact Nat.ne_of_lt (blk_lt (g := gb630) (o := .cells #[.string a0_0, .int .i64 a0_1, .int .i64 a0_2, .int .i64 a0_3, .int .i64 a0_4, .int .i64 a0_5, .slice A0_6 l0_6.length c0_6] 41 (0, 0)) (by (with_reducible repeat (first | refine blk_drewN ?_ _ | refine blk_drew ?_ | refine blk_alloc ?_ _)); exact BK630.out)) : gb630 ≠ gb642)); have n9_ := Aside0.mk ((by rw [hg]; exact Nat.ne_of_gt (blk_lt (g := gb630) (o := .cells #[.string a0_0, .int .i64 a0_1, .int .i64 a0_2, .int .i64 a0_3, .int .i64 a0_4, .int .i64 a0_5, .slice A0_6 l0_6.length c0_6] 41 (0, 0)) (by (with_reducible repeat (first | refine blk_drewN ?_ _ | refine blk_drew ?_ | refine blk_alloc ?_ _)); exact BK630.out)) : gb642 ≠ gb630)); have n10_ := Aside0.mk ((by rw [hg]; exact Nat.ne_of_lt (blk_lt (g := gb631) (o := .cells #[.slice A2_0 l2_0.length c2_0, .int .i64 a2_1, .slice A2_2 l2_2.length c2_2] 48 (0, 0)) (by (with_reducible repeat (first | refine blk_drewN ?_ _ | refine blk_drew ?_ | refine blk_alloc ?_ _)); exact BK631.out)) : gb631 ≠ gb642)); have n11_ := Aside0.mk ((by rw [hg]; exact Nat.ne_of_gt (blk_lt (g := gb631) (o := .cells #[.slice A2_0 l2_0.length c2_0, .int .i64 a2_1, .slice A2_2 l2_2.length c2_2] 48 (0, 0)) (by (with_reducible repeat (first | refine blk_drewN ?_ _ | refine blk_drew ?_ | refine blk_alloc ?_ _)); exact BK631.out)) : gb642 ≠ gb631)); clear HO636; clear HO640; clear BK630; clear BK631; clear HB; have HO636 := n0_; have HO640 := n1_; have BK630 := n2_; have BK631 := n3_; have HB := n4_; have BK642 := n5_; have GW642 := n6_; have GE642 := n7_; have NB630_642 := n8_; have NB642_630 := n9_; have NB631_642 := n10_; have NB642_631 := n11_; clear n0_ n1_ n2_ n3_ n4_ n5_ n6_ n7_ n8_ n9_ n10_ n11_; clear hb hbox hg; obtain ⟨Ao54, co54, eo54⟩ := Kd.R_slice HO636.out; subst eo54; have hnb55 := NB642_630.out; have hnc55 := NB630_642.out; have hnb56 := NB642_631.out; have hnc56 := NB631_642.out; have hcz57_0 : w53.cell? ⟨gb642, 0, none⟩ = some (.slice none 0 0) := (blk_cell BK642.out 0).trans rfl; have hcz57_1 : w53.cell? ⟨gb642, 1, none⟩ = some (.int .i64 0) := (blk_cell BK642.out 1).trans rfl; have hcz57_2 : w53.cell? ⟨gb642, 2, none⟩ = some (.slice none 0 0) := (blk_cell BK642.out 2).trans rfl; have hfz57_0 := blk_frozen BK642.out 0; have hfz57_1 := blk_frozen BK642.out 1; have hfz57_2 := blk_frozen BK642.out 2; obtain ⟨Ao58, co58, eo58⟩ := Kd.R_slice HO640.out; subst eo58; have hcz59_0 : w53.cell? ⟨gb630, 0, none⟩ = some (.string a0_0) := (blk_cell BK630.out 0).trans rfl; have hcz59_1 : w53.cell? ⟨gb630, 1, none⟩ = some (.int .i64 a0_1) := (blk_cell BK630.out 1).trans rfl; have hcz59_2 : w53.cell? ⟨gb630, 2, none⟩ = some (.int .i64 a0_2) := (blk_cell BK630.out 2).trans rfl; have hcz59_3 : w53.cell? ⟨gb630, 3, none⟩ = some (.int .i64 a0_3) := (blk_cell BK630.out 3).trans rfl; have hcz59_4 : w53.cell? ⟨gb630, 4, none⟩ = some (.int .i64 a0_4) := (blk_cell BK630.out 4).trans rfl; have hcz59_5 : w53.cell? ⟨gb630, 5, none⟩ = some (.int .i64 a0_5) := (blk_cell BK630.out 5).trans rfl; have hcz59_6 : w53.cell? ⟨gb630, 6, none⟩ = some (.slice A0_6 l0_6.length c0_6) := (blk_cell BK630.out 6).trans rfl; have hfz59_0 := blk_frozen BK630.out 0; have hfz59_1 := blk_frozen BK630.out 1; have hfz59_2 := blk_frozen BK630.out 2; have hfz59_3 := blk_frozen BK630.out 3; have hfz59_4 := blk_frozen BK630.out 4; have hfz59_5 := blk_frozen BK630.out 5; have hfz59_6 := blk_frozen BK630.out 6; have hcz60_0 : w53.cell? ⟨gb631, 0, none⟩ = some (.slice A2_0 l2_0.length c2_0) := (blk_cell BK631.out 0).trans rfl; have hcz60_1 : w53.cell? ⟨gb631, 1, none⟩ = some (.int .i64 a2_1) := (blk_cell BK631.out 1).trans rfl; have hcz60_2 : w53.cell? ⟨gb631, 2, none⟩ = some (.slice A2_2 l2_2.length c2_2) := (blk_cell BK631.out 2).trans rfl; have hfz60_0 := blk_frozen BK631.out 0; have hfz60_1 := blk_frozen BK631.out 1; have hfz60_2 := blk_frozen BK631.out 2) | ((with_reducible refine gate_callee (f := 35) rfl ?_); refine goesL_ (some 30) rfl rfl Try.func35 (by kernel_rfl) rfl #[.agg #[.string a0_0, .int .i64 a0_1, .int .i64 a0_2, .int .i64 a0_3, .int .i64 a0_4, .int .i64 a0_5, .slice A0_6 l0_6.length c0_6], .slice A1 l1.length c1, .agg #[.slice A2_0 l2_0.length c2_0, .int .i64 a2_1, .slice A2_2 l2_2.length c2_2]] rfl (by (try simp only [List.map_toArray, List.map_cons, List.map_nil]); first | done | rfl | (simp only [List.length_drop, List.length_take]; rfl)) ?_; (with_reducible refine (proof_Check.calls kj5 a0_0 a0_1 a0_2 a0_3 a0_4 a0_5 _ _ l0_6 _ _ l1 _ _ l2_0 a2_1 _ _ l2_2 t643 _ ?side1 ?side2 ?side3 ?side4 ?side5 ?side6 ?side7 ?side8 A21.out).mono ?_); (case side1 => exact Kd.C_below HR0_6.out (by repeat (first | (with_reducible first | exact HB.out | apply below_alloc | apply pw_below_drewN | apply below_drew1 | refine below_set ?_ GE630.out | refine below_set ?_ GE631.out | refine below_set ?_ GE642.out) | exact HB.out))); (case side2 => exact HC0_6.out); (case side3 => exact Kd.C_below HR1.out (by repeat (first | (with_reducible first | exact HB.out | apply below_alloc | apply pw_below_drewN | apply below_drew1 | refine below_set ?_ GE630.out | refine below_set ?_ GE631.out | refine below_set ?_ GE642.out) | exact HB.out))); (case side4 => exact HC1.out); (case side5 => exact Kd.C_below HR2_0.out (by repeat (first | (with_reducible first | exact HB.out | apply below_alloc | apply pw_below_drewN | apply below_drew1 | refine below_set ?_ GE630.out | refine below_set ?_ GE631.out | refine below_set ?_ GE642.out) | exact HB.out))); (case side6 => exact HC2_0.out); (case side7 => exact Kd.C_below HR2_2.out (by repeat (first | (with_reducible first | exact HB.out | apply below_alloc | apply pw_below_drewN | apply below_drew1 | refine below_set ?_ GE630.out | refine below_set ?_ GE631.out | refine below_set ?_ GE642.out) | exact HB.out))); (case side8 => exact HC2_2.out); rintro e w61 ⟨rfl, hb⟩; refine ⟨_, rfl, ?_⟩; have n0_ := Aside0.mk (Kd.R_below (by (with_reducible repeat (first | apply Kd.R_alloc | apply Kd.R_drewN | apply Kd.R_drew)); exact (Kd.R_mono (Kd.R_far (p := ⟨gb642, 2, none⟩) (Kd.R_far (p := ⟨gb642, 1, none⟩) (Kd.R_far (p := ⟨gb642, 0, none⟩) (Kd.R_types HO636.out BK642.out (by decide)) (fun _ hk => hk.2) (.slice Ao54 t634.length co54)) (fun _ hk => hk.2) (.int .i64 t637)) (fun _ hk => hk.2) (.slice Ao58 t638.length co58)) (fun _ h_ => h_.1))) hb); have n1_ := Aside0.mk (Kd.R_below (by (with_reducible repeat (first | apply Kd.R_alloc | apply Kd.R_drewN | apply Kd.R_drew)); exact (Kd.R_mono (Kd.R_far (p := ⟨gb642, 2, none⟩) (Kd.R_far (p := ⟨gb642, 1, none⟩) (Kd.R_far (p := ⟨gb642, 0, none⟩) (Kd.R_types HO640.out BK642.out (by decide)) (fun _ hk => hk.2) (.slice Ao54 t634.length co54)) (fun _ hk => hk.2) (.int .i64 t637)) (fun _ hk => hk.2) (.slice Ao58 t638.length co58)) (fun _ h_ => h_.1))) hb); have n2_ := Aside0.mk (blk_below (g := gb630) (o := .cells #[.string a0_0, .int .i64 a0_1, .int .i64 a0_2, .int .i64 a0_3, .int .i64 a0_4, .int .i64 a0_5, .slice A0_6 l0_6.length c0_6] 41 (0, 0)) (by (with_reducible repeat (first | refine blk_drewN ?_ _ | refine blk_drew ?_ | refine blk_alloc ?_ _)); refine blk_far ?_ NB630_642.out _; (with_reducible repeat (first | refine blk_drewN ?_ _ | refine blk_drew ?_ | refine blk_alloc ?_ _)); refine blk_far ?_ NB630_642.out _; (with_reducible repeat (first | refine blk_drewN ?_ _ | refine blk_drew ?_ | refine blk_alloc ?_ _)); refine blk_far ?_ NB630_642.out _; (with_reducible repeat (first | refine blk_drewN ?_ _ | refine blk_drew ?_ | refine blk_alloc ?_ _)); exact BK630.out) hb); have n3_ := Aside0.mk (blk_below (g := gb631) (o := .cells #[.slice A2_0 l2_0.length c2_0, .int .i64 a2_1, .slice A2_2 l2_2.length c2_2] 48 (0, 0)) (by (with_reducible repeat (first | refine blk_drewN ?_ _ | refine blk_drew ?_ | refine blk_alloc ?_ _)); refine blk_far ?_ NB631_642.out _; (with_reducible repeat (first | refine blk_drewN ?_ _ | refine blk_drew ?_ | refine blk_alloc ?_ _)); refine blk_far ?_ NB631_642.out _; (with_reducible repeat (first | refine blk_drewN ?_ _ | refine blk_drew ?_ | refine blk_alloc ?_ _)); refine blk_far ?_ NB631_642.out _; (with_reducible repeat (first | refine blk_drewN ?_ _ | refine blk_drew ?_ | refine blk_alloc ?_ _)); exact BK631.out) hb); have n4_ := Aside0.mk (blk_below (g := gb642) (o := .cells #[.slice Ao54 t634.length co54, .int .i64 t637, .slice Ao58 t638.length co58] 48 (0, 0)) (by (with_reducible repeat (first | refine blk_drewN ?_ _ | refine blk_drew ?_ | refine blk_alloc ?_ _)); refine blk_put (cs := #[.slice Ao54 t634.length co54, .int .i64 t637, .slice none 0 0]) ?_ 2 _ rfl; (with_reducible repeat (first | refine blk_drewN ?_ _ | refine blk_drew ?_ | refine blk_alloc ?_ _)); refine blk_put (cs := #[.slice Ao54 t634.length co54, .int .i64 0, .slice none 0 0]) ?_ 1 _ rfl; (with_reducible repeat (first | refine blk_drewN ?_ _ | refine blk_drew ?_ | refine blk_alloc ?_ _)); refine blk_put (cs := #[.slice none 0 0, .int .i64 0, .slice none 0 0]) ?_ 0 _ rfl; (with_reducible repeat (first | refine blk_drewN ?_ _ | refine blk_drew ?_ | refine blk_alloc ?_ _)); exact BK642.out) hb); have n5_ := Aside0.mk (below_step (by repeat (first | (with_reducible first | exact HB.out | apply below_alloc | apply pw_below_drewN | apply below_drew1 | refine below_set ?_ GE630.out | refine below_set ?_ GE631.out | refine below_set ?_ GE642.out) | exact HB.out)) hb); clear HO636; clear HO640; clear BK630; clear BK631; clear BK642; clear HB; have HO636 := n0_; have HO640 := n1_; have BK630 := n2_; have BK631 := n3_; have BK642 := n4_; have HB := n5_; clear n0_ n1_ n2_ n3_ n4_ n5_; (try clear hb); (try clear hb2); (try clear hk); (try clear hi)))
            go_ret
            exact ⟨by first | rfl | (simp [errW_none, errW_some] <;> rfl) | (simp [*, errW_none, errW_some] <;> rfl), by repeat (first | (with_reducible first | exact HB.out | apply below_alloc | apply pw_below_drewN | apply below_drew1 | refine below_set ?_ GE630.out | refine below_set ?_ GE631.out | refine below_set ?_ GE642.out) | exact HB.out)⟩
  · replace c5 := Bool.eq_false_iff.mpr c5
    subst c5
    have H1 : (some false) = some r := by rw [if_neg (show ¬ (false = true) by decide)] at H; exact H
    clear H
    have H := H1
    clear H1
    obtain rfl := Option.some.inj H
    go_enter Try.func18, Try.ntmps18
    go_wp2_with (first | ((with_reducible refine gate_dst (N := 3) rfl ?_); (try (refine gate_guard (by rfl) ?_; dsimp only)); refine box_event ?hg (N := 3) ?hd (cs := #[.string a0_0, .int .i64 a0_1, .int .i64 a0_2, .int .i64 a0_3, .int .i64 a0_4, .int .i64 a0_5, .slice A0_6 l0_6.length c0_6]) (t := 41) ?hr ?_; (case hd => rfl); (case hg => rfl); (case hr => first | (go_simp; done) | (go_simp; rfl)); intro gb630 hg w62 hbox hb; have n0_ := Aside0.mk (below_step (by repeat (first | (with_reducible first | exact HB.out | apply below_alloc | apply pw_below_drewN | apply below_drew1) | exact HB.out)) hb); have n1_ := Aside0.mk (hbox); have n2_ := Aside0.mk ((by rw [hg]; exact (below_size (by repeat (first | (with_reducible first | exact HB.out | apply below_alloc | apply pw_below_drewN | apply below_drew1) | exact HB.out))) : w.heap.size ≤ gb630)); have n3_ := Aside0.mk ((by rw [hg]; exact (below_size (by repeat (first | (with_reducible first | exact HB.out | apply below_alloc | apply pw_below_drewN | apply below_drew1) | exact HB.out))) : w.heap.size ≤ gb630)); clear HB; have HB := n0_; have BK630 := n1_; have GW630 := n2_; have GE630 := n3_; clear n0_ n1_ n2_ n3_; clear hb hbox hg) | ((with_reducible refine gate_dst (N := 5) rfl ?_); (try (refine gate_guard (by rfl) ?_; dsimp only)); refine box_event ?hg (N := 5) ?hd (cs := #[.slice A2_0 l2_0.length c2_0, .int .i64 a2_1, .slice A2_2 l2_2.length c2_2]) (t := 48) ?hr ?_; (case hd => rfl); (case hg => rfl); (case hr => first | (go_simp; done) | (go_simp; rfl)); intro gb631 hg w63 hbox hb; have n0_ := Aside0.mk (blk_below (g := gb630) (o := .cells #[.string a0_0, .int .i64 a0_1, .int .i64 a0_2, .int .i64 a0_3, .int .i64 a0_4, .int .i64 a0_5, .slice A0_6 l0_6.length c0_6] 41 (0, 0)) (by (with_reducible repeat (first | refine blk_drewN ?_ _ | refine blk_drew ?_ | refine blk_alloc ?_ _)); exact BK630.out) hb); have n1_ := Aside0.mk (below_step (by repeat (first | (with_reducible first | exact HB.out | apply below_alloc | apply pw_below_drewN | apply below_drew1 | refine below_set ?_ GE630.out) | exact HB.out)) hb); have n2_ := Aside0.mk (hbox); have n3_ := Aside0.mk ((by rw [hg]; exact (below_size (by repeat (first | (with_reducible first | exact HB.out | apply below_alloc | apply pw_below_drewN | apply below_drew1 | refine below_set ?_ GE630.out) | exact HB.out))) : w.heap.size ≤ gb631)); have n4_ := Aside0.mk ((by rw [hg]; exact (below_size (by repeat (first | (with_reducible first | exact HB.out | apply below_alloc | apply pw_below_drewN | apply below_drew1 | refine below_set ?_ GE630.out) | exact HB.out))) : w.heap.size ≤ gb631)); have n5_ := Aside0.mk ((by rw [hg]; exact Nat.ne_of_lt (blk_lt (g := gb630) (o := .cells #[.string a0_0, .int .i64 a0_1, .int .i64 a0_2, .int .i64 a0_3, .int .i64 a0_4, .int .i64 a0_5, .slice A0_6 l0_6.length c0_6] 41 (0, 0)) (by (with_reducible repeat (first | refine blk_drewN ?_ _ | refine blk_drew ?_ | refine blk_alloc ?_ _)); exact BK630.out)) : gb630 ≠ gb631)); have n6_ := Aside0.mk ((by rw [hg]; exact Nat.ne_of_gt (blk_lt (g := gb630) (o := .cells #[.string a0_0, .int .i64 a0_1, .int .i64 a0_2, .int .i64 a0_3, .int .i64 a0_4, .int .i64 a0_5, .slice A0_6 l0_6.length c0_6] 41 (0, 0)) (by (with_reducible repeat (first | refine blk_drewN ?_ _ | refine blk_drew ?_ | refine blk_alloc ?_ _)); exact BK630.out)) : gb631 ≠ gb630)); clear BK630; clear HB; have BK630 := n0_; have HB := n1_; have BK631 := n2_; have GW631 := n3_; have GE631 := n4_; have NB630_631 := n5_; have NB631_630 := n6_; clear n0_ n1_ n2_ n3_ n4_ n5_ n6_; clear hb hbox hg) | ((with_reducible refine gate_callee (f := 30) rfl ?_); refine goesL_ (some 9) rfl rfl Try.func30 (by kernel_rfl) rfl #[] rfl (by (try simp only [List.map_toArray, List.map_cons, List.map_nil]); first | done | rfl | (simp only [List.length_drop, List.length_take]; rfl)) ?_; (with_reducible refine (sizarlaw20_sane.calls k  false _ A4.out).mono ?_); rintro e w64 ⟨rfl, hb⟩; refine ⟨_, rfl, ?_⟩; have n0_ := Aside0.mk (blk_below (g := gb630) (o := .cells #[.string a0_0, .int .i64 a0_1, .int .i64 a0_2, .int .i64 a0_3, .int .i64 a0_4, .int .i64 a0_5, .slice A0_6 l0_6.length c0_6] 41 (0, 0)) (by (with_reducible repeat (first | refine blk_drewN ?_ _ | refine blk_drew ?_ | refine blk_alloc ?_ _)); exact BK630.out) hb); have n1_ := Aside0.mk (blk_below (g := gb631) (o := .cells #[.slice A2_0 l2_0.length c2_0, .int .i64 a2_1, .slice A2_2 l2_2.length c2_2] 48 (0, 0)) (by (with_reducible repeat (first | refine blk_drewN ?_ _ | refine blk_drew ?_ | refine blk_alloc ?_ _)); exact BK631.out) hb); have n2_ := Aside0.mk (below_step (by repeat (first | (with_reducible first | exact HB.out | apply below_alloc | apply pw_below_drewN | apply below_drew1 | refine below_set ?_ GE630.out | refine below_set ?_ GE631.out) | exact HB.out)) hb); clear BK630; clear BK631; clear HB; have BK630 := n0_; have BK631 := n1_; have HB := n2_; clear n0_ n1_ n2_; (try clear hb); (try clear hb2); (try clear hk); (try clear hi)))
    go_ret
    exact ⟨by first | rfl | (simp [errW_none, errW_some] <;> rfl) | (simp [*, errW_none, errW_some] <;> rfl), by repeat (first | (with_reducible first | exact HB.out | apply below_alloc | apply pw_below_drewN | apply below_drew1 | refine below_set ?_ GE630.out | refine below_set ?_ GE631.out) | exact HB.out)⟩
end
end Go.Proofs.Ytadeidhefjifaaa.Px
end
section
set_option linter.unusedVariables false
set_option linter.unusedSimpArgs false
namespace Go.Proofs.Ytadeidhefjifaaa.Px.L20
open Go.RowKit Go.Proofs.YtadeidhefjifaaaW.PrintWords Go.Proofs.YtadeidhefjifaaaW.PrintLast Go.Proofs.YtadeidhefjifaaaW.PrintMore
/-- two accepted audits leave the same open -/
theorem chk_same {n u e mn md : Int} {q : List S92} {l : List S44} (hl : l.length ≤ 100) {us us' : List S57} {m m' : Int} {c c' : List Bool} (h : chkP n u e mn md q l us m c = 0) (h' : chkP n u e mn md q l us' m' c' = 0) : m = m' := by
  obtain ⟨a1, a2, a3, a4⟩ := chk_zero h
  obtain ⟨b1, b2, b3, b4⟩ := chk_zero h'
  have p := ((main a1 (by omega) c').2.2 b3).2
  have q := ((main b1 (by omega) c).2.2 a3).2
  omega
end Go.Proofs.Ytadeidhefjifaaa.Px.L20
end
section
set_option linter.unusedVariables false
set_option linter.unusedSimpArgs false
set_option linter.constructorNameAsVariable false
set_option maxRecDepth 100000
namespace Go.Proofs.Ytadeidhefjifaaa.Px
open Go.RowKit Go.Deep Go.ChangeShapes Go.WideShapes Go.Proofs.YtadeidhefjifaaaW.PrintWords Go.Proofs.YtadeidhefjifaaaW.PrintLast Go.Proofs.YtadeidhefjifaaaW.PrintMore
section
variable {H : Type} {enc : TypeId × Value → H} {base : Nat} {spare : Nat → Bool} {held : Bool}
theorem opens_use : Opens enc base spare held 57 k57 := ⟨by kernel_rfl, fun w fuel cs x h => by
  obtain ⟨ys, n', hn', hy, hlen, hyl, hf⟩ := DataW.trod_struct Try.underlying57 h
  have hyl' : ys.length = 3 := hyl
  have hlen : cs.length = 3 := hlen.trans (by kernel_rfl)
  have hys : ∀ j, j < 3 → ∃ y, ys[j]? = some y := fun j hj => ⟨_, List.getElem?_eq_getElem (by omega)⟩
  obtain ⟨n0, e0⟩ := opens_field opens_int (hys 0 (by omega)) (hf 0 _ rfl)
  obtain ⟨n1, e1⟩ := opens_field opens_int (hys 1 (by omega)) (hf 1 _ rfl)
  obtain ⟨n2, e2⟩ := opens_field opens_int (hys 2 (by omega)) (hf 2 _ rfl)
  match cs, hlen with
  | [c0, c1, c2], _ =>
    replace e0 : [c0] = [Value.int .i64 n0] := e0
    replace e1 : [c1] = [Value.int .i64 n1] := e1
    replace e2 : [c2] = [Value.int .i64 n2] := e2
    injection e0 with e0; injection e1 with e1; injection e2 with e2
    subst e0 e1 e2
    exact ⟨⟨n0, n1, n2⟩, k57_mk w _⟩⟩
theorem opens_cut : Opens enc base spare held 24 (Kd.slice 4 Kd.bool) := opens_slice (by kernel_rfl) Try.underlying24 opens_bool
theorem opens_uses : Opens enc base spare held 46 (Kd.slice 57 k57) := opens_slice (by kernel_rfl) Try.underlying46 opens_use
theorem opens_audit : Opens enc base spare held 48 (Kd.pair (Kd.slice 57 k57) (Kd.pair (Kd.int .i64) (Kd.slice 4 Kd.bool))) := ⟨by kernel_rfl, fun w fuel cs x h => by
  obtain ⟨ys, n', hn', hy, hlen, hyl, hf⟩ := DataW.trod_struct Try.underlying48 h
  have hyl' : ys.length = 3 := hyl
  have hlen : cs.length = 3 := hlen.trans (by kernel_rfl)
  have hys : ∀ j, j < 3 → ∃ y, ys[j]? = some y := fun j hj => ⟨_, List.getElem?_eq_getElem (by omega)⟩
  obtain ⟨n0, e0⟩ := opens_field opens_uses (hys 0 (by omega)) (hf 0 _ rfl)
  obtain ⟨n1, e1⟩ := opens_field opens_int (hys 1 (by omega)) (hf 1 _ rfl)
  obtain ⟨n2, e2⟩ := opens_field opens_cut (hys 2 (by omega)) (hf 2 _ rfl)
  match cs, hlen with
  | [c0, c1, c2], _ => exact ⟨(n0, n1, n2), [c0], [c1, c2], rfl, e0, [c1], [c2], rfl, e1, e2⟩⟩
theorem open_audit {w : World} {r : Reach} {b0 : Nat} {v : Value} {D : DataW H} {p : List MemPlace} (hv : Value.okWide Try.prog w r b0 48 v) (h : DataW.Trod enc Try.prog w base spare held 48 v D p) :
    ∃ (A : Option Addr) (c : Nat) (l : List S57) (m : Int) (B : Option Addr) (e : Nat) (k : List Bool), v = .agg #[.slice A l.length c, .int .i64 m, .slice B k.length e] ∧ l.length ≤ c ∧ Kd.C k57 w A l.length l ∧ k.length ≤ e ∧ Kd.C Kd.bool w B k.length k := by
  obtain ⟨cs, rfl, ⟨l, m, k⟩, hK⟩ := open_struct Try.underlying48 opens_audit hv h
  obtain ⟨_, _, rfl, ⟨A, c, rfl, hl, hC⟩, _, _, rfl, rfl, B, e, rfl, hk, hD⟩ := hK
  exact ⟨A, c, l, m, B, e, k, rfl, hl, hC, hk, hD⟩
end
end Go.Proofs.Ytadeidhefjifaaa.Px
end
