/- The iterator of the residual edges that can be used. -/
import Derived.RangeFuncNested
import Derived.RangeFuncBound
import Derived.RangeFuncCalls
import Derived.RangeFuncLeaves
import Derived.Shelf.Abstract
import Derived.Shelf.RegionOpen
import Derived.WalkKit
import Derived.OwnWalkIn
import Derived.TacticsInMore
import Derived.LoopNIn
import Derived.LoopIn
import Derived.RegionIn
import Derived.Test.YtadeidhefjifaaaHLeast
set_option linter.unusedVariables false
set_option linter.unusedSimpArgs false
namespace Go.Proofs.Ytadeidhefjifaaa.Px
open Go.RowKit Go.Shelf Go.Proofs.YtadeidhefjifaaaW.PrintWords Go.Proofs.YtadeidhefjifaaaW.PrintLast Go.Proofs.YtadeidhefjifaaaW.PrintMore
attribute [local go_sem] Oper.semAt_some
theorem row_at {w : World} {A : Option Addr} {n : Nat} {xs : List (List Int)} (h : Kd.C (Kd.slice 3 (Kd.int .i64)) w A n xs) (i : Int) (h0 : 0 ≤ i) (h1 : i < n) :
    ∃ ad A0 c0, A = some ad ∧ w.cell? (ad.add i.toNat) = some (.slice A0 (xs.getD i.toNat []).length c0) ∧ (xs.getD i.toNat []).length ≤ c0 ∧ Kd.C (Kd.int .i64) w A0 (xs.getD i.toNat []).length (xs.getD i.toNat []) := by
  obtain ⟨ad, c, e, _, hK, hc0⟩ := Kd.C_get h ([] : List Int) i h0 h1
  have hc : ∀ j u, c[j]? = some u → w.cell? (ad.add (i.toNat * 1 + j)) = some u := hc0
  obtain ⟨A0, c0, rfl, l0, g0⟩ := hK
  exact ⟨ad, A0, c0, e, by have hq := hc 0 _ rfl; rwa [Nat.mul_one, Nat.add_zero] at hq, l0, g0⟩
/-- a residual edge and the node where it ends -/
abbrev RE (n : Nat) := { x : Int × Int // 0 ≤ x.2 ∧ x.2 < n }
def encRE (n : Nat) (x : RE n) : Array Value := #[.int .i64 x.1.1, .int .i64 x.1.2]
/-- what a round of the search keeps for the iterator -/
def KpS (B b1 : Nat) (W W' : World) : Prop := Below B W W' ∧ ∀ (cs : Array Value) (t : TypeId), W.heap[b1]? = some (Obj.cells cs t (0, 0)) → W'.heap[b1]? = some (Obj.cells cs t (0, 0))
theorem KpS.refl (B b1 : Nat) (W : World) : KpS B b1 W W := ⟨Below.refl _ _, fun _ _ h => h⟩
theorem KpS.trans {B b1 : Nat} {W1 W2 W3 : World} (h : KpS B b1 W1 W2) (k : KpS B b1 W2 W3) : KpS B b1 W1 W3 := ⟨h.1.trans k.1, fun cs t e => k.2 cs t (h.2 cs t e)⟩
/-- the residual edges of a list that can be used -/
def useL (l : List S61) (fl : List Int) (n : Nat) (rs : List Int) : List (RE n) :=
  rs.filterMap fun r => if h : capR l fl r > 0 ∧ 0 ≤ endR l r ∧ endR l r < n then some ⟨(r, endR l r), h.2⟩ else none
theorem useL_snoc (l : List S61) (fl : List Int) (n : Nat) (rs : List Int) (k : Nat) (hk : k < rs.length) (r : Int) (hr : rs[k] = r) :
    useL l fl n (rs.take (k + 1)) = useL l fl n (rs.take k) ++ (if h : capR l fl r > 0 ∧ 0 ≤ endR l r ∧ endR l r < n then [⟨(r, endR l r), h.2⟩] else []) := by
  unfold useL
  rw [List.take_succ_eq_append_getElem hk, List.filterMap_append, hr]
  congr 1
  by_cases h : capR l fl r > 0 ∧ 0 ≤ endR l r ∧ endR l r < n
  · simp [List.filterMap_cons, h]
  · simp [List.filterMap_cons, h]
theorem useL_prefix (l : List S61) (fl : List Int) (n : Nat) (rs : List Int) (k : Nat) : useL l fl n (rs.take k) <+: useL l fl n rs := by
  unfold useL
  conv => rhs; rw [← List.take_append_drop k rs, List.filterMap_append]
  exact List.prefix_append _ _
section
variable {w0 : World} {U : Nat} {w : World} {G : Nat} {A : Option Addr} {c : Nat} {l : List S61} {vF : Value} {fl : List Int} {vA : Value} {adj : List (List Int)}
theorem add_block (a : Addr) (i : Nat) : (a.add i).block = a.block := by unfold Addr.add; split <;> rfl
theorem adj_lt {ad : Addr} {n ca i : Nat} (hN : NS w0 U w G A c l vF fl (.slice (some ad) n ca) adj) (h : 0 < n) : (ad.add i).block < U := by
  rw [add_block]
  exact (hN.hA.1 ad.block (by simp [Value.ownBlock])).1.2
set_option maxRecDepth 100000 in
set_option maxHeartbeats 4000000 in
theorem usable1_in (m n B l0 b1 b2 : Nat) (hm : 1 ≤ m) (hUB : U ≤ B) (W : World) (hN : NS w0 U W G A c l vF fl vA adj) (hk : Okf l fl) (v : Int) (v0 : 0 ≤ v) (v1 : v < adj.length)
    (he : ∀ r : Int, 0 ≤ r → r < 2 * l.length → 0 ≤ endR l r ∧ endR l r < n) (rs : List Int) (hrs : adj.getD v.toNat [] = rs) (hr : ∀ r ∈ rs, 0 ≤ r ∧ r < 2 * (l.length : Int))
    (h1 : W.heap[b1]? = some (.cells #[.pointer (some ⟨G, 0, none⟩)] 76 (0, 0))) (h2 : W.heap[b2]? = some (.cells #[.int .i64 v] 3 (0, 0)))
    (J Jx : List (RE n) → World → Prop)
    (hY : ∀ pre x W1, J pre W1 → pre.length < (useL l fl n rs).length → YieldAt Fence.wide (m - 1) Try.prog l0 (encRE n x) W1 fun e W' =>
      (e = .returned (.bool true) ∧ J (pre ++ [x]) W' ∧ KpS B b1 W1 W') ∨ (e = .returned (.bool false) ∧ Jx (pre ++ [x]) W'))
    (hJd : ∀ pre W1 k, J pre W1 → J pre (W1.drewN k)) (h0 : J [] W) :
    CallsIn Fence.wide m Try.prog 90 #[.func (.yield l0) #[] #[], .pointer (some ⟨b1, 0, none⟩), .pointer (some ⟨b2, 0, none⟩)] W fun e W' => (∃ v, e = .returned v) ∧
      ((∃ ys, ys = useL l fl n rs ∧ J ys W') ∨ (∃ pre, pre <+: useL l fl n rs ∧ Jx pre W')) := by
  have hu81 := Try.underlying81
  have c1 : W.cell? ⟨b1, 0, none⟩ = some (.pointer (some ⟨G, 0, none⟩)) := (blk_cell h1 0).trans rfl
  have c2 : W.cell? ⟨b2, 0, none⟩ = some (.int .i64 v) := (blk_cell h2 0).trans rfl
  have g2 := (blk_cell hN.hG 2).trans (show _ = some _ from rfl)
  have p0 : decide (0 ≤ v) = true := decide_eq_true v0
  have p1 : decide (v < (adj.length : Int)) = true := decide_eq_true v1
  have HN := Aside0.mk hN
  have HY := Aside0.mk hY
  have HJD := Aside0.mk hJd
  have H0 := Aside0.mk h0
  obtain ⟨Aa, ca, rfl, hca, hra⟩ := Kd.R_reads hN.hA
  obtain ⟨ad, A0, c0, e, y0, y1, y2⟩ := row_at hra v v0 v1
  cases e
  rw [hrs] at y0 y1 y2
  have hrl : (rs.length : Int) ≤ 9223372036854775807 := by have := y2.2.1; omega
  have HR := Aside0.mk hr
  have HY2 := Aside0.mk y2
  have HRS := Aside0.mk hrs
  have H1 := Aside0.mk h1
  clear hrs y2 hJd h0 hra h1
  refine callsIn_of_wp Try.func90 rfl trivial ?_ rfl
  simp only [Try.ntmps90, List.size_toArray, List.length_cons, List.length_nil, Nat.reduceAdd, Nat.reduceSub, Array.replicate_succ, Array.replicate_zero, List.push_toArray, List.append_toArray, List.nil_append, List.cons_append]
  gi_wp2
  gi_region
  gi_wp2
  gi_loopw [14] (fun i wr => ∃ (k : Nat), k ≤ rs.length ∧ i = .int .i64 k ∧ Aside0 (J (useL l fl n (rs.take k)) wr) ∧ Aside0 (KpS B b1 W wr)) (fun i _ => rs.length - (intOf i).toNat)
  case atStart => exact ⟨0, by omega, rfl, ⟨HJD.out _ _ 1 H0.out⟩, ⟨⟨below_drew (Below.refl _ _), fun _ _ h => h⟩⟩⟩
  case round =>
    obtain ⟨k, hkl, rfl, HJ, HK⟩ := hrel
    by_cases hlt : k < rs.length
    · have q0 : (0 : Int) ≤ (k : Int) := by omega
      have q1 : (k : Int) < (rs.length : Int) := by omega
      have b0 : decide (k < rs.length) = true := decide_eq_true hlt
      obtain ⟨r, hrk⟩ : ∃ r, rs[k] = r := ⟨_, rfl⟩
      have hrr := HR.out r (by rw [← hrk]; exact List.getElem_mem _)
      have hNr := HN.out.below (HK.out.1.mono hUB)
      obtain ⟨Aa', ca', e, hca', hra'⟩ := Kd.R_reads hNr.hA
      simp only [Value.slice.injEq] at e
      obtain ⟨e, -, -⟩ := e
      subst e
      obtain ⟨ad', A0', c0', e, z0, z1, z2⟩ := row_at hra' v v0 v1
      cases e
      have hcell : wr.cell? (ad.add v.toNat) = W.cell? (ad.add v.toNat) := HK.out.1.cell (Nat.lt_of_lt_of_le (adj_lt HN.out (by omega)) hUB)
      rw [hcell, y0, HRS.out] at z0
      simp only [Option.some.injEq, Value.slice.injEq] at z0
      obtain ⟨rfl, -, rfl⟩ := z0
      rw [HRS.out] at z2
      obtain ⟨ar, e, x0⟩ := rd_at z2 k q0 q1
      cases e
      have hrd : rd rs k = r := by rw [← hrk]; simp [rd, List.getD, hlt]
      rw [hrd, Int.toNat_natCast] at x0
      have hcw : wr.cell? ⟨b1, 0, none⟩ = some (.pointer (some ⟨G, 0, none⟩)) := (blk_cell (HK.out.2 _ _ H1.out) 0).trans rfl
      have kk := hk (r / 2) (by omega) (by omega)
      have hcap := cap_calls hNr r hrr.1 hrr.2 kk.1.1 kk.1.2 kk.2.1 kk.2.2
      have HCAP := Aside0.mk hcap
      have HNr := Aside0.mk hNr
      clear hcap z1 z2 hra' hNr hrd hcell hca'
      have hen := he r hrr.1 hrr.2
      have hsn := useL_snoc l fl n rs k hlt r hrk
      have hpf := useL_prefix l fl n rs (k + 1)
      by_cases hcp : capR l fl r > 0
      · have b1' : decide (0 < capR l fl r) = true := decide_eq_true hcp
        rw [dif_pos ⟨hcp, hen⟩] at hsn
        obtain ⟨x, hx⟩ : ∃ x : RE n, x = ⟨(r, endR l r), hen⟩ := ⟨_, rfl⟩
        rw [← hx] at hsn
        have hx1 : x.1.1 = r := by rw [hx]
        have hx2 : x.1.2 = endR l r := by rw [hx]
        have hlen : (useL l fl n (rs.take k)).length < (useL l fl n rs).length := by
          have := hpf.length_le
          rw [hsn] at this; simp at this; omega
        have HS := Aside0.mk hsn
        have HP := Aside0.mk hpf
        have HX := Aside0.mk (And.intro hx1 hx2)
        clear hsn hpf hx hen
        gi_wp2_with fail
        refine ⟨trivial, (callsIn_wide.2 HCAP.out).mono ?_⟩
        rintro e w1 ⟨rfl, ⟨⟨nn, rfl⟩⟩⟩
        have hEND := end_calls (HNr.out.below (pw_below_drewN (Below.refl _ _) nn)) r hrr.1 hrr.2
        rw [← HX.out.2] at hEND
        have HEND := Aside0.mk hEND
        obtain ⟨fn, tmps, assign, body, hy, hR⟩ := HY.out (useL l fl n (rs.take k)) x (wr.drewN nn) (HJD.out _ _ _ HJ.out) hlen
        unfold encRE at hy
        rw [HX.out.1] at hy
        have HRR := Aside0.mk hR
        clear hR hx1 hx2 hEND hlen
        gi_wp2_with fail
        refine ⟨trivial, (callsIn_wide.2 HEND.out).mono ?_⟩
        rintro e w1 ⟨rfl, rfl⟩
        gi_wp2_with fail
        refine HRR.out.mono ?_
        rintro e W3 (⟨rfl, hJ3, hk3⟩ | ⟨rfl, hJx3⟩)
        · rw [← HS.out] at hJ3
          have HJ3 := Aside0.mk hJ3
          have HK3 := Aside0.mk ((HK.out.trans ⟨pw_below_drewN (Below.refl _ _) nn, fun _ _ h => h⟩).trans hk3)
          clear hJ3 hk3
          gi_wp2
          go_roundw
          case rel => exact ⟨k + 1, by omega, by simp, HJ3, HK3⟩
          case measure => simp [intOf]; omega
        · rw [← HS.out] at hJx3
          have HJ3 := Aside0.mk hJx3
          clear hJx3
          gi_wp2
          refine bodyPost_ret (results_none rfl _ _ _) rfl ?_
          exact ⟨⟨_, rfl⟩, .inr ⟨_, HP.out, HJ3.out⟩⟩
      · have b1' : decide (0 < capR l fl r) = false := decide_eq_false hcp
        rw [dif_neg (fun h => hcp h.1), List.append_nil] at hsn
        have HS := Aside0.mk hsn
        clear hsn hpf hen
        gi_wp2_with fail
        refine ⟨trivial, (callsIn_wide.2 HCAP.out).mono ?_⟩
        rintro e w1 ⟨rfl, ⟨⟨nn, rfl⟩⟩⟩
        gi_wp2
        refine ⟨trivial, ?_⟩
        gi_wp2
        refine ⟨fun _ h => (by cases h), ?_⟩
        gi_wp2
        go_roundw
        case rel => exact ⟨k + 1, by omega, by simp, ⟨by rw [HS.out]; exact HJD.out _ _ _ HJ.out⟩, ⟨HK.out.trans ⟨pw_below_drewN (Below.refl _ _) nn, fun _ _ h => h⟩⟩⟩
        case measure => simp [intOf]; omega
    · have b0 : decide (k < rs.length) = false := decide_eq_false hlt
      have hJ := HJ.out
      rw [List.take_of_length_le (by omega)] at hJ
      have HJ' := Aside0.mk hJ
      clear hJ
      gi_wp2
      go_end0
      exact ⟨⟨_, rfl⟩, .inl ⟨_, rfl, HJ'.out⟩⟩
end
end Go.Proofs.Ytadeidhefjifaaa.Px
